/- Texts of this claim, joined by a program of this session's (wip/tools/pack.py). -/
import Derived.Test.YtdgmkfbmeaalpaaDoorRowFnPsalmMoveK2
section
namespace Go.Proofs.YtdgmkfbmeaalpaaDoor.E
open Go.RowKit Go.Proofs.YtdgmkfbmeaalpaaDoorW.PrintWords Go.Proofs.YtdgmkfbmeaalpaaDoorW.PrintLast Go.Proofs.YtdgmkfbmeaalpaaDoorW.PrintMore
attribute [local go_sem] max2_int min2_int max_two min_two max_three min_three max_four min_four
set_option linter.unusedVariables false
set_option linter.unusedSimpArgs false
attribute [local go_sem] str_leq_ str_gtr_ str_geq_
mutual
def spec_l2Moved.l0 : Nat → List (S25) → Int → Int → List (S25) → Int → Option ((List (S25)) × Bool)
 | 0, _, _, _, _, _ => none
 | k + 1, x0, x1, x2, x8, x9 => if x9 < (x0.length : Int) then (spec_l2Moved.l1 k x0 x1 x2 x8 x9 false 0) else (some (x8, true))
def spec_l2Moved.l1 : Nat → List (S25) → Int → Int → List (S25) → Int → Bool → Int → Option ((List (S25)) × Bool)
 | 0, _, _, _, _, _, _, _ => none
 | k + 1, x0, x1, x2, x8, x9, x10, x11 => if x11 < 2 then (spec_l2Moved.j2 k x0 x1 x2 x8 x9 x10 x11 (!x10)) else (spec_l2Moved.j2 k x0 x1 x2 x8 x9 x10 x11 false)
def spec_l2Moved.j2 : Nat → List (S25) → Int → Int → List (S25) → Int → Bool → Int → Bool → Option ((List (S25)) × Bool)
 | 0, _, _, _, _, _, _, _, _ => none
 | k + 1, x0, x1, x2, x8, x9, x10, x11, x25 => if x25 = true then (if 0 ≤ x9 then (if x9 < (x0.length : Int) then ((spec_ToneValid.f (wrap64 (((rd_T25 x0 x9).f0) + x1)) (x11 == 1)).bind fun t1054 => (if t1054 = true then ((spec_l1Height.f (wrap64 (((rd_T25 x0 x9).f0) + x1)) (x11 == 1)).bind fun t1055 => ((spec_l1Height.f ((rd_T25 x0 x9).f0) ((rd_T25 x0 x9).f1)).bind fun t1057 => (if (wrap64 (t1055 - t1057)) = x2 then (if x8.length < 8796093022208 then (spec_l2Moved.l1 k x0 x1 x2 (x8 ++ [(⟨wrap64 (((rd_T25 x0 x9).f0) + x1), (x11 == 1)⟩ : S25)]) x9 true (wrap64 (x11 + 1))) else (none)) else (spec_l2Moved.l1 k x0 x1 x2 x8 x9 x10 (wrap64 (x11 + 1)))))) else (spec_l2Moved.l1 k x0 x1 x2 x8 x9 x10 (wrap64 (x11 + 1))))) else (none)) else (none)) else (if x10 = true then (spec_l2Moved.l0 k x0 x1 x2 x8 (wrap64 (x9 + 1))) else (some ((([] : List (S25))), false)))
end
def spec_l2Moved.f (k : Nat) (l0 : List (S25)) (a1 : Int) (a2 : Int) : Option ((List (S25)) × Bool) := spec_l2Moved.l0 k l0 a1 a2 (([] : List (S25))) 0
def spec_l2Moved.T10 : Bool × List (List Nat × List Nat) := (true, [([], []), ([0], [0]), ([1, 1], [1]), ([2], [2]), ([3, 2, 2], [2, 3]), ([2], [2]), ([2], [2]), ([5, 6, 2], [2, 5, 6]), ([7, 2], [2, 7]), ([8, 4, 2], [2, 8]), ([4, 9, 2], [2, 4, 9]), ([2], [2]), ([10, 11, 2], [2, 10, 11]), ([2, 12], [2, 12])])
def spec_l2Moved.B10 : List Nat := [0, 1, 3, 7, 15, 7, 7, 103, 231, 511, 1023, 7, 4095, 8191]
theorem spec_l2Moved.tab10 : rtab .any (opsOf Tryd.f100 10) = spec_l2Moved.T10 := by kernel_rfl
theorem spec_l2Moved.bits10 : waitsOk spec_l2Moved.T10.2 spec_l2Moved.B10 = true := by kernel_rfl
set_option maxHeartbeats 8000000 in
set_option maxRecDepth 100000 in
theorem spec_l2Moved.calls (k : Nat) (A0 : Option Addr) (c0 : Nat) (l0 : List (S25)) (a1 : Int) (a2 : Int) (r1 : List (S25)) (r2 : Bool) (w : World) (hr0 : Kd.C k25 w A0 l0.length l0) (hc0 : l0.length ≤ c0) (h : spec_l2Moved.f k l0 a1 a2 = some (r1, r2)) :
  Calls Tryd.prog 100 #[.slice A0 l0.length c0, .int .i64 a1, .int .i64 a2] w fun e w' => ∃ v0_ : Value, e = .returned (.tuple #[v0_, .bool r2]) ∧ Kd.R k25 25 w' w.heap.size (fun _ => True) v0_ r1 ∧ Below w.heap.size w w' := by
 have hu25 := Tryd.underlying25
 have HR0 := Aside0.mk hr0
 have HC0 := Aside0.mk hc0
 clear hr0 hc0
 have HB := Q0_ (Below.refl w.heap.size w)
 have H : (spec_l2Moved.l0 k l0 a1 a2 (([] : List (S25))) 0) = some (r1, r2) := h
 clear h
 obtain ⟨y1046, hy1046⟩ : ∃ y_ : List (S25), y_ = (([] : List (S25))) := ⟨_, rfl⟩
 replace H : (spec_l2Moved.l0 k l0 a1 a2 y1046 0) = some (r1, r2) := by first | (rw [hy1046]; with_reducible exact H) | (have H2_ := (Option.bind_some _ _).symm.trans H; rw [hy1046]; with_reducible exact H2_) | (have H2_ := (Option.bind_some _ _).symm.trans H; with_reducible exact H2_) | with_reducible exact H | (rw [hy1046]; exact H) | exact H
 have Ny1046 := Aside0.mk hy1046
 clear hy1046
 have H' := Aside0.mk H
 clear H
 go_enter Tryd.func100, Tryd.ntmps100
 go_wp2_with (first | ((with_reducible refine gate_dst (N := 13) rfl ?_); refine Kd.R_lit k25 _ 25 ?hg (N := 13) ?hd (xs := ([] : List (S25))) (inner := []) (ok := fun _ => True) (okp := fun _ => True) ?hr ?hp (fun _ hk => hk) trivial (Below.refl _ _) (Nat.le_refl _) (by simp) ?_; (case hd => rfl); (case hg => rfl); (case hr => first | (go_simp; done) | (go_simp; rfl)); (case hp => exact (Reps.none _ _)); intro v1047 w4 ho5 hb hg_ hnew_; clear hg_ hnew_; (first | rw [← Ny1046.out] at ho5 | (simp only [Int.reduceToNat] at ho5; rw [← Ny1046.out] at ho5)); have n0_ := Q0_ (Kd.R_lower ho5 (below_size (upB HB))); have n1_ := Q0_ (below_step (upB HB) hb); clear HB; revert n0_ n1_; intro HO1048 HB; clear hb ho5))
 go_loopg [8, 9] k (fun kq v8 v9 w' => ∃ (x8_1 : List (S25)) (x9_1 : Int), v9 = .int .i64 x9_1 ∧ Aside0 (spec_l2Moved.l0 kq l0 a1 a2 x8_1 x9_1 = some (r1, r2)) ∧ Aside0 (kq ≤ k) ∧ Aside0 (Kd.R k25 25 w' w.heap.size (fun _ => True) v8 x8_1) ∧ Aside0 (Below w.heap.size w w'))
 case atStart => exact ⟨(y1046), (0), eX, H', ⟨Nat.le_refl _⟩, ⟨by (repeat refine R_q ?_); exact HO1048.out⟩, ⟨by repeat (first | (with_reducible first | exact HB.out | apply below_alloc | apply pw_below_drewN | apply below_drew1) | exact HB.out)⟩⟩
 case round =>
  clear H'
  try clear c1
  try clear p2
  obtain ⟨x8_1, x9_1, rfl, HA, HK1, HO_8, HB⟩ := hrel
  cases gk with
  | zero => exact absurd HA.out (by simp [spec_l2Moved.l0])
  | succ k1 =>
   have H := HA.out
   clear HA
   simp only [spec_l2Moved.l0] at H
   by_cases c6 : x9_1 < (l0.length : Int)
   rotate_left
   ·rw [if_neg c6] at H
    have c6b0 : decide (x9_1 < (l0.length : Int)) = false := decide_eq_false c6
    clear c6
    simp only [Option.some.injEq, Prod.mk.injEq] at H
    obtain ⟨rfl, rfl⟩ := H
    go_wp2
    go_ret2
    exact ⟨_, by first | rfl | (simp [errW_none, errW_some] <;> rfl) | (simp [*, errW_none, errW_some] <;> rfl), by (repeat refine R_q ?_); exact HO_8.out, by repeat (first | (with_reducible first | exact HB.out | apply below_alloc | apply pw_below_drewN | apply below_drew1) | exact HB.out)⟩
   rw [if_pos c6] at H
   have c6b0 : decide (x9_1 < (l0.length : Int)) = true := decide_eq_true c6
   clear c6
   have H' := Aside0.mk H
   clear H
   go_wp2
   go_loopg [8, 10, 11] k1 (fun kq v8 v10 v11 w' => ∃ (x8_2 : List (S25)) (x10_2 : Bool) (x11_2 : Int), v10 = .bool x10_2 ∧ v11 = .int .i64 x11_2 ∧ Aside0 (spec_l2Moved.l1 kq l0 a1 a2 x8_2 x9_1 x10_2 x11_2 = some (r1, r2)) ∧ Aside0 (kq ≤ k1) ∧ Aside0 (Kd.R k25 25 w' w.heap.size (fun _ => True) v8 x8_2) ∧ Aside0 (Below w.heap.size w w'))
   case atStart => exact ⟨(x8_1), (false), (0), eX, eX, H', ⟨Nat.le_refl _⟩, ⟨by (repeat refine R_q ?_); exact HO_8.out⟩, ⟨by repeat (first | (with_reducible first | exact HB.out | apply below_alloc | apply pw_below_drewN | apply below_drew1) | exact HB.out)⟩⟩
   case round =>
    clear H'
    try clear c1
    try clear p2
    try clear c6
    try clear c6b0
    try clear p2
    obtain ⟨x8_2, x10_2, x11_2, rfl, rfl, HA, HK2, HO_8, HB⟩ := hrel
    cases gk with
    | zero => exact absurd HA.out (by simp [spec_l2Moved.l1])
    | succ k2 =>
     have H := HA.out
     clear HA
     simp only [spec_l2Moved.l1] at H
     have HC7 := Aside0.mk H
     clear H
     go_upto_region 7 with (fail)
     go_cut [25] (fun v25 wc => ∃ (kq : Nat) (x25_6 : Bool), v25 = .bool x25_6 ∧ Aside0 (spec_l2Moved.j2 kq l0 a1 a2 x8_2 x9_1 x10_2 x11_2 x25_6 = some (r1, r2)) ∧ Aside0 (kq ≤ k2) ∧ Aside0 (Kd.R k25 25 wc w.heap.size (fun _ => True) u8 x8_2) ∧ Aside0 (Below w.heap.size w wc))
     case first =>
      have H := HC7.out
      clear HC7
      by_cases c8 : x11_2 < 2
      rotate_left
      ·rw [if_neg c8] at H
       have c8b0 : decide (x11_2 < 2) = false := decide_eq_false c8
       clear c8
       (first | rw [c8b0] | (simp only [i64_w, i32_w]; rw [c8b0]) | skip)
       have H' := Aside0.mk H
       clear H
       go_wp2
       go_meet
       case rel => exact ⟨_, (false), eX, H', ⟨by have := HK1.out; have := HK2.out; first | omega | exact Nat.le_refl _⟩, ⟨by (repeat refine R_q ?_); exact HO_8.out⟩, ⟨by repeat (first | (with_reducible first | exact HB.out | apply below_alloc | apply pw_below_drewN | apply below_drew1) | exact HB.out)⟩⟩
      rw [if_pos c8] at H
      have c8b0 : decide (x11_2 < 2) = true := decide_eq_true c8
      clear c8
      (first | rw [c8b0] | (simp only [i64_w, i32_w]; rw [c8b0]) | skip)
      have H' := Aside0.mk H
      clear H
      go_wp2
      go_meet
      case rel => exact ⟨_, (!x10_2), eX, H', ⟨by have := HK1.out; have := HK2.out; first | omega | exact Nat.le_refl _⟩, ⟨by (repeat refine R_q ?_); exact HO_8.out⟩, ⟨by repeat (first | (with_reducible first | exact HB.out | apply below_alloc | apply pw_below_drewN | apply below_drew1) | exact HB.out)⟩⟩
     case rest =>
      clear HC7
      try clear c1
      try clear p2
      try clear c6
      try clear c6b0
      try clear c8
      try clear c8b0
      try clear p2
      obtain ⟨kq, x25_6, rfl, HA, HJ6, HO_8, HB⟩ := hcut
      cases kq with
      | zero => exact absurd HA.out (by simp [spec_l2Moved.j2])
      | succ kj6 =>
       have H := HA.out
       clear HA
       simp only [spec_l2Moved.j2] at H
       by_cases c9 : x25_6 = true
       rotate_left
       ·replace c9 := Bool.eq_false_iff.mpr c9
        subst c9
        replace H := ifN ((show ¬ (false = true) by decide)) H
        by_cases c39 : x10_2 = true
        ·subst c39
         replace H := ifP (rfl) H
         have H' := Aside0.mk H
         clear H
         go_wp2
         go_roundg kj6
         case measure => have := HK1.out; have := HK2.out; have := HJ6.out; omega
         case rel => exact ⟨(x8_2), (wrap64 (x9_1 + 1)), eX, H', ⟨by have := HK1.out; have := HK2.out; have := HJ6.out; omega⟩, ⟨by (repeat refine R_q ?_); exact HO_8.out⟩, ⟨by repeat (first | (with_reducible first | exact HB.out | apply below_alloc | apply pw_below_drewN | apply below_drew1) | exact HB.out)⟩⟩
        replace c39 := Bool.eq_false_iff.mpr c39
        subst c39
        replace H := ifN ((show ¬ (false = true) by decide)) H
        obtain ⟨y1049, hy1049⟩ : ∃ y_ : List (S25), y_ = (([] : List (S25))) := ⟨_, rfl⟩
        replace H : (some (y1049, false)) = some (r1, r2) := by first | (rw [hy1049]; with_reducible exact H) | (have H2_ := (Option.bind_some _ _).symm.trans H; rw [hy1049]; with_reducible exact H2_) | (have H2_ := (Option.bind_some _ _).symm.trans H; with_reducible exact H2_) | with_reducible exact H | (rw [hy1049]; exact H) | exact H
        have Ny1049 := Aside0.mk hy1049
        clear hy1049
        simp only [Option.some.injEq, Prod.mk.injEq] at H
        obtain ⟨rfl, rfl⟩ := H
        go_wp2_with (first | ((with_reducible refine gate_dst (N := 58) rfl ?_); refine Kd.R_lit k25 _ 25 ?hg (N := 58) ?hd (xs := ([] : List (S25))) (inner := []) (ok := fun _ => True) (okp := fun _ => True) ?hr ?hp (fun _ hk => hk) trivial (Below.refl _ _) (Nat.le_refl _) (by simp) ?_; (case hd => rfl); (case hg => rfl); (case hr => first | (go_simp; done) | (go_simp; rfl)); (case hp => exact (Reps.none _ _)); intro v1050 w40 ho41 hb hg_ hnew_; clear hg_ hnew_; (first | rw [← Ny1049.out] at ho41 | (simp only [Int.reduceToNat] at ho41; rw [← Ny1049.out] at ho41)); have n0_ := Q0_ (Kd.R_elder' (upR HO_8) (Kd.R_base ho41) hb); have n1_ := Q0_ (Kd.R_lower (Kd.R_new' ho41 (Kd.R_lt (upR HO_8))) (below_size (upB HB))); have n2_ := Q0_ (below_step (upB HB) hb); clear HO_8 HB; revert n0_ n1_ n2_; intro HO_8 HO1051 HB; clear hb ho41))
        go_ret2
        exact ⟨_, by first | rfl | (simp [errW_none, errW_some] <;> rfl) | (simp [*, errW_none, errW_some] <;> rfl), by (repeat refine R_q ?_); exact Kd.R_mono HO1051.out (fun _ hk => trivial), by repeat (first | (with_reducible first | exact HB.out | apply below_alloc | apply pw_below_drewN | apply below_drew1) | exact HB.out)⟩
       subst c9
       replace H := ifP (rfl) H
       by_cases c10 : 0 ≤ x9_1
       rotate_left
       ·rw [if_neg c10] at H
        exact absurd H (by simp)
       rw [if_pos c10] at H
       have c10b0 : decide (0 ≤ x9_1) = true := decide_eq_true c10
       clear c10
       by_cases c11 : x9_1 < (l0.length : Int)
       rotate_left
       ·rw [if_neg c11] at H
        exact absurd H (by simp)
       rw [if_pos c11] at H
       have c11b0 : decide (x9_1 < (l0.length : Int)) = true := decide_eq_true c11
       clear c11
       obtain ⟨t1054, A120, H⟩ := Option.bind_eq_some_iff.mp H
       try dsimp only at H
       have A12 := Aside0.mk A120
       clear A120
       by_cases c13 : t1054 = true
       rotate_left
       ·replace c13 := Bool.eq_false_iff.mpr c13
        subst c13
        replace H := ifN ((show ¬ (false = true) by decide)) H
        have H' := Aside0.mk H
        clear H
        have p1052 : 0 ≤ (x9_1 : Int) := of_decide_eq_true aS
        have q1052 : x9_1 < (l0.length : Int) := of_decide_eq_true aS
        obtain ⟨ad1052, e1052, hx1052_0, hx1052_1⟩ := at_T25 HR0.out x9_1 p1052 q1052
        cases e1052
        replace hx1052_0 := (HB.out.cell (World.block_lt_of_cell? w _ hx1052_0)).trans hx1052_0
        replace hx1052_1 := (HB.out.cell (World.block_lt_of_cell? w _ hx1052_1)).trans hx1052_1
        replace p1052 := eq_true p1052
        replace q1052 := eq_true q1052
        try go_wp2_with (first | ((with_reducible refine gate_dst (N := 12) rfl ?_); refine box_event ?hg (N := 12) ?hd (cs := #[.int .i64 0, .bool false]) (t := 25) ?hr ?_; (case hd => rfl); (case hg => rfl); (case hr => first | (go_simp; done) | (go_simp; rfl)); intro gb1053 hg w34 hbox hb; have n0_ := Q0_ (Kd.R_below (Kd.R_elderB (upR HO_8) gb1053 (Nat.le_of_eq hg.symm)) hb); have n1_ := Q0_ (below_step (upB HB) hb); have n2_ := Q0_ (hbox); have n3_ := Q0_ ((by rw [hg]; exact (below_size (upB HB)) : w.heap.size ≤ gb1053)); have n4_ := Q0_ ((by rw [hg]; exact (below_size (upB HB)) : w.heap.size ≤ gb1053)); clear HO_8 HB; revert n0_ n1_ n2_ n3_ n4_; intro HO_8 HB BK1053 GW1053 GE1053; clear hb hbox hg; have hcz35_0 : w34.cell? ⟨gb1053, 0, none⟩ = some (.int .i64 0) := (blk_cell BK1053.out 0).trans rfl; have hcz35_1 : w34.cell? ⟨gb1053, 1, none⟩ = some (.bool false) := (blk_cell BK1053.out 1).trans rfl; have hfz35_0 := blk_frozen BK1053.out 0; have hfz35_1 := blk_frozen BK1053.out 1))
        have n0_ : Aside0 (Kd.R k25 25 ((w34.setCell ⟨gb1053, 0, none⟩ (.int .i64 (wrap64 (((rd_T25 l0 x9_1).f0) + a1)))).setCell ⟨gb1053, 1, none⟩ (.bool (x11_2 == 1))) w.heap.size (fun k_ => k_ ≠ gb1053) u8 x8_2) := ⟨by (repeat refine R_q ?_); exact Kd.R_mono (Kd.R_far (p := ⟨gb1053, 1, none⟩) (Kd.R_far (p := ⟨gb1053, 0, none⟩) (Kd.R_mono HO_8.out (fun k_ hk => (⟨hk, hk.2⟩ : _ ∧ k_ ≠ gb1053))) (fun _ hk => hk.2) (.int .i64 (wrap64 (((rd_T25 l0 x9_1).f0) + a1)))) (fun _ hk => hk.2) (.bool (x11_2 == 1))) (fun _ hk => hk.1.2)⟩
        have n1_ : Aside0 (((w34.setCell ⟨gb1053, 0, none⟩ (.int .i64 (wrap64 (((rd_T25 l0 x9_1).f0) + a1)))).setCell ⟨gb1053, 1, none⟩ (.bool (x11_2 == 1))).heap[gb1053]? = some (.cells #[.int .i64 (wrap64 (((rd_T25 l0 x9_1).f0) + a1)), .bool (x11_2 == 1)] 25 (0, 0))) := ⟨by (repeat refine blk_q ?_); refine blk_put (cs := #[.int .i64 (wrap64 (((rd_T25 l0 x9_1).f0) + a1)), .bool false]) ?_ 1 _ rfl; (repeat refine blk_q ?_); refine blk_put (cs := #[.int .i64 0, .bool false]) ?_ 0 _ rfl; (repeat refine blk_q ?_); exact BK1053.out⟩
        have n2_ : Aside0 (Below w.heap.size w ((w34.setCell ⟨gb1053, 0, none⟩ (.int .i64 (wrap64 (((rd_T25 l0 x9_1).f0) + a1)))).setCell ⟨gb1053, 1, none⟩ (.bool (x11_2 == 1)))) := ⟨by repeat (first | (with_reducible first | exact HB.out | apply below_alloc | apply pw_below_drewN | apply below_drew1 | refine below_set ?_ GE1053.out) | exact HB.out)⟩
        (try clear HO_8)
        (try clear BK1053)
        (try clear HB)
        generalize ((w34.setCell ⟨gb1053, 0, none⟩ (.int .i64 (wrap64 (((rd_T25 l0 x9_1).f0) + a1)))).setCell ⟨gb1053, 1, none⟩ (.bool (x11_2 == 1))) = w36 at n0_ n1_ n2_ ⊢
        have HO_8 := n0_
        have BK1053 := n1_
        have HB := n2_
        clear n0_ n1_ n2_
        have n0_ := Q0_ (Kd.R_drew HO_8.out)
        have n1_ := Q0_ (blk_drew BK1053.out)
        have n2_ := Q0_ (below_drew1 HB.out)
        clear HO_8 BK1053 HB; revert n0_ n1_ n2_; intro HO_8 BK1053 HB
        refine start_ (n := 14) (S := fun w' => w'.cell? ⟨gb1053, 0, none⟩ = some (.int .i64 (wrap64 (((rd_T25 l0 x9_1).f0) + a1))) ∧ w'.cell? ⟨gb1053, 1, none⟩ = some (.bool (x11_2 == 1))) (ds := []) #[ff,ff,ff,ff,ff,ff,ff,ff,ff,ff,ff,ff,ff,ff] (by kernel_rfl) rfl rfl ⟨(blk_cell BK1053.out 0).trans rfl, (blk_cell BK1053.out 1).trans rfl⟩ (fun hHeld => ?_); refine with_tabW spec_l2Moved.tab10 spec_l2Moved.bits10 (fun HT_ HW_ => ?_)
        generalize w36.drew = w37 at HO_8 BK1053 HB hHeld ⊢
        refine tQ HT_ HW_ 0 (some 38) #[tt,ff,ff,ff,ff,ff,ff,ff,ff,ff,ff,ff,ff,ff] rfl rfl hHeld (by rintro w' ⟨s0, s1⟩; go_simp; with_reducible rfl) ?_
        refine one_ (i := 1) (N := some 39) #[tt,tt,ff,ff,ff,ff,ff,ff,ff,ff,ff,ff,ff,ff] rfl rfl (one_of HT_.out (by kernel_rfl)) (by decide) (fun K hK => ?_)
        refine goes_ Tryd.func89 (by kernel_rfl) rfl #[.agg #[.int .i64 (wrap64 (((rd_T25 l0 x9_1).f0) + a1)), .bool (x11_2 == 1)]] (by rfl) rfl rfl hM ?_
        with_reducible refine (spec_ToneValid.calls (wrap64 (((rd_T25 l0 x9_1).f0) + a1)) (x11_2 == 1) false _ A12.out).mono ?_
        rintro e w38 ⟨rfl, hb⟩
        refine ⟨_, rfl, ?_⟩
        have n0_ := Q0_ (Kd.R_below (upR HO_8) hb)
        have n1_ := Q0_ (blk_below (upK BK1053) hb)
        have n2_ := Q0_ (below_step upH hb)
        clear HO_8 BK1053 HB; revert n0_ n1_ n2_; intro HO_8 BK1053 HB
        (try clear hb)
        (try clear hb2)
        (try clear hk)
        (try clear hi)
        refine hK.out _ _ ⟨(blk_cell BK1053.out 0).trans rfl, (blk_cell BK1053.out 1).trans rfl⟩ (fun hHeld => ?_)
        clear hK K
        refine norm_ (a' := ?_) ?_ ?_
        rotate_left
        ·show Act.put _ (some 39) _ = _
         simp only [Act.put, sI, s0, sS, i64_w, i32_w]
         rfl
        refine pQ HT_ 2 (some 40) #[tt,tt,tt,ff,ff,ff,ff,ff,ff,ff,ff,ff,ff,ff] rfl rfl ?_
        refine pU HT_ 3 (some 41) #[tt,tt,tt,tt,ff,ff,ff,ff,ff,ff,ff,ff,ff,ff] rfl rfl ?_
        refine pU HT_ 4 (some 42) #[tt,tt,tt,tt,tt,ff,ff,ff,ff,ff,ff,ff,ff,ff] rfl rfl ?_
        refine pU HT_ 5 (some 43) #[tt,tt,tt,tt,tt,tt,ff,ff,ff,ff,ff,ff,ff,ff] rfl rfl ?_
        refine pU HT_ 6 (some 44) #[tt,tt,tt,tt,tt,tt,tt,ff,ff,ff,ff,ff,ff,ff] rfl rfl ?_
        refine pU HT_ 7 (some 45) #[tt,tt,tt,tt,tt,tt,tt,tt,ff,ff,ff,ff,ff,ff] rfl rfl ?_
        refine pU HT_ 8 (some 46) #[tt,tt,tt,tt,tt,tt,tt,tt,tt,ff,ff,ff,ff,ff] rfl rfl ?_
        refine pU HT_ 9 (some 47) #[tt,tt,tt,tt,tt,tt,tt,tt,tt,tt,ff,ff,ff,ff] rfl rfl ?_
        refine pU HT_ 10 (some 48) #[tt,tt,tt,tt,tt,tt,tt,tt,tt,tt,tt,ff,ff,ff] rfl rfl ?_
        refine pU HT_ 11 (some 49) #[tt,tt,tt,tt,tt,tt,tt,tt,tt,tt,tt,tt,ff,ff] rfl rfl ?_
        refine pU HT_ 12 (some 50) #[tt,tt,tt,tt,tt,tt,tt,tt,tt,tt,tt,tt,tt,ff] rfl rfl ?_
        refine pQ HT_ 13 (some 51) #[tt,tt,tt,tt,tt,tt,tt,tt,tt,tt,tt,tt,tt,tt] rfl rfl ?_
        refine done_ (done_of HT_.out (by kernel_rfl)) ?_
        try go_wp2
        go_roundg kj6
        case measure => have := HK1.out; have := HK2.out; have := HJ6.out; omega
        case rel => exact ⟨(x8_2), (x10_2), (wrap64 (x11_2 + 1)), eX, eX, H', ⟨by have := HK1.out; have := HK2.out; have := HJ6.out; omega⟩, ⟨by (repeat refine R_q ?_); exact Kd.R_mono HO_8.out (fun _ hk => trivial)⟩, ⟨by repeat (first | (with_reducible first | exact HB.out | apply below_alloc | apply pw_below_drewN | apply below_drew1 | refine below_set ?_ GE1053.out) | exact HB.out)⟩⟩
       subst c13
       replace H := ifP (rfl) H
       obtain ⟨t1055, A140, H⟩ := Option.bind_eq_some_iff.mp H
       try dsimp only at H
       have A14 := Aside0.mk A140
       clear A140
       obtain ⟨t1057, A150, H⟩ := Option.bind_eq_some_iff.mp H
       try dsimp only at H
       have A15 := Aside0.mk A150
       clear A150
       by_cases c16 : (wrap64 (t1055 - t1057)) = a2
       rotate_left
       ·rw [if_neg c16] at H
        have c16b0 : ((wrap64 (t1055 - t1057)) == a2) = false := beq_eq_false_iff_ne.mpr c16
        have c16b1 : ((wrap64 (t1055 - t1057)) != a2) = true := bne_iff_ne.mpr c16
        have H' := Aside0.mk H
        clear H
        have p1052 : 0 ≤ (x9_1 : Int) := of_decide_eq_true aS
        have q1052 : x9_1 < (l0.length : Int) := of_decide_eq_true aS
        obtain ⟨ad1052, e1052, hx1052_0, hx1052_1⟩ := at_T25 HR0.out x9_1 p1052 q1052
        cases e1052
        replace hx1052_0 := (HB.out.cell (World.block_lt_of_cell? w _ hx1052_0)).trans hx1052_0
        replace hx1052_1 := (HB.out.cell (World.block_lt_of_cell? w _ hx1052_1)).trans hx1052_1
        replace p1052 := eq_true p1052
        replace q1052 := eq_true q1052
        try go_wp2_with (first | ((with_reducible refine gate_dst (N := 12) rfl ?_); refine box_event ?hg (N := 12) ?hd (cs := #[.int .i64 0, .bool false]) (t := 25) ?hr ?_; (case hd => rfl); (case hg => rfl); (case hr => first | (go_simp; done) | (go_simp; rfl)); intro gb1053 hg w27 hbox hb; have n0_ := Q0_ (Kd.R_below (Kd.R_elderB (upR HO_8) gb1053 (Nat.le_of_eq hg.symm)) hb); have n1_ := Q0_ (below_step (upB HB) hb); have n2_ := Q0_ (hbox); have n3_ := Q0_ ((by rw [hg]; exact (below_size (upB HB)) : w.heap.size ≤ gb1053)); have n4_ := Q0_ ((by rw [hg]; exact (below_size (upB HB)) : w.heap.size ≤ gb1053)); clear HO_8 HB; revert n0_ n1_ n2_ n3_ n4_; intro HO_8 HB BK1053 GW1053 GE1053; clear hb hbox hg; have hcz28_0 : w27.cell? ⟨gb1053, 0, none⟩ = some (.int .i64 0) := (blk_cell BK1053.out 0).trans rfl; have hcz28_1 : w27.cell? ⟨gb1053, 1, none⟩ = some (.bool false) := (blk_cell BK1053.out 1).trans rfl; have hfz28_0 := blk_frozen BK1053.out 0; have hfz28_1 := blk_frozen BK1053.out 1))
        have n0_ : Aside0 (Kd.R k25 25 ((w27.setCell ⟨gb1053, 0, none⟩ (.int .i64 (wrap64 (((rd_T25 l0 x9_1).f0) + a1)))).setCell ⟨gb1053, 1, none⟩ (.bool (x11_2 == 1))) w.heap.size (fun k_ => k_ ≠ gb1053) u8 x8_2) := ⟨by (repeat refine R_q ?_); exact Kd.R_mono (Kd.R_far (p := ⟨gb1053, 1, none⟩) (Kd.R_far (p := ⟨gb1053, 0, none⟩) (Kd.R_mono HO_8.out (fun k_ hk => (⟨hk, hk.2⟩ : _ ∧ k_ ≠ gb1053))) (fun _ hk => hk.2) (.int .i64 (wrap64 (((rd_T25 l0 x9_1).f0) + a1)))) (fun _ hk => hk.2) (.bool (x11_2 == 1))) (fun _ hk => hk.1.2)⟩
        have n1_ : Aside0 (((w27.setCell ⟨gb1053, 0, none⟩ (.int .i64 (wrap64 (((rd_T25 l0 x9_1).f0) + a1)))).setCell ⟨gb1053, 1, none⟩ (.bool (x11_2 == 1))).heap[gb1053]? = some (.cells #[.int .i64 (wrap64 (((rd_T25 l0 x9_1).f0) + a1)), .bool (x11_2 == 1)] 25 (0, 0))) := ⟨by (repeat refine blk_q ?_); refine blk_put (cs := #[.int .i64 (wrap64 (((rd_T25 l0 x9_1).f0) + a1)), .bool false]) ?_ 1 _ rfl; (repeat refine blk_q ?_); refine blk_put (cs := #[.int .i64 0, .bool false]) ?_ 0 _ rfl; (repeat refine blk_q ?_); exact BK1053.out⟩
        have n2_ : Aside0 (Below w.heap.size w ((w27.setCell ⟨gb1053, 0, none⟩ (.int .i64 (wrap64 (((rd_T25 l0 x9_1).f0) + a1)))).setCell ⟨gb1053, 1, none⟩ (.bool (x11_2 == 1)))) := ⟨by repeat (first | (with_reducible first | exact HB.out | apply below_alloc | apply pw_below_drewN | apply below_drew1 | refine below_set ?_ GE1053.out) | exact HB.out)⟩
        (try clear HO_8)
        (try clear BK1053)
        (try clear HB)
        generalize ((w27.setCell ⟨gb1053, 0, none⟩ (.int .i64 (wrap64 (((rd_T25 l0 x9_1).f0) + a1)))).setCell ⟨gb1053, 1, none⟩ (.bool (x11_2 == 1))) = w29 at n0_ n1_ n2_ ⊢
        have HO_8 := n0_
        have BK1053 := n1_
        have HB := n2_
        clear n0_ n1_ n2_
        have n0_ := Q0_ (Kd.R_drew HO_8.out)
        have n1_ := Q0_ (blk_drew BK1053.out)
        have n2_ := Q0_ (below_drew1 HB.out)
        clear HO_8 BK1053 HB; revert n0_ n1_ n2_; intro HO_8 BK1053 HB
        have p1056 : 0 ≤ (x9_1 : Int) := of_decide_eq_true aS
        have q1056 : x9_1 < (l0.length : Int) := of_decide_eq_true aS
        obtain ⟨ad1056, e1056, hx1056_0, hx1056_1⟩ := at_T25 HR0.out x9_1 p1056 q1056
        have hw1056_1 := hx1056_1
        have hw1056_0 := hx1056_0
        obtain rfl : ad1052 = ad1056 := (by injection e1056)
        replace hx1056_0 := (HB.out.cell (World.block_lt_of_cell? w _ hx1056_0)).trans hx1056_0
        replace hx1056_1 := (HB.out.cell (World.block_lt_of_cell? w _ hx1056_1)).trans hx1056_1
        replace p1056 := eq_true p1056
        replace q1056 := eq_true q1056
        refine start_ (n := 14) (S := fun w' => w'.cell? ⟨gb1053, 0, none⟩ = some (.int .i64 (wrap64 (((rd_T25 l0 x9_1).f0) + a1))) ∧ w'.cell? ⟨gb1053, 1, none⟩ = some (.bool (x11_2 == 1)) ∧ w'.cell? (ad1052.add ((x9_1).toNat * 2)) = some (.int .i64 ((rd_T25 l0 x9_1).f0)) ∧ w'.cell? ⟨(ad1052.add ((x9_1).toNat * 2)).block, (ad1052.add ((x9_1).toNat * 2)).off + 1, none⟩ = some (.bool ((rd_T25 l0 x9_1).f1))) (ds := []) #[ff,ff,ff,ff,ff,ff,ff,ff,ff,ff,ff,ff,ff,ff] (by kernel_rfl) rfl rfl ⟨(blk_cell BK1053.out 0).trans rfl, (blk_cell BK1053.out 1).trans rfl, ((HB.out.cell (World.block_lt_of_cell? w _ hw1056_0)).trans hw1056_0), ((HB.out.cell (World.block_lt_of_cell? w _ hw1056_1)).trans hw1056_1)⟩ (fun hHeld => ?_); refine with_tabW spec_l2Moved.tab10 spec_l2Moved.bits10 (fun HT_ HW_ => ?_)
        generalize w29.drew = w30 at HO_8 BK1053 HB hx1056_0 hx1056_1 hHeld ⊢
        refine tQ HT_ HW_ 0 (some 38) #[tt,ff,ff,ff,ff,ff,ff,ff,ff,ff,ff,ff,ff,ff] rfl rfl hHeld (by rintro w' ⟨s0, s1, s2, s3⟩; go_simp; with_reducible rfl) ?_
        refine one_ (i := 1) (N := some 39) #[tt,tt,ff,ff,ff,ff,ff,ff,ff,ff,ff,ff,ff,ff] rfl rfl (one_of HT_.out (by kernel_rfl)) (by decide) (fun K hK => ?_)
        refine goes_ Tryd.func89 (by kernel_rfl) rfl #[.agg #[.int .i64 (wrap64 (((rd_T25 l0 x9_1).f0) + a1)), .bool (x11_2 == 1)]] (by rfl) rfl rfl hM ?_
        with_reducible refine (spec_ToneValid.calls (wrap64 (((rd_T25 l0 x9_1).f0) + a1)) (x11_2 == 1) true _ A12.out).mono ?_
        rintro e w31 ⟨rfl, hb⟩
        refine ⟨_, rfl, ?_⟩
        have n0_ := Q0_ (Kd.R_below (upR HO_8) hb)
        have n1_ := Q0_ (blk_below (upK BK1053) hb)
        have n2_ := Q0_ (below_step upH hb)
        clear HO_8 BK1053 HB; revert n0_ n1_ n2_; intro HO_8 BK1053 HB
        (try clear hb)
        (try clear hb2)
        (try clear hk)
        (try clear hi)
        refine hK.out _ _ ⟨(blk_cell BK1053.out 0).trans rfl, (blk_cell BK1053.out 1).trans rfl, ((HB.out.cell (World.block_lt_of_cell? w _ hw1056_0)).trans hw1056_0), ((HB.out.cell (World.block_lt_of_cell? w _ hw1056_1)).trans hw1056_1)⟩ (fun hHeld => ?_)
        clear hK K
        refine norm_ (a' := ?_) ?_ ?_
        rotate_left
        ·show Act.put _ (some 39) _ = _
         simp only [Act.put, sI, s0, sS, i64_w, i32_w]
         rfl
        refine pQ HT_ 2 (some 40) #[tt,tt,tt,ff,ff,ff,ff,ff,ff,ff,ff,ff,ff,ff] rfl rfl ?_
        refine pQ HT_ 5 (some 43) #[tt,tt,tt,ff,ff,tt,ff,ff,ff,ff,ff,ff,ff,ff] rfl rfl ?_
        refine pQ HT_ 6 (some 44) #[tt,tt,tt,ff,ff,tt,tt,ff,ff,ff,ff,ff,ff,ff] rfl rfl ?_
        refine pQ HT_ 7 (some 45) #[tt,tt,tt,ff,ff,tt,tt,tt,ff,ff,ff,ff,ff,ff] rfl rfl ?_
        refine pQ HT_ 11 (some 49) #[tt,tt,tt,ff,ff,tt,tt,tt,ff,ff,ff,tt,ff,ff] rfl rfl ?_
        refine tQ HT_ HW_ 3 (some 41) #[tt,tt,tt,tt,ff,tt,tt,tt,ff,ff,ff,tt,ff,ff] rfl rfl hHeld (by rintro w' ⟨s0, s1, s2, s3⟩; go_simp; with_reducible rfl) ?_
        refine tQ HT_ HW_ 8 (some 46) #[tt,tt,tt,tt,ff,tt,tt,tt,tt,ff,ff,tt,ff,ff] rfl rfl hHeld (by rintro w' ⟨s0, s1, s2, s3⟩; go_simp; with_reducible rfl) ?_
        refine one_ (i := 4) (N := some 42) #[tt,tt,tt,tt,tt,tt,tt,tt,tt,ff,ff,tt,ff,ff] rfl rfl (one_of HT_.out (by kernel_rfl)) (by decide) (fun K hK => ?_)
        refine goes_ Tryd.func101 (by kernel_rfl) rfl #[.agg #[.int .i64 (wrap64 (((rd_T25 l0 x9_1).f0) + a1)), .bool (x11_2 == 1)]] (by rfl) rfl rfl hM ?_
        with_reducible refine (spec_l1Height.calls (wrap64 (((rd_T25 l0 x9_1).f0) + a1)) (x11_2 == 1) t1055 _ A14.out).mono ?_
        rintro e w32 ⟨rfl, hb⟩
        refine ⟨_, rfl, ?_⟩
        have n0_ := Q0_ (Kd.R_below (upR HO_8) hb)
        have n1_ := Q0_ (blk_below (upK BK1053) hb)
        have n2_ := Q0_ (below_step upH hb)
        clear HO_8 BK1053 HB; revert n0_ n1_ n2_; intro HO_8 BK1053 HB
        (try clear hb)
        (try clear hb2)
        (try clear hk)
        (try clear hi)
        refine hK.out _ _ ⟨(blk_cell BK1053.out 0).trans rfl, (blk_cell BK1053.out 1).trans rfl, ((HB.out.cell (World.block_lt_of_cell? w _ hw1056_0)).trans hw1056_0), ((HB.out.cell (World.block_lt_of_cell? w _ hw1056_1)).trans hw1056_1)⟩ (fun hHeld => ?_)
        clear hK K
        refine norm_ (a' := ?_) ?_ ?_
        rotate_left
        ·show Act.put _ (some 42) _ = _
         simp only [Act.put, sI, s0, sS, i64_w, i32_w]
         rfl
        refine one_ (i := 9) (N := some 47) #[tt,tt,tt,tt,tt,tt,tt,tt,tt,tt,ff,tt,ff,ff] rfl rfl (one_of HT_.out (by kernel_rfl)) (by decide) (fun K hK => ?_)
        refine goes_ Tryd.func101 (by kernel_rfl) rfl #[.agg #[.int .i64 ((rd_T25 l0 x9_1).f0), .bool ((rd_T25 l0 x9_1).f1)]] (by rfl) rfl rfl hM ?_
        with_reducible refine (spec_l1Height.calls ((rd_T25 l0 x9_1).f0) ((rd_T25 l0 x9_1).f1) t1057 _ A15.out).mono ?_
        rintro e w33 ⟨rfl, hb⟩
        refine ⟨_, rfl, ?_⟩
        have n0_ := Q0_ (Kd.R_below (upR HO_8) hb)
        have n1_ := Q0_ (blk_below (upK BK1053) hb)
        have n2_ := Q0_ (below_step upH hb)
        clear HO_8 BK1053 HB; revert n0_ n1_ n2_; intro HO_8 BK1053 HB
        (try clear hb)
        (try clear hb2)
        (try clear hk)
        (try clear hi)
        refine hK.out _ _ ⟨(blk_cell BK1053.out 0).trans rfl, (blk_cell BK1053.out 1).trans rfl, ((HB.out.cell (World.block_lt_of_cell? w _ hw1056_0)).trans hw1056_0), ((HB.out.cell (World.block_lt_of_cell? w _ hw1056_1)).trans hw1056_1)⟩ (fun hHeld => ?_)
        clear hK K
        refine norm_ (a' := ?_) ?_ ?_
        rotate_left
        ·show Act.put _ (some 47) _ = _
         simp only [Act.put, sI, s0, sS, i64_w, i32_w]
         rfl
        refine pQ HT_ 10 (some 48) #[tt,tt,tt,tt,tt,tt,tt,tt,tt,tt,tt,tt,ff,ff] rfl rfl ?_
        refine pQ HT_ 12 (some 50) #[tt,tt,tt,tt,tt,tt,tt,tt,tt,tt,tt,tt,tt,ff] rfl rfl ?_
        refine pQ HT_ 13 (some 51) #[tt,tt,tt,tt,tt,tt,tt,tt,tt,tt,tt,tt,tt,tt] rfl rfl ?_
        refine done_ (done_of HT_.out (by kernel_rfl)) ?_
        try go_wp2
        go_roundg kj6
        case measure => have := HK1.out; have := HK2.out; have := HJ6.out; omega
        case rel => exact ⟨(x8_2), (x10_2), (wrap64 (x11_2 + 1)), eX, eX, H', ⟨by have := HK1.out; have := HK2.out; have := HJ6.out; omega⟩, ⟨by (repeat refine R_q ?_); exact Kd.R_mono HO_8.out (fun _ hk => trivial)⟩, ⟨by repeat (first | (with_reducible first | exact HB.out | apply below_alloc | apply pw_below_drewN | apply below_drew1 | refine below_set ?_ GE1053.out) | exact HB.out)⟩⟩
       rw [if_pos c16] at H
       have c16b0 : ((wrap64 (t1055 - t1057)) == a2) = true := beq_iff_eq.mpr c16
       have c16b1 : ((wrap64 (t1055 - t1057)) != a2) = false := bne_eq_false_iff_eq.mpr c16
       clear c16
       by_cases c17 : x8_2.length < 8796093022208
       rotate_left
       ·rw [if_neg c17] at H
        exact absurd H (by simp)
       rw [if_pos c17] at H
       have LMc17 := Aside0.mk c17
       clear c17
       obtain ⟨y1058, hy1058⟩ : ∃ y_ : List (S25), y_ = (x8_2 ++ [(⟨wrap64 (((rd_T25 l0 x9_1).f0) + a1), (x11_2 == 1)⟩ : S25)]) := ⟨_, rfl⟩
       replace H : (spec_l2Moved.l1 kj6 l0 a1 a2 y1058 x9_1 true (wrap64 (x11_2 + 1))) = some (r1, r2) := by first | (rw [hy1058]; with_reducible exact H) | (have H2_ := (Option.bind_some _ _).symm.trans H; rw [hy1058]; with_reducible exact H2_) | (have H2_ := (Option.bind_some _ _).symm.trans H; with_reducible exact H2_) | with_reducible exact H | (rw [hy1058]; exact H) | exact H
       have Ny1058 := Aside0.mk hy1058
       clear hy1058
       have H' := Aside0.mk H
       clear H
       have p1052 : 0 ≤ (x9_1 : Int) := of_decide_eq_true aS
       have q1052 : x9_1 < (l0.length : Int) := of_decide_eq_true aS
       obtain ⟨ad1052, e1052, hx1052_0, hx1052_1⟩ := at_T25 HR0.out x9_1 p1052 q1052
       cases e1052
       replace hx1052_0 := (HB.out.cell (World.block_lt_of_cell? w _ hx1052_0)).trans hx1052_0
       replace hx1052_1 := (HB.out.cell (World.block_lt_of_cell? w _ hx1052_1)).trans hx1052_1
       replace p1052 := eq_true p1052
       replace q1052 := eq_true q1052
       try go_wp2_with (first | ((with_reducible refine gate_dst (N := 12) rfl ?_); refine box_event ?hg (N := 12) ?hd (cs := #[.int .i64 0, .bool false]) (t := 25) ?hr ?_; (case hd => rfl); (case hg => rfl); (case hr => first | (go_simp; done) | (go_simp; rfl)); intro gb1053 hg w18 hbox hb; have n0_ := Q0_ (Kd.R_below (Kd.R_elderB (upR HO_8) gb1053 (Nat.le_of_eq hg.symm)) hb); have n1_ := Q0_ (below_step (upB HB) hb); have n2_ := Q0_ (hbox); have n3_ := Q0_ ((by rw [hg]; exact (below_size (upB HB)) : w.heap.size ≤ gb1053)); have n4_ := Q0_ ((by rw [hg]; exact (below_size (upB HB)) : w.heap.size ≤ gb1053)); clear HO_8 HB; revert n0_ n1_ n2_ n3_ n4_; intro HO_8 HB BK1053 GW1053 GE1053; clear hb hbox hg; have hcz19_0 : w18.cell? ⟨gb1053, 0, none⟩ = some (.int .i64 0) := (blk_cell BK1053.out 0).trans rfl; have hcz19_1 : w18.cell? ⟨gb1053, 1, none⟩ = some (.bool false) := (blk_cell BK1053.out 1).trans rfl; have hfz19_0 := blk_frozen BK1053.out 0; have hfz19_1 := blk_frozen BK1053.out 1))
       have n0_ : Aside0 (Kd.R k25 25 ((w18.setCell ⟨gb1053, 0, none⟩ (.int .i64 (wrap64 (((rd_T25 l0 x9_1).f0) + a1)))).setCell ⟨gb1053, 1, none⟩ (.bool (x11_2 == 1))) w.heap.size (fun k_ => k_ ≠ gb1053) u8 x8_2) := ⟨by (repeat refine R_q ?_); exact Kd.R_mono (Kd.R_far (p := ⟨gb1053, 1, none⟩) (Kd.R_far (p := ⟨gb1053, 0, none⟩) (Kd.R_mono HO_8.out (fun k_ hk => (⟨hk, hk.2⟩ : _ ∧ k_ ≠ gb1053))) (fun _ hk => hk.2) (.int .i64 (wrap64 (((rd_T25 l0 x9_1).f0) + a1)))) (fun _ hk => hk.2) (.bool (x11_2 == 1))) (fun _ hk => hk.1.2)⟩
       have n1_ : Aside0 (((w18.setCell ⟨gb1053, 0, none⟩ (.int .i64 (wrap64 (((rd_T25 l0 x9_1).f0) + a1)))).setCell ⟨gb1053, 1, none⟩ (.bool (x11_2 == 1))).heap[gb1053]? = some (.cells #[.int .i64 (wrap64 (((rd_T25 l0 x9_1).f0) + a1)), .bool (x11_2 == 1)] 25 (0, 0))) := ⟨by (repeat refine blk_q ?_); refine blk_put (cs := #[.int .i64 (wrap64 (((rd_T25 l0 x9_1).f0) + a1)), .bool false]) ?_ 1 _ rfl; (repeat refine blk_q ?_); refine blk_put (cs := #[.int .i64 0, .bool false]) ?_ 0 _ rfl; (repeat refine blk_q ?_); exact BK1053.out⟩
       have n2_ : Aside0 (Below w.heap.size w ((w18.setCell ⟨gb1053, 0, none⟩ (.int .i64 (wrap64 (((rd_T25 l0 x9_1).f0) + a1)))).setCell ⟨gb1053, 1, none⟩ (.bool (x11_2 == 1)))) := ⟨by repeat (first | (with_reducible first | exact HB.out | apply below_alloc | apply pw_below_drewN | apply below_drew1 | refine below_set ?_ GE1053.out) | exact HB.out)⟩
       (try clear HO_8)
       (try clear BK1053)
       (try clear HB)
       generalize ((w18.setCell ⟨gb1053, 0, none⟩ (.int .i64 (wrap64 (((rd_T25 l0 x9_1).f0) + a1)))).setCell ⟨gb1053, 1, none⟩ (.bool (x11_2 == 1))) = w20 at n0_ n1_ n2_ ⊢
       have HO_8 := n0_
       have BK1053 := n1_
       have HB := n2_
       clear n0_ n1_ n2_
       have n0_ := Q0_ (Kd.R_drew HO_8.out)
       have n1_ := Q0_ (blk_drew BK1053.out)
       have n2_ := Q0_ (below_drew1 HB.out)
       clear HO_8 BK1053 HB; revert n0_ n1_ n2_; intro HO_8 BK1053 HB
       have p1056 : 0 ≤ (x9_1 : Int) := of_decide_eq_true aS
       have q1056 : x9_1 < (l0.length : Int) := of_decide_eq_true aS
       obtain ⟨ad1056, e1056, hx1056_0, hx1056_1⟩ := at_T25 HR0.out x9_1 p1056 q1056
       have hw1056_1 := hx1056_1
       have hw1056_0 := hx1056_0
       obtain rfl : ad1052 = ad1056 := (by injection e1056)
       replace hx1056_0 := (HB.out.cell (World.block_lt_of_cell? w _ hx1056_0)).trans hx1056_0
       replace hx1056_1 := (HB.out.cell (World.block_lt_of_cell? w _ hx1056_1)).trans hx1056_1
       replace p1056 := eq_true p1056
       replace q1056 := eq_true q1056
       refine start_ (n := 14) (S := fun w' => w'.cell? ⟨gb1053, 0, none⟩ = some (.int .i64 (wrap64 (((rd_T25 l0 x9_1).f0) + a1))) ∧ w'.cell? ⟨gb1053, 1, none⟩ = some (.bool (x11_2 == 1)) ∧ w'.cell? (ad1052.add ((x9_1).toNat * 2)) = some (.int .i64 ((rd_T25 l0 x9_1).f0)) ∧ w'.cell? ⟨(ad1052.add ((x9_1).toNat * 2)).block, (ad1052.add ((x9_1).toNat * 2)).off + 1, none⟩ = some (.bool ((rd_T25 l0 x9_1).f1))) (ds := []) #[ff,ff,ff,ff,ff,ff,ff,ff,ff,ff,ff,ff,ff,ff] (by kernel_rfl) rfl rfl ⟨(blk_cell BK1053.out 0).trans rfl, (blk_cell BK1053.out 1).trans rfl, ((HB.out.cell (World.block_lt_of_cell? w _ hw1056_0)).trans hw1056_0), ((HB.out.cell (World.block_lt_of_cell? w _ hw1056_1)).trans hw1056_1)⟩ (fun hHeld => ?_); refine with_tabW spec_l2Moved.tab10 spec_l2Moved.bits10 (fun HT_ HW_ => ?_)
       generalize w20.drew = w21 at HO_8 BK1053 HB hx1056_0 hx1056_1 hHeld ⊢
       refine tQ HT_ HW_ 0 (some 38) #[tt,ff,ff,ff,ff,ff,ff,ff,ff,ff,ff,ff,ff,ff] rfl rfl hHeld (by rintro w' ⟨s0, s1, s2, s3⟩; go_simp; with_reducible rfl) ?_
       refine one_ (i := 1) (N := some 39) #[tt,tt,ff,ff,ff,ff,ff,ff,ff,ff,ff,ff,ff,ff] rfl rfl (one_of HT_.out (by kernel_rfl)) (by decide) (fun K hK => ?_)
       refine goes_ Tryd.func89 (by kernel_rfl) rfl #[.agg #[.int .i64 (wrap64 (((rd_T25 l0 x9_1).f0) + a1)), .bool (x11_2 == 1)]] (by rfl) rfl rfl hM ?_
       with_reducible refine (spec_ToneValid.calls (wrap64 (((rd_T25 l0 x9_1).f0) + a1)) (x11_2 == 1) true _ A12.out).mono ?_
       rintro e w22 ⟨rfl, hb⟩
       refine ⟨_, rfl, ?_⟩
       have n0_ := Q0_ (Kd.R_below (upR HO_8) hb)
       have n1_ := Q0_ (blk_below (upK BK1053) hb)
       have n2_ := Q0_ (below_step upH hb)
       clear HO_8 BK1053 HB; revert n0_ n1_ n2_; intro HO_8 BK1053 HB
       (try clear hb)
       (try clear hb2)
       (try clear hk)
       (try clear hi)
       refine hK.out _ _ ⟨(blk_cell BK1053.out 0).trans rfl, (blk_cell BK1053.out 1).trans rfl, ((HB.out.cell (World.block_lt_of_cell? w _ hw1056_0)).trans hw1056_0), ((HB.out.cell (World.block_lt_of_cell? w _ hw1056_1)).trans hw1056_1)⟩ (fun hHeld => ?_)
       clear hK K
       refine norm_ (a' := ?_) ?_ ?_
       rotate_left
       ·show Act.put _ (some 39) _ = _
        simp only [Act.put, sI, s0, sS, i64_w, i32_w]
        rfl
       refine pQ HT_ 2 (some 40) #[tt,tt,tt,ff,ff,ff,ff,ff,ff,ff,ff,ff,ff,ff] rfl rfl ?_
       refine pQ HT_ 5 (some 43) #[tt,tt,tt,ff,ff,tt,ff,ff,ff,ff,ff,ff,ff,ff] rfl rfl ?_
       refine pQ HT_ 6 (some 44) #[tt,tt,tt,ff,ff,tt,tt,ff,ff,ff,ff,ff,ff,ff] rfl rfl ?_
       refine pQ HT_ 7 (some 45) #[tt,tt,tt,ff,ff,tt,tt,tt,ff,ff,ff,ff,ff,ff] rfl rfl ?_
       refine pQ HT_ 11 (some 49) #[tt,tt,tt,ff,ff,tt,tt,tt,ff,ff,ff,tt,ff,ff] rfl rfl ?_
       refine tQ HT_ HW_ 3 (some 41) #[tt,tt,tt,tt,ff,tt,tt,tt,ff,ff,ff,tt,ff,ff] rfl rfl hHeld (by rintro w' ⟨s0, s1, s2, s3⟩; go_simp; with_reducible rfl) ?_
       refine tQ HT_ HW_ 8 (some 46) #[tt,tt,tt,tt,ff,tt,tt,tt,tt,ff,ff,tt,ff,ff] rfl rfl hHeld (by rintro w' ⟨s0, s1, s2, s3⟩; go_simp; with_reducible rfl) ?_
       refine one_ (i := 4) (N := some 42) #[tt,tt,tt,tt,tt,tt,tt,tt,tt,ff,ff,tt,ff,ff] rfl rfl (one_of HT_.out (by kernel_rfl)) (by decide) (fun K hK => ?_)
       refine goes_ Tryd.func101 (by kernel_rfl) rfl #[.agg #[.int .i64 (wrap64 (((rd_T25 l0 x9_1).f0) + a1)), .bool (x11_2 == 1)]] (by rfl) rfl rfl hM ?_
       with_reducible refine (spec_l1Height.calls (wrap64 (((rd_T25 l0 x9_1).f0) + a1)) (x11_2 == 1) t1055 _ A14.out).mono ?_
       rintro e w23 ⟨rfl, hb⟩
       refine ⟨_, rfl, ?_⟩
       have n0_ := Q0_ (Kd.R_below (upR HO_8) hb)
       have n1_ := Q0_ (blk_below (upK BK1053) hb)
       have n2_ := Q0_ (below_step upH hb)
       clear HO_8 BK1053 HB; revert n0_ n1_ n2_; intro HO_8 BK1053 HB
       (try clear hb)
       (try clear hb2)
       (try clear hk)
       (try clear hi)
       refine hK.out _ _ ⟨(blk_cell BK1053.out 0).trans rfl, (blk_cell BK1053.out 1).trans rfl, ((HB.out.cell (World.block_lt_of_cell? w _ hw1056_0)).trans hw1056_0), ((HB.out.cell (World.block_lt_of_cell? w _ hw1056_1)).trans hw1056_1)⟩ (fun hHeld => ?_)
       clear hK K
       refine norm_ (a' := ?_) ?_ ?_
       rotate_left
       ·show Act.put _ (some 42) _ = _
        simp only [Act.put, sI, s0, sS, i64_w, i32_w]
        rfl
       refine one_ (i := 9) (N := some 47) #[tt,tt,tt,tt,tt,tt,tt,tt,tt,tt,ff,tt,ff,ff] rfl rfl (one_of HT_.out (by kernel_rfl)) (by decide) (fun K hK => ?_)
       refine goes_ Tryd.func101 (by kernel_rfl) rfl #[.agg #[.int .i64 ((rd_T25 l0 x9_1).f0), .bool ((rd_T25 l0 x9_1).f1)]] (by rfl) rfl rfl hM ?_
       with_reducible refine (spec_l1Height.calls ((rd_T25 l0 x9_1).f0) ((rd_T25 l0 x9_1).f1) t1057 _ A15.out).mono ?_
       rintro e w24 ⟨rfl, hb⟩
       refine ⟨_, rfl, ?_⟩
       have n0_ := Q0_ (Kd.R_below (upR HO_8) hb)
       have n1_ := Q0_ (blk_below (upK BK1053) hb)
       have n2_ := Q0_ (below_step upH hb)
       clear HO_8 BK1053 HB; revert n0_ n1_ n2_; intro HO_8 BK1053 HB
       (try clear hb)
       (try clear hb2)
       (try clear hk)
       (try clear hi)
       refine hK.out _ _ ⟨(blk_cell BK1053.out 0).trans rfl, (blk_cell BK1053.out 1).trans rfl, ((HB.out.cell (World.block_lt_of_cell? w _ hw1056_0)).trans hw1056_0), ((HB.out.cell (World.block_lt_of_cell? w _ hw1056_1)).trans hw1056_1)⟩ (fun hHeld => ?_)
       clear hK K
       refine norm_ (a' := ?_) ?_ ?_
       rotate_left
       ·show Act.put _ (some 47) _ = _
        simp only [Act.put, sI, s0, sS, i64_w, i32_w]
        rfl
       refine pQ HT_ 10 (some 48) #[tt,tt,tt,tt,tt,tt,tt,tt,tt,tt,tt,tt,ff,ff] rfl rfl ?_
       refine pQ HT_ 12 (some 50) #[tt,tt,tt,tt,tt,tt,tt,tt,tt,tt,tt,tt,tt,ff] rfl rfl ?_
       refine pQ HT_ 13 (some 51) #[tt,tt,tt,tt,tt,tt,tt,tt,tt,tt,tt,tt,tt,tt] rfl rfl ?_
       refine done_ (done_of HT_.out (by kernel_rfl)) ?_
       have hcz25_0 : w24.cell? ⟨gb1053, 0, none⟩ = some (.int .i64 (wrap64 (((rd_T25 l0 x9_1).f0) + a1))) := (blk_cell BK1053.out 0).trans rfl
       have hcz25_1 : w24.cell? ⟨gb1053, 1, none⟩ = some (.bool (x11_2 == 1)) := (blk_cell BK1053.out 1).trans rfl
       have hfz25_0 := blk_frozen BK1053.out 0
       have hfz25_1 := blk_frozen BK1053.out 1
       try go_wp2_with (first | ((with_reducible refine gate_builtin (b := .append) (xs := #[.tmp 52, .tmp 54]) rfl ?_); at_builtin; refine Kd.R_append k25 (w0 := w) w.heap.size rfl (.tmp 52) (.tmp 54) 23 25 (.agg #[(.int .i64 0), (.bool false)]) 16 rfl Tryd.underlying23 info25 rfl (by decide) (by omega) u8 x8_2 (⟨wrap64 (((rd_T25 l0 x9_1).f0) + a1), (x11_2 == 1)⟩ : S25) [.int .i64 (wrap64 (((rd_T25 l0 x9_1).f0) + a1)), .bool (x11_2 == 1)] (fun k_ => k_ ≠ gb1053) (fun _ => False) rfl rfl ?aP (fun _ hk => hk.elim) ?aF ?aO ?aB ?aS ?aL ?_; (case aP => exact k25_mkM _ _ _ (⟨wrap64 (((rd_T25 l0 x9_1).f0) + a1), (x11_2 == 1)⟩ : S25)); (case aB => exact upH); (case aF => exact (fun k_ hk => Kd.freshB (g := gb1053) (o := .cells #[.int .i64 (wrap64 (((rd_T25 l0 x9_1).f0) + a1)), .bool (x11_2 == 1)] 25 (0, 0)) (upK BK1053) k_ hk)); (case aO => exact (upR HO_8)); (case aS => exact (below_size upH)); (case aL => have := LMc17.out; omega); intro v1059 w26 ho hb hg hat; rw [← Ny1058.out] at ho; have n0_ := Q0_ (blk_grown (g := gb1053) (o := .cells #[.int .i64 (wrap64 (((rd_T25 l0 x9_1).f0) + a1)), .bool (x11_2 == 1)] 25 (0, 0)) (upK BK1053) hg (Kd.R_away HO_8.out (fun _ hk => hk))); have n1_ := Q0_ (hb); have n2_ := Q0_ (ho); clear BK1053 HB HO_8; revert n0_ n1_ n2_; intro BK1053 HB HO1060; clear ho hb hg hat))
       go_roundg kj6
       case measure => have := HK1.out; have := HK2.out; have := HJ6.out; omega
       case rel => exact ⟨(y1058), (true), (wrap64 (x11_2 + 1)), eX, eX, H', ⟨by have := HK1.out; have := HK2.out; have := HJ6.out; omega⟩, ⟨by (repeat refine R_q ?_); exact Kd.R_mono HO1060.out (fun _ hk => trivial)⟩, ⟨by repeat (first | (with_reducible first | exact HB.out | apply below_alloc | apply pw_below_drewN | apply below_drew1 | refine below_set ?_ GE1053.out) | exact HB.out)⟩⟩
mutual
def spec_MelodyMove.j0 : Nat → List (S25) → Int → Bool → Option ((List (S25)) × Bool)
 | 0, _, _, _ => none
 | k + 1, x0, x1, x21 => if x21 = true then (some ((([] : List (S25))), false)) else (spec_MelodyMove.l0 k x0 x1 0)
def spec_MelodyMove.l0 : Nat → List (S25) → Int → Int → Option ((List (S25)) × Bool)
 | 0, _, _, _ => none
 | k + 1, x0, x1, x6 => if x6 < 2 then (if 0 < (x0.length : Int) then ((spec_ToneValid.f (wrap64 (((rd_T25 x0 0).f0) + x1)) (x6 == 1)).bind fun t1074 => (if t1074 = true then ((spec_l1Height.f (wrap64 (((rd_T25 x0 0).f0) + x1)) (x6 == 1)).bind fun t1075 => ((spec_l1Height.f ((rd_T25 x0 0).f0) ((rd_T25 x0 0).f1)).bind fun t1077 => ((spec_l2Moved.f k x0 x1 (wrap64 (t1075 - t1077))).bind fun bt1078 => (if bt1078.2 = true then (some (bt1078.1, true)) else (spec_MelodyMove.l0 k x0 x1 (wrap64 (x6 + 1))))))) else (spec_MelodyMove.l0 k x0 x1 (wrap64 (x6 + 1))))) else (none)) else (some ((([] : List (S25))), false))
end
def spec_MelodyMove.f (k : Nat) (l0 : List (S25)) (a1 : Int) : Option ((List (S25)) × Bool) := if (l0.length : Int) = 0 then (some ((([] : List (S25))), true)) else ((spec_MelodyValid.f k l0).bind fun t1064 => (if t1064 = true then ((spec_l6In.f a1 (-20) 20).bind fun t1065 => (spec_MelodyMove.j0 k l0 a1 (!t1065))) else (spec_MelodyMove.j0 k l0 a1 true)))
def spec_MelodyMove.T10 : Bool × List (List Nat × List Nat) := (true, [([], []), ([], []), ([], []), ([2], [2]), ([], []), ([4], [4]), ([5], [5]), ([6, 3], [6]), ([3, 7], [3, 7]), ([0, 1, 8, 7], [0, 1, 8]), ([9], [9]), ([10], [10]), ([10], [10]), ([11, 9, 0, 1, 2, 3, 4, 5, 6, 7, 8, 9, 10, 11], [11]), ([12, 13, 0, 1, 2, 3, 4, 5, 6, 7, 8, 9, 10, 11, 12, 13], [12])])
def spec_MelodyMove.B10 : List Nat := [0, 0, 0, 4, 0, 16, 48, 124, 252, 511, 1023, 2047, 2047, 4095, 16383]
theorem spec_MelodyMove.tab10 : rtab .any (opsOf Tryd.f82 10) = spec_MelodyMove.T10 := by kernel_rfl
theorem spec_MelodyMove.bits10 : waitsOk spec_MelodyMove.T10.2 spec_MelodyMove.B10 = true := by kernel_rfl
set_option maxHeartbeats 8000000 in
set_option maxRecDepth 100000 in
theorem spec_MelodyMove.calls (k : Nat) (A0 : Option Addr) (c0 : Nat) (l0 : List (S25)) (a1 : Int) (r1 : List (S25)) (r2 : Bool) (w : World) (hr0 : Kd.C k25 w A0 l0.length l0) (hc0 : l0.length ≤ c0) (h : spec_MelodyMove.f k l0 a1 = some (r1, r2)) :
  Calls Tryd.prog 82 #[.slice A0 l0.length c0, .int .i64 a1] w fun e w' => ∃ v0_ : Value, e = .returned (.tuple #[v0_, .bool r2]) ∧ Kd.R k25 25 w' w.heap.size (fun _ => True) v0_ r1 ∧ Below w.heap.size w w' := by
 have hu25 := Tryd.underlying25
 have HR0 := Aside0.mk hr0
 have HC0 := Aside0.mk hc0
 clear hr0 hc0
 have HB := Q0_ (Below.refl w.heap.size w)
 have H : (if (l0.length : Int) = 0 then (some ((([] : List (S25))), true)) else ((spec_MelodyValid.f k l0).bind fun t1064 => (if t1064 = true then ((spec_l6In.f a1 (-20) 20).bind fun t1065 => (spec_MelodyMove.j0 k l0 a1 (!t1065))) else (spec_MelodyMove.j0 k l0 a1 true)))) = some (r1, r2) := h
 clear h
 by_cases c3 : (l0.length : Int) = 0
 ·rw [if_pos c3] at H
  have c3b0 : ((l0.length : Int) == 0) = true := beq_iff_eq.mpr c3
  have c3b1 : ((l0.length : Int) != 0) = false := bne_eq_false_iff_eq.mpr c3
  clear c3
  obtain ⟨y1061, hy1061⟩ : ∃ y_ : List (S25), y_ = (([] : List (S25))) := ⟨_, rfl⟩
  replace H : (some (y1061, true)) = some (r1, r2) := by first | (rw [hy1061]; with_reducible exact H) | (have H2_ := (Option.bind_some _ _).symm.trans H; rw [hy1061]; with_reducible exact H2_) | (have H2_ := (Option.bind_some _ _).symm.trans H; with_reducible exact H2_) | with_reducible exact H | (rw [hy1061]; exact H) | exact H
  have Ny1061 := Aside0.mk hy1061
  clear hy1061
  simp only [Option.some.injEq, Prod.mk.injEq] at H
  obtain ⟨rfl, rfl⟩ := H
  go_enter Tryd.func82, Tryd.ntmps82
  go_wp2_with (first | ((with_reducible refine gate_dst (N := 13) rfl ?_); refine Kd.R_lit k25 _ 25 ?hg (N := 13) ?hd (xs := ([] : List (S25))) (inner := []) (ok := fun _ => True) (okp := fun _ => True) ?hr ?hp (fun _ hk => hk) trivial (Below.refl _ _) (Nat.le_refl _) (by simp) ?_; (case hd => rfl); (case hg => rfl); (case hr => first | (go_simp; done) | (go_simp; rfl)); (case hp => exact (Reps.none _ _)); intro v1062 w4 ho5 hb hg_ hnew_; clear hg_ hnew_; (first | rw [← Ny1061.out] at ho5 | (simp only [Int.reduceToNat] at ho5; rw [← Ny1061.out] at ho5)); have n0_ := Q0_ (Kd.R_lower ho5 (below_size (upB HB))); have n1_ := Q0_ (below_step (upB HB) hb); clear HB; revert n0_ n1_; intro HO1063 HB; clear hb ho5))
  go_ret2
  exact ⟨_, by first | rfl | (simp [errW_none, errW_some] <;> rfl) | (simp [*, errW_none, errW_some] <;> rfl), by (repeat refine R_q ?_); exact HO1063.out, by repeat (first | (with_reducible first | exact HB.out | apply below_alloc | apply pw_below_drewN | apply below_drew1) | exact HB.out)⟩
 rw [if_neg c3] at H
 have c3b0 : ((l0.length : Int) == 0) = false := beq_eq_false_iff_ne.mpr c3
 have c3b1 : ((l0.length : Int) != 0) = true := bne_iff_ne.mpr c3
 have c3b2 : ¬ (l0 = []) := fun h_ => c3 (by rw [h_]; rfl)
 have HC6 := Aside0.mk H
 clear H
 go_enter Tryd.func82, Tryd.ntmps82
 go_upto_region 3 with (fail)
 go_cut [21] (fun v21 wc => ∃ (kq : Nat) (x21_5 : Bool), v21 = .bool x21_5 ∧ Aside0 (spec_MelodyMove.j0 kq l0 a1 x21_5 = some (r1, r2)) ∧ Aside0 (kq ≤ k) ∧ Aside0 (Below w.heap.size w wc))
 case first =>
  have H := HC6.out
  clear HC6
  obtain ⟨t1064, A70, H⟩ := Option.bind_eq_some_iff.mp H
  try dsimp only at H
  have A7 := Aside0.mk A70
  clear A70
  by_cases c8 : t1064 = true
  rotate_left
  ·replace c8 := Bool.eq_false_iff.mpr c8
   subst c8
   replace H := ifN ((show ¬ (false = true) by decide)) H
   have H' := Aside0.mk H
   clear H
   go_wp2_with (first | ((with_reducible refine gate_callee (f := 77) rfl ?_); refine goesL_ (some 15) rfl rfl Tryd.func77 (by kernel_rfl) rfl #[.slice A0 l0.length c0] rfl hM ?_; (with_reducible refine (spec_MelodyValid.calls k _ _ l0 false _ ?side1 ?side2 A7.out).mono ?_); (case side1 => repeat (first | exact (Kd.C_below HR0.out HB.out) | refine C_q ?_)); (case side2 => exact HC0.out); rintro e w11 ⟨rfl, hb⟩; refine ⟨_, rfl, ?_⟩; have n0_ := Q0_ (below_step (upB HB) hb); clear HB; revert n0_; intro HB; (try clear hb); (try clear hb2); (try clear hk); (try clear hi)))
   go_meet
   case rel => exact ⟨_, (true), eX, H', ⟨by first | omega | exact Nat.le_refl _⟩, ⟨by repeat (first | (with_reducible first | exact HB.out | apply below_alloc | apply pw_below_drewN | apply below_drew1) | exact HB.out)⟩⟩
  subst c8
  replace H := ifP (rfl) H
  obtain ⟨t1065, A90, H⟩ := Option.bind_eq_some_iff.mp H
  try dsimp only at H
  have A9 := Aside0.mk A90
  clear A90
  have H' := Aside0.mk H
  clear H
  go_wp2_with (first | ((with_reducible refine gate_callee (f := 77) rfl ?_); refine goesL_ (some 15) rfl rfl Tryd.func77 (by kernel_rfl) rfl #[.slice A0 l0.length c0] rfl hM ?_; (with_reducible refine (spec_MelodyValid.calls k _ _ l0 true _ ?side1 ?side2 A7.out).mono ?_); (case side1 => repeat (first | exact (Kd.C_below HR0.out HB.out) | refine C_q ?_)); (case side2 => exact HC0.out); rintro e w10 ⟨rfl, hb⟩; refine ⟨_, rfl, ?_⟩; have n0_ := Q0_ (below_step (upB HB) hb); clear HB; revert n0_; intro HB; (try clear hb); (try clear hb2); (try clear hk); (try clear hi)) | (go_at_call 99; (with_reducible refine (spec_l6In.calls a1 (-20) 20 t1065 _ A9.out).mono ?_); rintro e w' ⟨rfl, ⟨nd, rfl⟩⟩))
  go_meet
  case rel => exact ⟨_, (!t1065), eX, H', ⟨by first | omega | exact Nat.le_refl _⟩, ⟨by repeat (first | (with_reducible first | exact HB.out | apply below_alloc | apply pw_below_drewN | apply below_drew1) | exact HB.out)⟩⟩
 case rest =>
  clear HC6
  try clear p2
  try clear c3
  try clear c3b0
  try clear c3b1
  try clear c3b2
  try clear c7
  try clear c8
  obtain ⟨kq, x21_5, rfl, HA, HJ5, HB⟩ := hcut
  cases kq with
  | zero => exact absurd HA.out (by simp [spec_MelodyMove.j0])
  | succ kj5 =>
   have H := HA.out
   clear HA
   simp only [spec_MelodyMove.j0] at H
   by_cases c12 : x21_5 = true
   ·subst c12
    replace H := ifP (rfl) H
    obtain ⟨y1066, hy1066⟩ : ∃ y_ : List (S25), y_ = (([] : List (S25))) := ⟨_, rfl⟩
    replace H : (some (y1066, false)) = some (r1, r2) := by first | (rw [hy1066]; with_reducible exact H) | (have H2_ := (Option.bind_some _ _).symm.trans H; rw [hy1066]; with_reducible exact H2_) | (have H2_ := (Option.bind_some _ _).symm.trans H; with_reducible exact H2_) | with_reducible exact H | (rw [hy1066]; exact H) | exact H
    have Ny1066 := Aside0.mk hy1066
    clear hy1066
    simp only [Option.some.injEq, Prod.mk.injEq] at H
    obtain ⟨rfl, rfl⟩ := H
    go_wp2_with (first | ((with_reducible refine gate_dst (N := 22) rfl ?_); refine Kd.R_lit k25 _ 25 ?hg (N := 22) ?hd (xs := ([] : List (S25))) (inner := []) (ok := fun _ => True) (okp := fun _ => True) ?hr ?hp (fun _ hk => hk) trivial (Below.refl _ _) (Nat.le_refl _) (by simp) ?_; (case hd => rfl); (case hg => rfl); (case hr => first | (go_simp; done) | (go_simp; rfl)); (case hp => exact (Reps.none _ _)); intro v1067 w13 ho14 hb hg_ hnew_; clear hg_ hnew_; (first | rw [← Ny1066.out] at ho14 | (simp only [Int.reduceToNat] at ho14; rw [← Ny1066.out] at ho14)); have n0_ := Q0_ (Kd.R_lower ho14 (below_size (upB HB))); have n1_ := Q0_ (below_step (upB HB) hb); clear HB; revert n0_ n1_; intro HO1068 HB; clear hb ho14))
    go_ret2
    exact ⟨_, by first | rfl | (simp [errW_none, errW_some] <;> rfl) | (simp [*, errW_none, errW_some] <;> rfl), by (repeat refine R_q ?_); exact HO1068.out, by repeat (first | (with_reducible first | exact HB.out | apply below_alloc | apply pw_below_drewN | apply below_drew1) | exact HB.out)⟩
   replace c12 := Bool.eq_false_iff.mpr c12
   subst c12
   replace H := ifN ((show ¬ (false = true) by decide)) H
   have H' := Aside0.mk H
   clear H
   go_wp2
   go_loopg [6] kj5 (fun kq v6 w' => ∃ (x6_2 : Int), v6 = .int .i64 x6_2 ∧ Aside0 (spec_MelodyMove.l0 kq l0 a1 x6_2 = some (r1, r2)) ∧ Aside0 (kq ≤ kj5) ∧ Aside0 (Below w.heap.size w w'))
   case atStart => exact ⟨(0), eX, H', ⟨Nat.le_refl _⟩, ⟨by repeat (first | (with_reducible first | exact HB.out | apply below_alloc | apply pw_below_drewN | apply below_drew1) | exact HB.out)⟩⟩
   case round =>
    clear H'
    try clear c1
    try clear p2
    try clear c3
    try clear c3b0
    try clear c3b1
    try clear c3b2
    try clear c7
    try clear c8
    try clear c12
    try clear p2
    obtain ⟨x6_2, rfl, HA, HK2, HB⟩ := hrel
    cases gk with
    | zero => exact absurd HA.out (by simp [spec_MelodyMove.l0])
    | succ k2 =>
     have H := HA.out
     clear HA
     simp only [spec_MelodyMove.l0] at H
     by_cases c15 : x6_2 < 2
     rotate_left
     ·rw [if_neg c15] at H
      have c15b0 : decide (x6_2 < 2) = false := decide_eq_false c15
      clear c15
      obtain ⟨y1069, hy1069⟩ : ∃ y_ : List (S25), y_ = (([] : List (S25))) := ⟨_, rfl⟩
      replace H : (some (y1069, false)) = some (r1, r2) := by first | (rw [hy1069]; with_reducible exact H) | (have H2_ := (Option.bind_some _ _).symm.trans H; rw [hy1069]; with_reducible exact H2_) | (have H2_ := (Option.bind_some _ _).symm.trans H; with_reducible exact H2_) | with_reducible exact H | (rw [hy1069]; exact H) | exact H
      have Ny1069 := Aside0.mk hy1069
      clear hy1069
      simp only [Option.some.injEq, Prod.mk.injEq] at H
      obtain ⟨rfl, rfl⟩ := H
      go_wp2_with (first | ((with_reducible refine gate_dst (N := 54) rfl ?_); refine Kd.R_lit k25 _ 25 ?hg (N := 54) ?hd (xs := ([] : List (S25))) (inner := []) (ok := fun _ => True) (okp := fun _ => True) ?hr ?hp (fun _ hk => hk) trivial (Below.refl _ _) (Nat.le_refl _) (by simp) ?_; (case hd => rfl); (case hg => rfl); (case hr => first | (go_simp; done) | (go_simp; rfl)); (case hp => exact (Reps.none _ _)); intro v1070 w40 ho41 hb hg_ hnew_; clear hg_ hnew_; (first | rw [← Ny1069.out] at ho41 | (simp only [Int.reduceToNat] at ho41; rw [← Ny1069.out] at ho41)); have n0_ := Q0_ (Kd.R_lower ho41 (below_size (upB HB))); have n1_ := Q0_ (below_step (upB HB) hb); clear HB; revert n0_ n1_; intro HO1071 HB; clear hb ho41))
      go_ret2
      exact ⟨_, by first | rfl | (simp [errW_none, errW_some] <;> rfl) | (simp [*, errW_none, errW_some] <;> rfl), by (repeat refine R_q ?_); exact HO1071.out, by repeat (first | (with_reducible first | exact HB.out | apply below_alloc | apply pw_below_drewN | apply below_drew1) | exact HB.out)⟩
     rw [if_pos c15] at H
     have c15b0 : decide (x6_2 < 2) = true := decide_eq_true c15
     clear c15
     by_cases c16 : 0 < (l0.length : Int)
     rotate_left
     ·rw [if_neg c16] at H
      exact absurd H (by simp)
     rw [if_pos c16] at H
     have c16b0 : decide (0 < (l0.length : Int)) = true := decide_eq_true c16
     have c16b1 : decide (0 < l0.length) = true := decide_eq_true (by omega)
     clear c16
     obtain ⟨t1074, A170, H⟩ := Option.bind_eq_some_iff.mp H
     try dsimp only at H
     have A17 := Aside0.mk A170
     clear A170
     by_cases c18 : t1074 = true
     rotate_left
     ·replace c18 := Bool.eq_false_iff.mpr c18
      subst c18
      replace H := ifN ((show ¬ (false = true) by decide)) H
      have H' := Aside0.mk H
      clear H
      have p1072 : 0 ≤ (0 : Int) := (by omega)
      have q1072 : 0 < (l0.length : Int) := of_decide_eq_true aS
      obtain ⟨ad1072, e1072, hx1072_0, hx1072_1⟩ := at_T25 HR0.out 0 p1072 q1072
      cases e1072
      have qi1072 : (0 < l0.length) = True := eq_true (by omega)
      (try rw [show ((0 : Int)).toNat = 0 from rfl] at hx1072_0)
      (try rw [show 0 * 2 = 0 from rfl] at hx1072_0)
      (try rw [Addr.add_zero'] at hx1072_0)
      (try rw [show ((0 : Int)).toNat = 0 from rfl] at hx1072_1)
      (try rw [show 0 * 2 = 0 from rfl] at hx1072_1)
      (try rw [Addr.add_zero'] at hx1072_1)
      replace hx1072_0 := (HB.out.cell (World.block_lt_of_cell? w _ hx1072_0)).trans hx1072_0
      replace hx1072_1 := (HB.out.cell (World.block_lt_of_cell? w _ hx1072_1)).trans hx1072_1
      replace p1072 := eq_true p1072
      replace q1072 := eq_true q1072
      go_wp2_with (first | ((with_reducible refine gate_dst (N := 7) rfl ?_); refine box_event ?hg (N := 7) ?hd (cs := #[.int .i64 0, .bool false]) (t := 25) ?hr ?_; (case hd => rfl); (case hg => rfl); (case hr => first | (go_simp; done) | (go_simp; rfl)); intro gb1073 hg w37 hbox hb; have n0_ := Q0_ (below_step (upB HB) hb); have n1_ := Q0_ (hbox); have n2_ := Q0_ ((by rw [hg]; exact (below_size (upB HB)) : w.heap.size ≤ gb1073)); have n3_ := Q0_ ((by rw [hg]; exact (below_size (upB HB)) : w.heap.size ≤ gb1073)); clear HB; revert n0_ n1_ n2_ n3_; intro HB BK1073 GW1073 GE1073; clear hb hbox hg; have hcz38_0 : w37.cell? ⟨gb1073, 0, none⟩ = some (.int .i64 0) := (blk_cell BK1073.out 0).trans rfl; have hcz38_1 : w37.cell? ⟨gb1073, 1, none⟩ = some (.bool false) := (blk_cell BK1073.out 1).trans rfl; have hfz38_0 := blk_frozen BK1073.out 0; have hfz38_1 := blk_frozen BK1073.out 1) | ((with_reducible refine gate_callee (f := 89) rfl ?_); refine goesL_ (some 37) rfl rfl Tryd.func89 (by kernel_rfl) rfl #[.agg #[.int .i64 (wrap64 (((rd_T25 l0 0).f0) + a1)), .bool (x6_2 == 1)]] rfl hM ?_; (with_reducible refine (spec_ToneValid.calls (wrap64 (((rd_T25 l0 0).f0) + a1)) (x6_2 == 1) false _ A17.out).mono ?_); rintro e w39 ⟨rfl, hb⟩; refine ⟨_, rfl, ?_⟩; have n0_ := Q0_ (blk_below (g := gb1073) (o := .cells #[.int .i64 (wrap64 (((rd_T25 l0 0).f0) + a1)), .bool (x6_2 == 1)] 25 (0, 0)) (by (repeat refine blk_q ?_); refine blk_put (cs := #[.int .i64 (wrap64 (((rd_T25 l0 0).f0) + a1)), .bool false]) ?_ 1 _ rfl; (repeat refine blk_q ?_); refine blk_put (cs := #[.int .i64 0, .bool false]) ?_ 0 _ rfl; (repeat refine blk_q ?_); exact BK1073.out) hb); have n1_ := Q0_ (below_step upH hb); clear BK1073 HB; revert n0_ n1_; intro BK1073 HB; (try clear hb); (try clear hb2); (try clear hk); (try clear hi)))
      go_roundg k2
      case measure => have := HJ5.out; have := HK2.out; omega
      case rel => exact ⟨(wrap64 (x6_2 + 1)), eX, H', ⟨by have := HJ5.out; have := HK2.out; omega⟩, ⟨by repeat (first | (with_reducible first | exact HB.out | apply below_alloc | apply pw_below_drewN | apply below_drew1 | refine below_set ?_ GE1073.out) | exact HB.out)⟩⟩
     subst c18
     replace H := ifP (rfl) H
     obtain ⟨t1075, A190, H⟩ := Option.bind_eq_some_iff.mp H
     try dsimp only at H
     have A19 := Aside0.mk A190
     clear A190
     obtain ⟨t1077, A200, H⟩ := Option.bind_eq_some_iff.mp H
     try dsimp only at H
     have A20 := Aside0.mk A200
     clear A200
     obtain ⟨⟨t1078, t1079⟩, A210, H⟩ := Option.bind_eq_some_iff.mp H
     try dsimp only at H
     have A21 := Aside0.mk A210
     clear A210
     by_cases c22 : t1079 = true
     ·subst c22
      replace H := ifP (rfl) H
      simp only [Option.some.injEq, Prod.mk.injEq] at H
      obtain ⟨rfl, rfl⟩ := H
      have p1072 : 0 ≤ (0 : Int) := (by omega)
      have q1072 : 0 < (l0.length : Int) := of_decide_eq_true aS
      obtain ⟨ad1072, e1072, hx1072_0, hx1072_1⟩ := at_T25 HR0.out 0 p1072 q1072
      cases e1072
      have qi1072 : (0 < l0.length) = True := eq_true (by omega)
      (try rw [show ((0 : Int)).toNat = 0 from rfl] at hx1072_0)
      (try rw [show 0 * 2 = 0 from rfl] at hx1072_0)
      (try rw [Addr.add_zero'] at hx1072_0)
      (try rw [show ((0 : Int)).toNat = 0 from rfl] at hx1072_1)
      (try rw [show 0 * 2 = 0 from rfl] at hx1072_1)
      (try rw [Addr.add_zero'] at hx1072_1)
      replace hx1072_0 := (HB.out.cell (World.block_lt_of_cell? w _ hx1072_0)).trans hx1072_0
      replace hx1072_1 := (HB.out.cell (World.block_lt_of_cell? w _ hx1072_1)).trans hx1072_1
      replace p1072 := eq_true p1072
      replace q1072 := eq_true q1072
      try go_wp2_with (first | ((with_reducible refine gate_dst (N := 7) rfl ?_); refine box_event ?hg (N := 7) ?hd (cs := #[.int .i64 0, .bool false]) (t := 25) ?hr ?_; (case hd => rfl); (case hg => rfl); (case hr => first | (go_simp; done) | (go_simp; rfl)); intro gb1073 hg w23 hbox hb; have n0_ := Q0_ (below_step (upB HB) hb); have n1_ := Q0_ (hbox); have n2_ := Q0_ ((by rw [hg]; exact (below_size (upB HB)) : w.heap.size ≤ gb1073)); have n3_ := Q0_ ((by rw [hg]; exact (below_size (upB HB)) : w.heap.size ≤ gb1073)); clear HB; revert n0_ n1_ n2_ n3_; intro HB BK1073 GW1073 GE1073; clear hb hbox hg; have hcz24_0 : w23.cell? ⟨gb1073, 0, none⟩ = some (.int .i64 0) := (blk_cell BK1073.out 0).trans rfl; have hcz24_1 : w23.cell? ⟨gb1073, 1, none⟩ = some (.bool false) := (blk_cell BK1073.out 1).trans rfl; have hfz24_0 := blk_frozen BK1073.out 0; have hfz24_1 := blk_frozen BK1073.out 1) | ((with_reducible refine gate_callee (f := 89) rfl ?_); refine goesL_ (some 37) rfl rfl Tryd.func89 (by kernel_rfl) rfl #[.agg #[.int .i64 (wrap64 (((rd_T25 l0 0).f0) + a1)), .bool (x6_2 == 1)]] rfl hM ?_; (with_reducible refine (spec_ToneValid.calls (wrap64 (((rd_T25 l0 0).f0) + a1)) (x6_2 == 1) true _ A17.out).mono ?_); rintro e w25 ⟨rfl, hb⟩; refine ⟨_, rfl, ?_⟩; have n0_ := Q0_ (blk_below (g := gb1073) (o := .cells #[.int .i64 (wrap64 (((rd_T25 l0 0).f0) + a1)), .bool (x6_2 == 1)] 25 (0, 0)) (by (repeat refine blk_q ?_); refine blk_put (cs := #[.int .i64 (wrap64 (((rd_T25 l0 0).f0) + a1)), .bool false]) ?_ 1 _ rfl; (repeat refine blk_q ?_); refine blk_put (cs := #[.int .i64 0, .bool false]) ?_ 0 _ rfl; (repeat refine blk_q ?_); exact BK1073.out) hb); have n1_ := Q0_ (below_step upH hb); clear BK1073 HB; revert n0_ n1_; intro BK1073 HB; (try clear hb); (try clear hb2); (try clear hk); (try clear hi)))
      have n0_ := Q0_ (blk_drew BK1073.out)
      have n1_ := Q0_ (below_drew1 HB.out)
      clear BK1073 HB; revert n0_ n1_; intro BK1073 HB
      have p1076 : 0 ≤ (0 : Int) := (by omega)
      have q1076 : 0 < (l0.length : Int) := of_decide_eq_true aS
      obtain ⟨ad1076, e1076, hx1076_0, hx1076_1⟩ := at_T25 HR0.out 0 p1076 q1076
      have hw1076_1 := hx1076_1
      (try rw [show ((0 : Int)).toNat = 0 from rfl] at hw1076_1)
      (try rw [show 0 * 2 = 0 from rfl] at hw1076_1)
      (try rw [Addr.add_zero'] at hw1076_1)
      have hw1076_0 := hx1076_0
      (try rw [show ((0 : Int)).toNat = 0 from rfl] at hw1076_0)
      (try rw [show 0 * 2 = 0 from rfl] at hw1076_0)
      (try rw [Addr.add_zero'] at hw1076_0)
      obtain rfl : ad1072 = ad1076 := (by injection e1076)
      have qi1076 : (0 < l0.length) = True := eq_true (by omega)
      (try rw [show ((0 : Int)).toNat = 0 from rfl] at hx1076_0)
      (try rw [show 0 * 2 = 0 from rfl] at hx1076_0)
      (try rw [Addr.add_zero'] at hx1076_0)
      (try rw [show ((0 : Int)).toNat = 0 from rfl] at hx1076_1)
      (try rw [show 0 * 2 = 0 from rfl] at hx1076_1)
      (try rw [Addr.add_zero'] at hx1076_1)
      replace hx1076_0 := (HB.out.cell (World.block_lt_of_cell? w _ hx1076_0)).trans hx1076_0
      replace hx1076_1 := (HB.out.cell (World.block_lt_of_cell? w _ hx1076_1)).trans hx1076_1
      replace p1076 := eq_true p1076
      replace q1076 := eq_true q1076
      refine start_ (n := 15) (S := fun w' => w'.cell? ⟨gb1073, 0, none⟩ = some (.int .i64 (wrap64 (((rd_T25 l0 0).f0) + a1))) ∧ w'.cell? ⟨gb1073, 1, none⟩ = some (.bool (x6_2 == 1)) ∧ w'.cell? ad1072 = some (.int .i64 ((rd_T25 l0 0).f0)) ∧ w'.cell? ⟨ad1072.block, ad1072.off + 1, none⟩ = some (.bool ((rd_T25 l0 0).f1))) (ds := []) #[ff,ff,ff,ff,ff,ff,ff,ff,ff,ff,ff,ff,ff,ff,ff] (by kernel_rfl) rfl rfl ⟨(blk_cell BK1073.out 0).trans rfl, (blk_cell BK1073.out 1).trans rfl, ((HB.out.cell (World.block_lt_of_cell? w _ hw1076_0)).trans hw1076_0), ((HB.out.cell (World.block_lt_of_cell? w _ hw1076_1)).trans hw1076_1)⟩ (fun hHeld => ?_); refine with_tabW spec_MelodyMove.tab10 spec_MelodyMove.bits10 (fun HT_ HW_ => ?_)
      generalize w25.drew = w26 at BK1073 HB hx1076_0 hx1076_1 hHeld ⊢
      refine pQ HT_ 0 (some 40) #[tt,ff,ff,ff,ff,ff,ff,ff,ff,ff,ff,ff,ff,ff,ff] rfl rfl ?_
      refine pQ HT_ 1 (some 41) #[tt,tt,ff,ff,ff,ff,ff,ff,ff,ff,ff,ff,ff,ff,ff] rfl rfl ?_
      refine pQ HT_ 4 (some 44) #[tt,tt,ff,ff,tt,ff,ff,ff,ff,ff,ff,ff,ff,ff,ff] rfl rfl ?_
      refine pQ HT_ 5 (some 45) #[tt,tt,ff,ff,tt,tt,ff,ff,ff,ff,ff,ff,ff,ff,ff] rfl rfl ?_
      refine tQ HT_ HW_ 2 (some 42) #[tt,tt,tt,ff,tt,tt,ff,ff,ff,ff,ff,ff,ff,ff,ff] rfl rfl hHeld (by rintro w' ⟨s0, s1, s2, s3⟩; go_simp; with_reducible rfl) ?_
      refine tQ HT_ HW_ 6 (some 46) #[tt,tt,tt,ff,tt,tt,tt,ff,ff,ff,ff,ff,ff,ff,ff] rfl rfl hHeld (by rintro w' ⟨s0, s1, s2, s3⟩; go_simp; with_reducible rfl) ?_
      refine one_ (i := 3) (N := some 43) #[tt,tt,tt,tt,tt,tt,tt,ff,ff,ff,ff,ff,ff,ff,ff] rfl rfl (one_of HT_.out (by kernel_rfl)) (by decide) (fun K hK => ?_)
      refine goes_ Tryd.func101 (by kernel_rfl) rfl #[.agg #[.int .i64 (wrap64 (((rd_T25 l0 0).f0) + a1)), .bool (x6_2 == 1)]] (by rfl) rfl rfl hM ?_
      with_reducible refine (spec_l1Height.calls (wrap64 (((rd_T25 l0 0).f0) + a1)) (x6_2 == 1) t1075 _ A19.out).mono ?_
      rintro e w27 ⟨rfl, hb⟩
      refine ⟨_, rfl, ?_⟩
      have n0_ := Q0_ (blk_below (upK BK1073) hb)
      have n1_ := Q0_ (below_step upH hb)
      clear BK1073 HB; revert n0_ n1_; intro BK1073 HB
      (try clear hb)
      (try clear hb2)
      (try clear hk)
      (try clear hi)
      refine hK.out _ _ ⟨(blk_cell BK1073.out 0).trans rfl, (blk_cell BK1073.out 1).trans rfl, ((HB.out.cell (World.block_lt_of_cell? w _ hw1076_0)).trans hw1076_0), ((HB.out.cell (World.block_lt_of_cell? w _ hw1076_1)).trans hw1076_1)⟩ (fun hHeld => ?_)
      clear hK K
      refine norm_ (a' := ?_) ?_ ?_
      rotate_left
      ·show Act.put _ (some 43) _ = _
       simp only [Act.put, sI, s0, sS, i64_w, i32_w]
       rfl
      refine one_ (i := 7) (N := some 47) #[tt,tt,tt,tt,tt,tt,tt,tt,ff,ff,ff,ff,ff,ff,ff] rfl rfl (one_of HT_.out (by kernel_rfl)) (by decide) (fun K hK => ?_)
      refine goes_ Tryd.func101 (by kernel_rfl) rfl #[.agg #[.int .i64 ((rd_T25 l0 0).f0), .bool ((rd_T25 l0 0).f1)]] (by rfl) rfl rfl hM ?_
      with_reducible refine (spec_l1Height.calls ((rd_T25 l0 0).f0) ((rd_T25 l0 0).f1) t1077 _ A20.out).mono ?_
      rintro e w28 ⟨rfl, hb⟩
      refine ⟨_, rfl, ?_⟩
      have n0_ := Q0_ (blk_below (upK BK1073) hb)
      have n1_ := Q0_ (below_step upH hb)
      clear BK1073 HB; revert n0_ n1_; intro BK1073 HB
      (try clear hb)
      (try clear hb2)
      (try clear hk)
      (try clear hi)
      refine hK.out _ _ ⟨(blk_cell BK1073.out 0).trans rfl, (blk_cell BK1073.out 1).trans rfl, ((HB.out.cell (World.block_lt_of_cell? w _ hw1076_0)).trans hw1076_0), ((HB.out.cell (World.block_lt_of_cell? w _ hw1076_1)).trans hw1076_1)⟩ (fun hHeld => ?_)
      clear hK K
      refine norm_ (a' := ?_) ?_ ?_
      rotate_left
      ·show Act.put _ (some 47) _ = _
       simp only [Act.put, sI, s0, sS, i64_w, i32_w]
       rfl
      refine pQ HT_ 8 (some 48) #[tt,tt,tt,tt,tt,tt,tt,tt,tt,ff,ff,ff,ff,ff,ff] rfl rfl ?_
      refine one_ (i := 9) (N := some 49) #[tt,tt,tt,tt,tt,tt,tt,tt,tt,tt,ff,ff,ff,ff,ff] rfl rfl (one_of HT_.out (by kernel_rfl)) (by decide) (fun K hK => ?_)
      refine goes_ Tryd.func100 (by kernel_rfl) rfl #[.slice (some ad1072) l0.length c0, .int .i64 a1, .int .i64 (wrap64 (t1075 - t1077))] (by rfl) rfl rfl hM ?_
      with_reducible refine (spec_l2Moved.calls k2 _ _ l0 a1 (wrap64 (t1075 - t1077)) t1078 true _ ?side1 ?side2 A21.out).mono ?_
      (case side1 => repeat (first | exact (Kd.C_below HR0.out HB.out) | refine C_q ?_))
      (case side2 => exact HC0.out)
      rintro e w29 ⟨v1080, rfl, ho0, hb⟩
      refine ⟨_, rfl, ?_⟩
      have n0_ := Q0_ (Kd.R_lower (Kd.R_newB ho0 (g := gb1073) (o := .cells #[.int .i64 (wrap64 (((rd_T25 l0 0).f0) + a1)), .bool (x6_2 == 1)] 25 (0, 0)) (upK BK1073)) (below_size upH))
      have n1_ := Q0_ (blk_below (upK BK1073) hb)
      have n2_ := Q0_ (below_step upH hb)
      clear BK1073 HB; revert n0_ n1_ n2_; intro HO1081 BK1073 HB
      (try clear hb)
      (try clear hb2)
      (try clear hk)
      (try clear hi)
      (try clear ho0)
      refine hK.out _ _ ⟨(blk_cell BK1073.out 0).trans rfl, (blk_cell BK1073.out 1).trans rfl, ((HB.out.cell (World.block_lt_of_cell? w _ hw1076_0)).trans hw1076_0), ((HB.out.cell (World.block_lt_of_cell? w _ hw1076_1)).trans hw1076_1)⟩ (fun hHeld => ?_)
      clear hK K
      refine norm_ (a' := ?_) ?_ ?_
      rotate_left
      ·show Act.put _ (some 49) _ = _
       simp only [Act.put, sI, s0, sS, i64_w, i32_w]
       rfl
      refine pQ HT_ 10 (some 39) #[tt,tt,tt,tt,tt,tt,tt,tt,tt,tt,tt,ff,ff,ff,ff] rfl rfl ?_
      refine pQ HT_ 11 (some 50) #[tt,tt,tt,tt,tt,tt,tt,tt,tt,tt,tt,tt,ff,ff,ff] rfl rfl ?_
      refine pQ HT_ 12 (some 51) #[tt,tt,tt,tt,tt,tt,tt,tt,tt,tt,tt,tt,tt,ff,ff] rfl rfl ?_
      refine pQ HT_ 13 (some 8) #[tt,tt,tt,tt,tt,tt,tt,tt,tt,tt,tt,tt,tt,tt,ff] rfl rfl ?_
      refine pQ HT_ 14 (some 9) #[tt,tt,tt,tt,tt,tt,tt,tt,tt,tt,tt,tt,tt,tt,tt] rfl rfl ?_
      refine done_ (done_of HT_.out (by kernel_rfl)) ?_
      try go_wp2
      go_ret2
      exact ⟨_, by first | rfl | (simp [errW_none, errW_some] <;> rfl) | (simp [*, errW_none, errW_some] <;> rfl), by (repeat refine R_q ?_); exact Kd.R_mono HO1081.out (fun _ hk => trivial), by repeat (first | (with_reducible first | exact HB.out | apply below_alloc | apply pw_below_drewN | apply below_drew1 | refine below_set ?_ GE1073.out) | exact HB.out)⟩
     replace c22 := Bool.eq_false_iff.mpr c22
     subst c22
     replace H := ifN ((show ¬ (false = true) by decide)) H
     have H' := Aside0.mk H
     clear H
     have p1072 : 0 ≤ (0 : Int) := (by omega)
     have q1072 : 0 < (l0.length : Int) := of_decide_eq_true aS
     obtain ⟨ad1072, e1072, hx1072_0, hx1072_1⟩ := at_T25 HR0.out 0 p1072 q1072
     cases e1072
     have qi1072 : (0 < l0.length) = True := eq_true (by omega)
     (try rw [show ((0 : Int)).toNat = 0 from rfl] at hx1072_0)
     (try rw [show 0 * 2 = 0 from rfl] at hx1072_0)
     (try rw [Addr.add_zero'] at hx1072_0)
     (try rw [show ((0 : Int)).toNat = 0 from rfl] at hx1072_1)
     (try rw [show 0 * 2 = 0 from rfl] at hx1072_1)
     (try rw [Addr.add_zero'] at hx1072_1)
     replace hx1072_0 := (HB.out.cell (World.block_lt_of_cell? w _ hx1072_0)).trans hx1072_0
     replace hx1072_1 := (HB.out.cell (World.block_lt_of_cell? w _ hx1072_1)).trans hx1072_1
     replace p1072 := eq_true p1072
     replace q1072 := eq_true q1072
     try go_wp2_with (first | ((with_reducible refine gate_dst (N := 7) rfl ?_); refine box_event ?hg (N := 7) ?hd (cs := #[.int .i64 0, .bool false]) (t := 25) ?hr ?_; (case hd => rfl); (case hg => rfl); (case hr => first | (go_simp; done) | (go_simp; rfl)); intro gb1073 hg w30 hbox hb; have n0_ := Q0_ (below_step (upB HB) hb); have n1_ := Q0_ (hbox); have n2_ := Q0_ ((by rw [hg]; exact (below_size (upB HB)) : w.heap.size ≤ gb1073)); have n3_ := Q0_ ((by rw [hg]; exact (below_size (upB HB)) : w.heap.size ≤ gb1073)); clear HB; revert n0_ n1_ n2_ n3_; intro HB BK1073 GW1073 GE1073; clear hb hbox hg; have hcz31_0 : w30.cell? ⟨gb1073, 0, none⟩ = some (.int .i64 0) := (blk_cell BK1073.out 0).trans rfl; have hcz31_1 : w30.cell? ⟨gb1073, 1, none⟩ = some (.bool false) := (blk_cell BK1073.out 1).trans rfl; have hfz31_0 := blk_frozen BK1073.out 0; have hfz31_1 := blk_frozen BK1073.out 1) | ((with_reducible refine gate_callee (f := 89) rfl ?_); refine goesL_ (some 37) rfl rfl Tryd.func89 (by kernel_rfl) rfl #[.agg #[.int .i64 (wrap64 (((rd_T25 l0 0).f0) + a1)), .bool (x6_2 == 1)]] rfl hM ?_; (with_reducible refine (spec_ToneValid.calls (wrap64 (((rd_T25 l0 0).f0) + a1)) (x6_2 == 1) true _ A17.out).mono ?_); rintro e w32 ⟨rfl, hb⟩; refine ⟨_, rfl, ?_⟩; have n0_ := Q0_ (blk_below (g := gb1073) (o := .cells #[.int .i64 (wrap64 (((rd_T25 l0 0).f0) + a1)), .bool (x6_2 == 1)] 25 (0, 0)) (by (repeat refine blk_q ?_); refine blk_put (cs := #[.int .i64 (wrap64 (((rd_T25 l0 0).f0) + a1)), .bool false]) ?_ 1 _ rfl; (repeat refine blk_q ?_); refine blk_put (cs := #[.int .i64 0, .bool false]) ?_ 0 _ rfl; (repeat refine blk_q ?_); exact BK1073.out) hb); have n1_ := Q0_ (below_step upH hb); clear BK1073 HB; revert n0_ n1_; intro BK1073 HB; (try clear hb); (try clear hb2); (try clear hk); (try clear hi)))
     have n0_ := Q0_ (blk_drew BK1073.out)
     have n1_ := Q0_ (below_drew1 HB.out)
     clear BK1073 HB; revert n0_ n1_; intro BK1073 HB
     have p1076 : 0 ≤ (0 : Int) := (by omega)
     have q1076 : 0 < (l0.length : Int) := of_decide_eq_true aS
     obtain ⟨ad1076, e1076, hx1076_0, hx1076_1⟩ := at_T25 HR0.out 0 p1076 q1076
     have hw1076_1 := hx1076_1
     (try rw [show ((0 : Int)).toNat = 0 from rfl] at hw1076_1)
     (try rw [show 0 * 2 = 0 from rfl] at hw1076_1)
     (try rw [Addr.add_zero'] at hw1076_1)
     have hw1076_0 := hx1076_0
     (try rw [show ((0 : Int)).toNat = 0 from rfl] at hw1076_0)
     (try rw [show 0 * 2 = 0 from rfl] at hw1076_0)
     (try rw [Addr.add_zero'] at hw1076_0)
     obtain rfl : ad1072 = ad1076 := (by injection e1076)
     have qi1076 : (0 < l0.length) = True := eq_true (by omega)
     (try rw [show ((0 : Int)).toNat = 0 from rfl] at hx1076_0)
     (try rw [show 0 * 2 = 0 from rfl] at hx1076_0)
     (try rw [Addr.add_zero'] at hx1076_0)
     (try rw [show ((0 : Int)).toNat = 0 from rfl] at hx1076_1)
     (try rw [show 0 * 2 = 0 from rfl] at hx1076_1)
     (try rw [Addr.add_zero'] at hx1076_1)
     replace hx1076_0 := (HB.out.cell (World.block_lt_of_cell? w _ hx1076_0)).trans hx1076_0
     replace hx1076_1 := (HB.out.cell (World.block_lt_of_cell? w _ hx1076_1)).trans hx1076_1
     replace p1076 := eq_true p1076
     replace q1076 := eq_true q1076
     refine start_ (n := 15) (S := fun w' => w'.cell? ⟨gb1073, 0, none⟩ = some (.int .i64 (wrap64 (((rd_T25 l0 0).f0) + a1))) ∧ w'.cell? ⟨gb1073, 1, none⟩ = some (.bool (x6_2 == 1)) ∧ w'.cell? ad1072 = some (.int .i64 ((rd_T25 l0 0).f0)) ∧ w'.cell? ⟨ad1072.block, ad1072.off + 1, none⟩ = some (.bool ((rd_T25 l0 0).f1))) (ds := []) #[ff,ff,ff,ff,ff,ff,ff,ff,ff,ff,ff,ff,ff,ff,ff] (by kernel_rfl) rfl rfl ⟨(blk_cell BK1073.out 0).trans rfl, (blk_cell BK1073.out 1).trans rfl, ((HB.out.cell (World.block_lt_of_cell? w _ hw1076_0)).trans hw1076_0), ((HB.out.cell (World.block_lt_of_cell? w _ hw1076_1)).trans hw1076_1)⟩ (fun hHeld => ?_); refine with_tabW spec_MelodyMove.tab10 spec_MelodyMove.bits10 (fun HT_ HW_ => ?_)
     generalize w32.drew = w33 at BK1073 HB hx1076_0 hx1076_1 hHeld ⊢
     refine pQ HT_ 0 (some 40) #[tt,ff,ff,ff,ff,ff,ff,ff,ff,ff,ff,ff,ff,ff,ff] rfl rfl ?_
     refine pQ HT_ 1 (some 41) #[tt,tt,ff,ff,ff,ff,ff,ff,ff,ff,ff,ff,ff,ff,ff] rfl rfl ?_
     refine pQ HT_ 4 (some 44) #[tt,tt,ff,ff,tt,ff,ff,ff,ff,ff,ff,ff,ff,ff,ff] rfl rfl ?_
     refine pQ HT_ 5 (some 45) #[tt,tt,ff,ff,tt,tt,ff,ff,ff,ff,ff,ff,ff,ff,ff] rfl rfl ?_
     refine tQ HT_ HW_ 2 (some 42) #[tt,tt,tt,ff,tt,tt,ff,ff,ff,ff,ff,ff,ff,ff,ff] rfl rfl hHeld (by rintro w' ⟨s0, s1, s2, s3⟩; go_simp; with_reducible rfl) ?_
     refine tQ HT_ HW_ 6 (some 46) #[tt,tt,tt,ff,tt,tt,tt,ff,ff,ff,ff,ff,ff,ff,ff] rfl rfl hHeld (by rintro w' ⟨s0, s1, s2, s3⟩; go_simp; with_reducible rfl) ?_
     refine one_ (i := 3) (N := some 43) #[tt,tt,tt,tt,tt,tt,tt,ff,ff,ff,ff,ff,ff,ff,ff] rfl rfl (one_of HT_.out (by kernel_rfl)) (by decide) (fun K hK => ?_)
     refine goes_ Tryd.func101 (by kernel_rfl) rfl #[.agg #[.int .i64 (wrap64 (((rd_T25 l0 0).f0) + a1)), .bool (x6_2 == 1)]] (by rfl) rfl rfl hM ?_
     with_reducible refine (spec_l1Height.calls (wrap64 (((rd_T25 l0 0).f0) + a1)) (x6_2 == 1) t1075 _ A19.out).mono ?_
     rintro e w34 ⟨rfl, hb⟩
     refine ⟨_, rfl, ?_⟩
     have n0_ := Q0_ (blk_below (upK BK1073) hb)
     have n1_ := Q0_ (below_step upH hb)
     clear BK1073 HB; revert n0_ n1_; intro BK1073 HB
     (try clear hb)
     (try clear hb2)
     (try clear hk)
     (try clear hi)
     refine hK.out _ _ ⟨(blk_cell BK1073.out 0).trans rfl, (blk_cell BK1073.out 1).trans rfl, ((HB.out.cell (World.block_lt_of_cell? w _ hw1076_0)).trans hw1076_0), ((HB.out.cell (World.block_lt_of_cell? w _ hw1076_1)).trans hw1076_1)⟩ (fun hHeld => ?_)
     clear hK K
     refine norm_ (a' := ?_) ?_ ?_
     rotate_left
     ·show Act.put _ (some 43) _ = _
      simp only [Act.put, sI, s0, sS, i64_w, i32_w]
      rfl
     refine one_ (i := 7) (N := some 47) #[tt,tt,tt,tt,tt,tt,tt,tt,ff,ff,ff,ff,ff,ff,ff] rfl rfl (one_of HT_.out (by kernel_rfl)) (by decide) (fun K hK => ?_)
     refine goes_ Tryd.func101 (by kernel_rfl) rfl #[.agg #[.int .i64 ((rd_T25 l0 0).f0), .bool ((rd_T25 l0 0).f1)]] (by rfl) rfl rfl hM ?_
     with_reducible refine (spec_l1Height.calls ((rd_T25 l0 0).f0) ((rd_T25 l0 0).f1) t1077 _ A20.out).mono ?_
     rintro e w35 ⟨rfl, hb⟩
     refine ⟨_, rfl, ?_⟩
     have n0_ := Q0_ (blk_below (upK BK1073) hb)
     have n1_ := Q0_ (below_step upH hb)
     clear BK1073 HB; revert n0_ n1_; intro BK1073 HB
     (try clear hb)
     (try clear hb2)
     (try clear hk)
     (try clear hi)
     refine hK.out _ _ ⟨(blk_cell BK1073.out 0).trans rfl, (blk_cell BK1073.out 1).trans rfl, ((HB.out.cell (World.block_lt_of_cell? w _ hw1076_0)).trans hw1076_0), ((HB.out.cell (World.block_lt_of_cell? w _ hw1076_1)).trans hw1076_1)⟩ (fun hHeld => ?_)
     clear hK K
     refine norm_ (a' := ?_) ?_ ?_
     rotate_left
     ·show Act.put _ (some 47) _ = _
      simp only [Act.put, sI, s0, sS, i64_w, i32_w]
      rfl
     refine pQ HT_ 8 (some 48) #[tt,tt,tt,tt,tt,tt,tt,tt,tt,ff,ff,ff,ff,ff,ff] rfl rfl ?_
     refine one_ (i := 9) (N := some 49) #[tt,tt,tt,tt,tt,tt,tt,tt,tt,tt,ff,ff,ff,ff,ff] rfl rfl (one_of HT_.out (by kernel_rfl)) (by decide) (fun K hK => ?_)
     refine goes_ Tryd.func100 (by kernel_rfl) rfl #[.slice (some ad1072) l0.length c0, .int .i64 a1, .int .i64 (wrap64 (t1075 - t1077))] (by rfl) rfl rfl hM ?_
     with_reducible refine (spec_l2Moved.calls k2 _ _ l0 a1 (wrap64 (t1075 - t1077)) t1078 false _ ?side1 ?side2 A21.out).mono ?_
     (case side1 => repeat (first | exact (Kd.C_below HR0.out HB.out) | refine C_q ?_))
     (case side2 => exact HC0.out)
     rintro e w36 ⟨v1080, rfl, ho0, hb⟩
     refine ⟨_, rfl, ?_⟩
     have n0_ := Q0_ (Kd.R_lower (Kd.R_newB ho0 (g := gb1073) (o := .cells #[.int .i64 (wrap64 (((rd_T25 l0 0).f0) + a1)), .bool (x6_2 == 1)] 25 (0, 0)) (upK BK1073)) (below_size upH))
     have n1_ := Q0_ (blk_below (upK BK1073) hb)
     have n2_ := Q0_ (below_step upH hb)
     clear BK1073 HB; revert n0_ n1_ n2_; intro HO1081 BK1073 HB
     (try clear hb)
     (try clear hb2)
     (try clear hk)
     (try clear hi)
     (try clear ho0)
     refine hK.out _ _ ⟨(blk_cell BK1073.out 0).trans rfl, (blk_cell BK1073.out 1).trans rfl, ((HB.out.cell (World.block_lt_of_cell? w _ hw1076_0)).trans hw1076_0), ((HB.out.cell (World.block_lt_of_cell? w _ hw1076_1)).trans hw1076_1)⟩ (fun hHeld => ?_)
     clear hK K
     refine norm_ (a' := ?_) ?_ ?_
     rotate_left
     ·show Act.put _ (some 49) _ = _
      simp only [Act.put, sI, s0, sS, i64_w, i32_w]
      rfl
     refine pQ HT_ 10 (some 39) #[tt,tt,tt,tt,tt,tt,tt,tt,tt,tt,tt,ff,ff,ff,ff] rfl rfl ?_
     refine pQ HT_ 11 (some 50) #[tt,tt,tt,tt,tt,tt,tt,tt,tt,tt,tt,tt,ff,ff,ff] rfl rfl ?_
     refine pQ HT_ 12 (some 51) #[tt,tt,tt,tt,tt,tt,tt,tt,tt,tt,tt,tt,tt,ff,ff] rfl rfl ?_
     refine pQ HT_ 13 (some 8) #[tt,tt,tt,tt,tt,tt,tt,tt,tt,tt,tt,tt,tt,tt,ff] rfl rfl ?_
     refine pQ HT_ 14 (some 9) #[tt,tt,tt,tt,tt,tt,tt,tt,tt,tt,tt,tt,tt,tt,tt] rfl rfl ?_
     refine done_ (done_of HT_.out (by kernel_rfl)) ?_
     try go_wp2
     go_roundg k2
     case measure => have := HJ5.out; have := HK2.out; omega
     case rel => exact ⟨(wrap64 (x6_2 + 1)), eX, H', ⟨by have := HJ5.out; have := HK2.out; omega⟩, ⟨by repeat (first | (with_reducible first | exact HB.out | apply below_alloc | apply pw_below_drewN | apply below_drew1 | refine below_set ?_ GE1073.out) | exact HB.out)⟩⟩
def spec_l4Melody.f (l0_0 : List (S25)) (a0_1 : Int) (a0_2 : Bool) (l0_3 : List (S25)) (l0_4 : List (S25)) : Option ((List (S25))) := (some (([] : List (S25)) : List (S25))).bind fun y1083 => (if y1083.length + l0_0.length < 8796093022208 then ((some (y1083 ++ l0_0 : List (S25))).bind fun y1086 => (if y1086.length < 8796093022208 then ((some (y1086 ++ [(⟨a0_1, a0_2⟩ : S25)] : List (S25))).bind fun y1089 => (if y1089.length + l0_3.length < 8796093022208 then ((some (y1089 ++ l0_3 : List (S25))).bind fun y1092 => (if y1092.length + l0_4.length < 8796093022208 then (some (y1092 ++ l0_4)) else (none))) else (none))) else (none))) else (none))
set_option maxHeartbeats 8000000 in
set_option maxRecDepth 100000 in
theorem spec_l4Melody.calls (A0_0 : Option Addr) (c0_0 : Nat) (l0_0 : List (S25)) (a0_1 : Int) (a0_2 : Bool) (A0_3 : Option Addr) (c0_3 : Nat) (l0_3 : List (S25)) (A0_4 : Option Addr) (c0_4 : Nat) (l0_4 : List (S25)) (r : List (S25)) (w : World) (hr0_0 : Kd.C k25 w A0_0 l0_0.length l0_0) (hc0_0 : l0_0.length ≤ c0_0) (hr0_3 : Kd.C k25 w A0_3 l0_3.length l0_3) (hc0_3 : l0_3.length ≤ c0_3) (hr0_4 : Kd.C k25 w A0_4 l0_4.length l0_4) (hc0_4 : l0_4.length ≤ c0_4) (h : spec_l4Melody.f l0_0 a0_1 a0_2 l0_3 l0_4 = some r) :
  Calls Tryd.prog 83 #[.agg #[.slice A0_0 l0_0.length c0_0, .int .i64 a0_1, .bool a0_2, .slice A0_3 l0_3.length c0_3, .slice A0_4 l0_4.length c0_4]] w fun e w' => ∃ v0_ : Value, e = .returned (v0_) ∧ Kd.R k25 25 w' w.heap.size (fun _ => True) v0_ r ∧ Below w.heap.size w w' := by
 have hu27 := Tryd.underlying27
 have hu25 := Tryd.underlying25
 have HR0_0 := Aside0.mk hr0_0
 have HC0_0 := Aside0.mk hc0_0
 clear hr0_0 hc0_0
 have HR0_3 := Aside0.mk hr0_3
 have HC0_3 := Aside0.mk hc0_3
 clear hr0_3 hc0_3
 have HR0_4 := Aside0.mk hr0_4
 have HC0_4 := Aside0.mk hc0_4
 clear hr0_4 hc0_4
 have HB := Q0_ (Below.refl w.heap.size w)
 have H : ((some (([] : List (S25)) : List (S25))).bind fun y1083 => (if y1083.length + l0_0.length < 8796093022208 then ((some (y1083 ++ l0_0 : List (S25))).bind fun y1086 => (if y1086.length < 8796093022208 then ((some (y1086 ++ [(⟨a0_1, a0_2⟩ : S25)] : List (S25))).bind fun y1089 => (if y1089.length + l0_3.length < 8796093022208 then ((some (y1089 ++ l0_3 : List (S25))).bind fun y1092 => (if y1092.length + l0_4.length < 8796093022208 then (some (y1092 ++ l0_4)) else (none))) else (none))) else (none))) else (none))) = some r := h
 clear h
 obtain ⟨y1083, hy1083⟩ : ∃ y_ : List (S25), y_ = (([] : List (S25))) := ⟨_, rfl⟩
 replace H : (if y1083.length + l0_0.length < 8796093022208 then ((some (y1083 ++ l0_0 : List (S25))).bind fun y1086 => (if y1086.length < 8796093022208 then ((some (y1086 ++ [(⟨a0_1, a0_2⟩ : S25)] : List (S25))).bind fun y1089 => (if y1089.length + l0_3.length < 8796093022208 then ((some (y1089 ++ l0_3 : List (S25))).bind fun y1092 => (if y1092.length + l0_4.length < 8796093022208 then (some (y1092 ++ l0_4)) else (none))) else (none))) else (none))) else (none)) = some r := by first | (rw [hy1083]; with_reducible exact H) | (have H2_ := (Option.bind_some _ _).symm.trans H; rw [hy1083]; with_reducible exact H2_) | (have H2_ := (Option.bind_some _ _).symm.trans H; with_reducible exact H2_) | with_reducible exact H | (rw [hy1083]; exact H) | exact H
 have Ny1083 := Aside0.mk hy1083
 clear hy1083
 by_cases c2 : y1083.length + l0_0.length < 8796093022208
 rotate_left
 ·rw [if_neg c2] at H
  exact absurd H (by simp)
 rw [if_pos c2] at H
 have LMc2 := Aside0.mk c2
 clear c2
 obtain ⟨y1086, hy1086⟩ : ∃ y_ : List (S25), y_ = (y1083 ++ l0_0) := ⟨_, rfl⟩
 replace H : (if y1086.length < 8796093022208 then ((some (y1086 ++ [(⟨a0_1, a0_2⟩ : S25)] : List (S25))).bind fun y1089 => (if y1089.length + l0_3.length < 8796093022208 then ((some (y1089 ++ l0_3 : List (S25))).bind fun y1092 => (if y1092.length + l0_4.length < 8796093022208 then (some (y1092 ++ l0_4)) else (none))) else (none))) else (none)) = some r := by first | (rw [hy1086]; with_reducible exact H) | (have H2_ := (Option.bind_some _ _).symm.trans H; rw [hy1086]; with_reducible exact H2_) | (have H2_ := (Option.bind_some _ _).symm.trans H; with_reducible exact H2_) | with_reducible exact H | (rw [hy1086]; exact H) | exact H
 have Ny1086 := Aside0.mk hy1086
 clear hy1086
 by_cases c3 : y1086.length < 8796093022208
 rotate_left
 ·rw [if_neg c3] at H
  exact absurd H (by simp)
 rw [if_pos c3] at H
 have LMc3 := Aside0.mk c3
 clear c3
 obtain ⟨y1089, hy1089⟩ : ∃ y_ : List (S25), y_ = (y1086 ++ [(⟨a0_1, a0_2⟩ : S25)]) := ⟨_, rfl⟩
 replace H : (if y1089.length + l0_3.length < 8796093022208 then ((some (y1089 ++ l0_3 : List (S25))).bind fun y1092 => (if y1092.length + l0_4.length < 8796093022208 then (some (y1092 ++ l0_4)) else (none))) else (none)) = some r := by first | (rw [hy1089]; with_reducible exact H) | (have H2_ := (Option.bind_some _ _).symm.trans H; rw [hy1089]; with_reducible exact H2_) | (have H2_ := (Option.bind_some _ _).symm.trans H; with_reducible exact H2_) | with_reducible exact H | (rw [hy1089]; exact H) | exact H
 have Ny1089 := Aside0.mk hy1089
 clear hy1089
 by_cases c4 : y1089.length + l0_3.length < 8796093022208
 rotate_left
 ·rw [if_neg c4] at H
  exact absurd H (by simp)
 rw [if_pos c4] at H
 have LMc4 := Aside0.mk c4
 clear c4
 obtain ⟨y1092, hy1092⟩ : ∃ y_ : List (S25), y_ = (y1089 ++ l0_3) := ⟨_, rfl⟩
 replace H : (if y1092.length + l0_4.length < 8796093022208 then (some (y1092 ++ l0_4)) else (none)) = some r := by first | (rw [hy1092]; with_reducible exact H) | (have H2_ := (Option.bind_some _ _).symm.trans H; rw [hy1092]; with_reducible exact H2_) | (have H2_ := (Option.bind_some _ _).symm.trans H; with_reducible exact H2_) | with_reducible exact H | (rw [hy1092]; exact H) | exact H
 have Ny1092 := Aside0.mk hy1092
 clear hy1092
 by_cases c5 : y1092.length + l0_4.length < 8796093022208
 rotate_left
 ·rw [if_neg c5] at H
  exact absurd H (by simp)
 rw [if_pos c5] at H
 have LMc5 := Aside0.mk c5
 clear c5
 obtain ⟨y1095, hy1095⟩ : ∃ y_ : List (S25), y_ = (y1092 ++ l0_4) := ⟨_, rfl⟩
 replace H : (some y1095) = some r := by first | (rw [hy1095]; with_reducible exact H) | (have H2_ := (Option.bind_some _ _).symm.trans H; rw [hy1095]; with_reducible exact H2_) | (have H2_ := (Option.bind_some _ _).symm.trans H; with_reducible exact H2_) | with_reducible exact H | (rw [hy1095]; exact H) | exact H
 have Ny1095 := Aside0.mk hy1095
 clear hy1095
 obtain rfl := Option.some.inj H
 go_enter Tryd.func83, Tryd.ntmps83
 go_wp2_with (first | ((with_reducible refine gate_dst (N := 1) rfl ?_); refine box_event ?hg (N := 1) ?hd (cs := #[.slice A0_0 l0_0.length c0_0, .int .i64 a0_1, .bool a0_2, .slice A0_3 l0_3.length c0_3, .slice A0_4 l0_4.length c0_4]) (t := 27) ?hr ?_; (case hd => rfl); (case hg => rfl); (case hr => first | (go_simp; done) | (go_simp; rfl)); intro gb1082 hg w6 hbox hb; have n0_ := Q0_ (below_step (upB HB) hb); have n1_ := Q0_ (hbox); have n2_ := Q0_ ((by rw [hg]; exact (below_size (upB HB)) : w.heap.size ≤ gb1082)); have n3_ := Q0_ ((by rw [hg]; exact (below_size (upB HB)) : w.heap.size ≤ gb1082)); clear HB; revert n0_ n1_ n2_ n3_; intro HB BK1082 GW1082 GE1082; clear hb hbox hg) | ((with_reducible refine gate_dst (N := 4) rfl ?_); refine Kd.R_lit k25 _ 25 ?hg (N := 4) ?hd (xs := ([] : List (S25))) (inner := []) (ok := fun _ => True) (okp := fun _ => True) ?hr ?hp (fun _ hk => hk) trivial (Below.refl _ _) (Nat.le_refl _) (by simp) ?_; (case hd => rfl); (case hg => rfl); (case hr => first | (go_simp; done) | (go_simp; rfl)); (case hp => exact (Reps.none _ _)); intro v1084 w7 ho8 hb hg_ hnew_; clear hg_ hnew_; (first | rw [← Ny1083.out] at ho8 | (simp only [Int.reduceToNat] at ho8; rw [← Ny1083.out] at ho8)); have n0_ := Q0_ (Kd.R_lower ho8 (below_size upH)); have n1_ := Q0_ (blk_below (upK BK1082) hb); have n2_ := Q0_ (below_step upH hb); clear BK1082 HB; revert n0_ n1_ n2_; intro HO1085 BK1082 HB; clear hb ho8; have hcz9_0 : w7.cell? ⟨gb1082, 0, none⟩ = some (.slice A0_0 l0_0.length c0_0) := (blk_cell BK1082.out 0).trans rfl; have hcz9_1 : w7.cell? ⟨gb1082, 1, none⟩ = some (.int .i64 a0_1) := (blk_cell BK1082.out 1).trans rfl; have hcz9_2 : w7.cell? ⟨gb1082, 2, none⟩ = some (.bool a0_2) := (blk_cell BK1082.out 2).trans rfl; have hcz9_3 : w7.cell? ⟨gb1082, 3, none⟩ = some (.slice A0_3 l0_3.length c0_3) := (blk_cell BK1082.out 3).trans rfl; have hcz9_4 : w7.cell? ⟨gb1082, 4, none⟩ = some (.slice A0_4 l0_4.length c0_4) := (blk_cell BK1082.out 4).trans rfl; have hfz9_0 := blk_frozen BK1082.out 0; have hfz9_1 := blk_frozen BK1082.out 1; have hfz9_2 := blk_frozen BK1082.out 2; have hfz9_3 := blk_frozen BK1082.out 3; have hfz9_4 := blk_frozen BK1082.out 4) | ((with_reducible refine gate_builtin (b := .append) (xs := #[.tmp 4, .tmp 6]) rfl ?_); at_builtin; refine Kd.R_append_rows k25 (w0 := w) w.heap.size rfl (.tmp 4) (.tmp 6) 23 25 (.agg #[(.int .i64 0), (.bool false)]) 16 rfl Tryd.underlying23 info25 rfl (by decide) (by omega) v1084 y1083 l0_0 _ _ _ (fun _ => True) (fun _ => False) rfl rfl ?aO ?aR (fun _ _ h => h) (fun _ h => h.elim) ?aF ?aB ?aS ?aL ?_; (case aR => repeat (first | exact (Kd.C_below HR0_0.out HB.out) | refine C_q ?_)); (case aB => exact upH); (case aF => exact (fun _ _ => trivial)); (case aO => exact (upR HO1085)); (case aS => exact (below_size upH)); (case aL => have := LMc2.out; omega); intro v1087 w10 ho hb hg hat; rw [← Ny1086.out] at ho; have n0_ := Q0_ (blk_grown (g := gb1082) (o := .cells #[.slice A0_0 l0_0.length c0_0, .int .i64 a0_1, .bool a0_2, .slice A0_3 l0_3.length c0_3, .slice A0_4 l0_4.length c0_4] 27 (0, 0)) (upK BK1082) hg (Kd.R_ne HO1085.out BK1082.out (by decide))); have n1_ := Q0_ (hb); have n2_ := Q0_ (ho); clear BK1082 HB HO1085; revert n0_ n1_ n2_; intro BK1082 HB HO1088; clear ho hb hg hat; have hcz11_0 : w10.cell? ⟨gb1082, 0, none⟩ = some (.slice A0_0 l0_0.length c0_0) := (blk_cell BK1082.out 0).trans rfl; have hcz11_1 : w10.cell? ⟨gb1082, 1, none⟩ = some (.int .i64 a0_1) := (blk_cell BK1082.out 1).trans rfl; have hcz11_2 : w10.cell? ⟨gb1082, 2, none⟩ = some (.bool a0_2) := (blk_cell BK1082.out 2).trans rfl; have hcz11_3 : w10.cell? ⟨gb1082, 3, none⟩ = some (.slice A0_3 l0_3.length c0_3) := (blk_cell BK1082.out 3).trans rfl; have hcz11_4 : w10.cell? ⟨gb1082, 4, none⟩ = some (.slice A0_4 l0_4.length c0_4) := (blk_cell BK1082.out 4).trans rfl; have hfz11_0 := blk_frozen BK1082.out 0; have hfz11_1 := blk_frozen BK1082.out 1; have hfz11_2 := blk_frozen BK1082.out 2; have hfz11_3 := blk_frozen BK1082.out 3; have hfz11_4 := blk_frozen BK1082.out 4) | ((with_reducible refine gate_builtin (b := .append) (xs := #[.tmp 8, .tmp 11]) rfl ?_); at_builtin; refine Kd.R_append k25 (w0 := w) w.heap.size rfl (.tmp 8) (.tmp 11) 23 25 (.agg #[(.int .i64 0), (.bool false)]) 16 rfl Tryd.underlying23 info25 rfl (by decide) (by omega) v1087 y1086 (⟨a0_1, a0_2⟩ : S25) [.int .i64 a0_1, .bool a0_2] (fun _ => True) (fun _ => False) rfl rfl ?aP (fun _ hk => hk.elim) ?aF ?aO ?aB ?aS ?aL ?_; (case aP => exact k25_mkM _ _ _ (⟨a0_1, a0_2⟩ : S25)); (case aB => exact upH); (case aF => exact (fun _ _ => trivial)); (case aO => exact (upR HO1088)); (case aS => exact (below_size upH)); (case aL => have := LMc3.out; omega); intro v1090 w12 ho hb hg hat; rw [← Ny1089.out] at ho; have n0_ := Q0_ (blk_grown (g := gb1082) (o := .cells #[.slice A0_0 l0_0.length c0_0, .int .i64 a0_1, .bool a0_2, .slice A0_3 l0_3.length c0_3, .slice A0_4 l0_4.length c0_4] 27 (0, 0)) (upK BK1082) hg (Kd.R_ne HO1088.out BK1082.out (by decide))); have n1_ := Q0_ (hb); have n2_ := Q0_ (ho); clear BK1082 HB HO1088; revert n0_ n1_ n2_; intro BK1082 HB HO1091; clear ho hb hg hat; have hcz13_0 : w12.cell? ⟨gb1082, 0, none⟩ = some (.slice A0_0 l0_0.length c0_0) := (blk_cell BK1082.out 0).trans rfl; have hcz13_1 : w12.cell? ⟨gb1082, 1, none⟩ = some (.int .i64 a0_1) := (blk_cell BK1082.out 1).trans rfl; have hcz13_2 : w12.cell? ⟨gb1082, 2, none⟩ = some (.bool a0_2) := (blk_cell BK1082.out 2).trans rfl; have hcz13_3 : w12.cell? ⟨gb1082, 3, none⟩ = some (.slice A0_3 l0_3.length c0_3) := (blk_cell BK1082.out 3).trans rfl; have hcz13_4 : w12.cell? ⟨gb1082, 4, none⟩ = some (.slice A0_4 l0_4.length c0_4) := (blk_cell BK1082.out 4).trans rfl; have hfz13_0 := blk_frozen BK1082.out 0; have hfz13_1 := blk_frozen BK1082.out 1; have hfz13_2 := blk_frozen BK1082.out 2; have hfz13_3 := blk_frozen BK1082.out 3; have hfz13_4 := blk_frozen BK1082.out 4) | ((with_reducible refine gate_builtin (b := .append) (xs := #[.tmp 13, .tmp 15]) rfl ?_); at_builtin; refine Kd.R_append_rows k25 (w0 := w) w.heap.size rfl (.tmp 13) (.tmp 15) 23 25 (.agg #[(.int .i64 0), (.bool false)]) 16 rfl Tryd.underlying23 info25 rfl (by decide) (by omega) v1090 y1089 l0_3 _ _ _ (fun _ => True) (fun _ => False) rfl rfl ?aO ?aR (fun _ _ h => h) (fun _ h => h.elim) ?aF ?aB ?aS ?aL ?_; (case aR => repeat (first | exact (Kd.C_below HR0_3.out HB.out) | refine C_q ?_)); (case aB => exact upH); (case aF => exact (fun _ _ => trivial)); (case aO => exact (upR HO1091)); (case aS => exact (below_size upH)); (case aL => have := LMc4.out; omega); intro v1093 w14 ho hb hg hat; rw [← Ny1092.out] at ho; have n0_ := Q0_ (blk_grown (g := gb1082) (o := .cells #[.slice A0_0 l0_0.length c0_0, .int .i64 a0_1, .bool a0_2, .slice A0_3 l0_3.length c0_3, .slice A0_4 l0_4.length c0_4] 27 (0, 0)) (upK BK1082) hg (Kd.R_ne HO1091.out BK1082.out (by decide))); have n1_ := Q0_ (hb); have n2_ := Q0_ (ho); clear BK1082 HB HO1091; revert n0_ n1_ n2_; intro BK1082 HB HO1094; clear ho hb hg hat; have hcz15_0 : w14.cell? ⟨gb1082, 0, none⟩ = some (.slice A0_0 l0_0.length c0_0) := (blk_cell BK1082.out 0).trans rfl; have hcz15_1 : w14.cell? ⟨gb1082, 1, none⟩ = some (.int .i64 a0_1) := (blk_cell BK1082.out 1).trans rfl; have hcz15_2 : w14.cell? ⟨gb1082, 2, none⟩ = some (.bool a0_2) := (blk_cell BK1082.out 2).trans rfl; have hcz15_3 : w14.cell? ⟨gb1082, 3, none⟩ = some (.slice A0_3 l0_3.length c0_3) := (blk_cell BK1082.out 3).trans rfl; have hcz15_4 : w14.cell? ⟨gb1082, 4, none⟩ = some (.slice A0_4 l0_4.length c0_4) := (blk_cell BK1082.out 4).trans rfl; have hfz15_0 := blk_frozen BK1082.out 0; have hfz15_1 := blk_frozen BK1082.out 1; have hfz15_2 := blk_frozen BK1082.out 2; have hfz15_3 := blk_frozen BK1082.out 3; have hfz15_4 := blk_frozen BK1082.out 4) | ((with_reducible refine gate_builtin (b := .append) (xs := #[.tmp 17, .tmp 19]) rfl ?_); at_builtin; refine Kd.R_append_rows k25 (w0 := w) w.heap.size rfl (.tmp 17) (.tmp 19) 23 25 (.agg #[(.int .i64 0), (.bool false)]) 16 rfl Tryd.underlying23 info25 rfl (by decide) (by omega) v1093 y1092 l0_4 _ _ _ (fun _ => True) (fun _ => False) rfl rfl ?aO ?aR (fun _ _ h => h) (fun _ h => h.elim) ?aF ?aB ?aS ?aL ?_; (case aR => repeat (first | exact (Kd.C_below HR0_4.out HB.out) | refine C_q ?_)); (case aB => exact upH); (case aF => exact (fun _ _ => trivial)); (case aO => exact (upR HO1094)); (case aS => exact (below_size upH)); (case aL => have := LMc5.out; omega); intro v1096 w16 ho hb hg hat; rw [← Ny1095.out] at ho; have n0_ := Q0_ (blk_grown (g := gb1082) (o := .cells #[.slice A0_0 l0_0.length c0_0, .int .i64 a0_1, .bool a0_2, .slice A0_3 l0_3.length c0_3, .slice A0_4 l0_4.length c0_4] 27 (0, 0)) (upK BK1082) hg (Kd.R_ne HO1094.out BK1082.out (by decide))); have n1_ := Q0_ (hb); have n2_ := Q0_ (ho); clear BK1082 HB HO1094; revert n0_ n1_ n2_; intro BK1082 HB HO1097; clear ho hb hg hat))
 go_ret
 exact ⟨_, by first | rfl | (simp [errW_none, errW_some] <;> rfl) | (simp [*, errW_none, errW_some] <;> rfl), by (repeat refine R_q ?_); exact HO1097.out, by repeat (first | (with_reducible first | exact HB.out | apply below_alloc | apply pw_below_drewN | apply below_drew1 | refine below_set ?_ GE1082.out) | exact HB.out)⟩
def spec_PsalmMove.f (k : Nat) (l0_0 : List (S25)) (a0_1 : Int) (a0_2 : Bool) (l0_3 : List (S25)) (l0_4 : List (S25)) (a1 : Int) : Option ((List (S25)) × Int × Bool × (List (S25)) × (List (S25)) × Bool) := (spec_PsalmValid.f k l0_0 a0_1 a0_2 l0_3 l0_4).bind fun t1100 => (if t1100 = true then ((spec_l4Melody.f l0_0 a0_1 a0_2 l0_3 l0_4).bind fun t1101 => ((spec_MelodyMove.f k t1101 a1).bind fun bt1104 => (if bt1104.2 = true then ((some (([] : List (S25)) : List (S25))).bind fun y1108 => (if 0 ≤ (l0_0.length : Int) then (if (l0_0.length : Int) ≤ (bt1104.1.length : Int) then ((some (bt1104.1.take ((l0_0.length : Int) : Int).toNat : List (S25))).bind fun y1111 => (if y1108.length + y1111.length < 8796093022208 then (if (l0_0.length : Int) < (bt1104.1.length : Int) then ((some (([] : List (S25)) : List (S25))).bind fun y1120 => (if 0 ≤ (wrap64 ((l0_0.length : Int) + 1)) then (if (wrap64 ((l0_0.length : Int) + 1)) ≤ (wrap64 ((wrap64 ((l0_0.length : Int) + 1)) + (l0_3.length : Int))) then (if (wrap64 ((wrap64 ((l0_0.length : Int) + 1)) + (l0_3.length : Int))) ≤ (bt1104.1.length : Int) then ((some ((bt1104.1.take ((wrap64 ((wrap64 ((l0_0.length : Int) + 1)) + (l0_3.length : Int))) : Int).toNat).drop ((wrap64 ((l0_0.length : Int) + 1)) : Int).toNat : List (S25))).bind fun y1123 => (if y1120.length + y1123.length < 8796093022208 then ((some (([] : List (S25)) : List (S25))).bind fun y1130 => (if 0 ≤ (wrap64 ((wrap64 ((l0_0.length : Int) + 1)) + (l0_3.length : Int))) then ((some (bt1104.1.drop ((wrap64 ((wrap64 ((l0_0.length : Int) + 1)) + (l0_3.length : Int))) : Int).toNat : List (S25))).bind fun y1133 => (if y1130.length + y1133.length < 8796093022208 then (some ((y1108 ++ y1111), (rd_T25 bt1104.1 (l0_0.length : Int)).f0, (rd_T25 bt1104.1 (l0_0.length : Int)).f1, (y1120 ++ y1123), (y1130 ++ y1133), true)) else (none))) else (none))) else (none))) else (none)) else (none)) else (none))) else (none)) else (none))) else (none)) else (none))) else (some (([] : List (S25)), 0, false, ([] : List (S25)), ([] : List (S25)), false))))) else (some (([] : List (S25)), 0, false, ([] : List (S25)), ([] : List (S25)), false)))
def spec_PsalmMove.T8 : Bool × List (List Nat × List Nat) := (true, [([], []), ([], []), ([], []), ([1, 2], [1, 2]), ([0, 3], [0, 3]), ([], []), ([], []), ([5, 6], [5, 6]), ([7], [7]), ([4, 8], [4, 8]), ([], []), ([10, 9, 4, 0, 1, 2, 3, 4, 5, 6, 7, 8, 9, 10], [9, 10])])
def spec_PsalmMove.B8 : List Nat := [0, 0, 0, 6, 15, 0, 0, 96, 224, 511, 0, 2047]
theorem spec_PsalmMove.tab8 : rtab .any (opsOf Tryd.f53 8) = spec_PsalmMove.T8 := by kernel_rfl
theorem spec_PsalmMove.bits8 : waitsOk spec_PsalmMove.T8.2 spec_PsalmMove.B8 = true := by kernel_rfl
set_option maxHeartbeats 8000000 in
set_option maxRecDepth 100000 in
theorem spec_PsalmMove.calls (k : Nat) (A0_0 : Option Addr) (c0_0 : Nat) (l0_0 : List (S25)) (a0_1 : Int) (a0_2 : Bool) (A0_3 : Option Addr) (c0_3 : Nat) (l0_3 : List (S25)) (A0_4 : Option Addr) (c0_4 : Nat) (l0_4 : List (S25)) (a1 : Int) (r1 : List (S25)) (r2 : Int) (r3 : Bool) (r4 : List (S25)) (r5 : List (S25)) (r6 : Bool) (w : World) (hr0_0 : Kd.C k25 w A0_0 l0_0.length l0_0) (hc0_0 : l0_0.length ≤ c0_0) (hr0_3 : Kd.C k25 w A0_3 l0_3.length l0_3) (hc0_3 : l0_3.length ≤ c0_3) (hr0_4 : Kd.C k25 w A0_4 l0_4.length l0_4) (hc0_4 : l0_4.length ≤ c0_4) (h : spec_PsalmMove.f k l0_0 a0_1 a0_2 l0_3 l0_4 a1 = some (r1, r2, r3, r4, r5, r6)) :
  Calls Tryd.prog 53 #[.agg #[.slice A0_0 l0_0.length c0_0, .int .i64 a0_1, .bool a0_2, .slice A0_3 l0_3.length c0_3, .slice A0_4 l0_4.length c0_4], .int .i64 a1] w fun e w' => ∃ v0_ v3_ v4_ : Value, e = .returned (.tuple #[.agg #[v0_, .int .i64 r2, .bool r3, v3_, v4_], .bool r6]) ∧ Kd.R k25 25 w' w.heap.size (fun k_ => nb k_ (v3_) ∧ nb k_ (v4_)) v0_ r1 ∧ Kd.R k25 25 w' w.heap.size (fun k_ => nb k_ (v0_) ∧ nb k_ (v4_)) v3_ r4 ∧ Kd.R k25 25 w' w.heap.size (fun k_ => nb k_ (v0_) ∧ nb k_ (v3_)) v4_ r5 ∧ Below w.heap.size w w' := by
 have hu27 := Tryd.underlying27
 have hu25 := Tryd.underlying25
 have HR0_0 := Aside0.mk hr0_0
 have HC0_0 := Aside0.mk hc0_0
 clear hr0_0 hc0_0
 have HR0_3 := Aside0.mk hr0_3
 have HC0_3 := Aside0.mk hc0_3
 clear hr0_3 hc0_3
 have HR0_4 := Aside0.mk hr0_4
 have HC0_4 := Aside0.mk hc0_4
 clear hr0_4 hc0_4
 have HB := Q0_ (Below.refl w.heap.size w)
 have H : ((spec_PsalmValid.f k l0_0 a0_1 a0_2 l0_3 l0_4).bind fun t1100 => (if t1100 = true then ((spec_l4Melody.f l0_0 a0_1 a0_2 l0_3 l0_4).bind fun t1101 => ((spec_MelodyMove.f k t1101 a1).bind fun bt1104 => (if bt1104.2 = true then ((some (([] : List (S25)) : List (S25))).bind fun y1108 => (if 0 ≤ (l0_0.length : Int) then (if (l0_0.length : Int) ≤ (bt1104.1.length : Int) then ((some (bt1104.1.take ((l0_0.length : Int) : Int).toNat : List (S25))).bind fun y1111 => (if y1108.length + y1111.length < 8796093022208 then (if (l0_0.length : Int) < (bt1104.1.length : Int) then ((some (([] : List (S25)) : List (S25))).bind fun y1120 => (if 0 ≤ (wrap64 ((l0_0.length : Int) + 1)) then (if (wrap64 ((l0_0.length : Int) + 1)) ≤ (wrap64 ((wrap64 ((l0_0.length : Int) + 1)) + (l0_3.length : Int))) then (if (wrap64 ((wrap64 ((l0_0.length : Int) + 1)) + (l0_3.length : Int))) ≤ (bt1104.1.length : Int) then ((some ((bt1104.1.take ((wrap64 ((wrap64 ((l0_0.length : Int) + 1)) + (l0_3.length : Int))) : Int).toNat).drop ((wrap64 ((l0_0.length : Int) + 1)) : Int).toNat : List (S25))).bind fun y1123 => (if y1120.length + y1123.length < 8796093022208 then ((some (([] : List (S25)) : List (S25))).bind fun y1130 => (if 0 ≤ (wrap64 ((wrap64 ((l0_0.length : Int) + 1)) + (l0_3.length : Int))) then ((some (bt1104.1.drop ((wrap64 ((wrap64 ((l0_0.length : Int) + 1)) + (l0_3.length : Int))) : Int).toNat : List (S25))).bind fun y1133 => (if y1130.length + y1133.length < 8796093022208 then (some ((y1108 ++ y1111), (rd_T25 bt1104.1 (l0_0.length : Int)).f0, (rd_T25 bt1104.1 (l0_0.length : Int)).f1, (y1120 ++ y1123), (y1130 ++ y1133), true)) else (none))) else (none))) else (none))) else (none)) else (none)) else (none))) else (none)) else (none))) else (none)) else (none))) else (some (([] : List (S25)), 0, false, ([] : List (S25)), ([] : List (S25)), false))))) else (some (([] : List (S25)), 0, false, ([] : List (S25)), ([] : List (S25)), false)))) = some (r1, r2, r3, r4, r5, r6) := h
 clear h
 obtain ⟨t1100, A30, H⟩ := Option.bind_eq_some_iff.mp H
 try dsimp only at H
 have A3 := Aside0.mk A30
 clear A30
 by_cases c4 : t1100 = true
 rotate_left
 ·replace c4 := Bool.eq_false_iff.mpr c4
  subst c4
  replace H := ifN ((show ¬ (false = true) by decide)) H
  simp only [Option.some.injEq, Prod.mk.injEq] at H
  obtain ⟨rfl, rfl, rfl, rfl, rfl, rfl⟩ := H
  go_enter Tryd.func53, Tryd.ntmps53
  go_wp2_with (first | ((with_reducible refine gate_dst (N := 2) rfl ?_); refine box_event ?hg (N := 2) ?hd (cs := #[.slice A0_0 l0_0.length c0_0, .int .i64 a0_1, .bool a0_2, .slice A0_3 l0_3.length c0_3, .slice A0_4 l0_4.length c0_4]) (t := 27) ?hr ?_; (case hd => rfl); (case hg => rfl); (case hr => first | (go_simp; done) | (go_simp; rfl)); intro gb1098 hg w71 hbox hb; have n0_ := Q0_ (below_step (upB HB) hb); have n1_ := Q0_ (hbox); have n2_ := Q0_ ((by rw [hg]; exact (below_size (upB HB)) : w.heap.size ≤ gb1098)); have n3_ := Q0_ ((by rw [hg]; exact (below_size (upB HB)) : w.heap.size ≤ gb1098)); clear HB; revert n0_ n1_ n2_ n3_; intro HB BK1098 GW1098 GE1098; clear hb hbox hg) | ((with_reducible refine gate_dst (N := 4) rfl ?_); refine box_event ?hg (N := 4) ?hd (cs := #[.slice none 0 0, .int .i64 0, .bool false, .slice none 0 0, .slice none 0 0]) (t := 27) ?hr ?_; (case hd => rfl); (case hg => rfl); (case hr => first | (go_simp; done) | (go_simp; rfl)); intro gb1099 hg w72 hbox hb; have n0_ := Q0_ (blk_below (upK BK1098) hb); have n1_ := Q0_ (below_step upH hb); have n2_ := Q0_ (hbox); have n3_ := Q0_ ((by rw [hg]; exact (below_size upH) : w.heap.size ≤ gb1099)); have n4_ := Q0_ ((by rw [hg]; exact (below_size upH) : w.heap.size ≤ gb1099)); have n5_ := Q0_ ((by rw [hg]; exact Nat.ne_of_lt (blk_lt (upK BK1098)) : gb1098 ≠ gb1099)); have n6_ := Q0_ ((by rw [hg]; exact Nat.ne_of_gt (blk_lt (upK BK1098)) : gb1099 ≠ gb1098)); clear BK1098 HB; revert n0_ n1_ n2_ n3_ n4_ n5_ n6_; intro BK1098 HB BK1099 GW1099 GE1099 NB1098_1099 NB1099_1098; clear hb hbox hg; have hnb73 := NB1098_1099.out; have hnc73 := NB1099_1098.out; have hcz74_0 : w72.cell? ⟨gb1098, 0, none⟩ = some (.slice A0_0 l0_0.length c0_0) := (blk_cell BK1098.out 0).trans rfl; have hcz74_1 : w72.cell? ⟨gb1098, 1, none⟩ = some (.int .i64 a0_1) := (blk_cell BK1098.out 1).trans rfl; have hcz74_2 : w72.cell? ⟨gb1098, 2, none⟩ = some (.bool a0_2) := (blk_cell BK1098.out 2).trans rfl; have hcz74_3 : w72.cell? ⟨gb1098, 3, none⟩ = some (.slice A0_3 l0_3.length c0_3) := (blk_cell BK1098.out 3).trans rfl; have hcz74_4 : w72.cell? ⟨gb1098, 4, none⟩ = some (.slice A0_4 l0_4.length c0_4) := (blk_cell BK1098.out 4).trans rfl; have hfz74_0 := blk_frozen BK1098.out 0; have hfz74_1 := blk_frozen BK1098.out 1; have hfz74_2 := blk_frozen BK1098.out 2; have hfz74_3 := blk_frozen BK1098.out 3; have hfz74_4 := blk_frozen BK1098.out 4) | ((with_reducible refine gate_callee (f := 60) rfl ?_); refine goesL_ (some 12) rfl rfl Tryd.func60 (by kernel_rfl) rfl #[.agg #[.slice A0_0 l0_0.length c0_0, .int .i64 a0_1, .bool a0_2, .slice A0_3 l0_3.length c0_3, .slice A0_4 l0_4.length c0_4]] rfl hM ?_; (with_reducible refine (spec_PsalmValid.calls k _ _ l0_0 a0_1 a0_2 _ _ l0_3 _ _ l0_4 false _ ?side1 ?side2 ?side3 ?side4 ?side5 ?side6 A3.out).mono ?_); (case side1 => repeat (first | exact (Kd.C_below HR0_0.out HB.out) | refine C_q ?_)); (case side2 => exact HC0_0.out); (case side3 => repeat (first | exact (Kd.C_below HR0_3.out HB.out) | refine C_q ?_)); (case side4 => exact HC0_3.out); (case side5 => repeat (first | exact (Kd.C_below HR0_4.out HB.out) | refine C_q ?_)); (case side6 => exact HC0_4.out); rintro e w75 ⟨rfl, hb⟩; refine ⟨_, rfl, ?_⟩; have n0_ := Q0_ (blk_below (upK BK1098) hb); have n1_ := Q0_ (blk_below (upK BK1099) hb); have n2_ := Q0_ (below_step upH hb); clear BK1098 BK1099 HB; revert n0_ n1_ n2_; intro BK1098 BK1099 HB; (try clear hb); (try clear hb2); (try clear hk); (try clear hi); have hcz76_0 : w75.cell? ⟨gb1099, 0, none⟩ = some (.slice none 0 0) := (blk_cell BK1099.out 0).trans rfl; have hcz76_1 : w75.cell? ⟨gb1099, 1, none⟩ = some (.int .i64 0) := (blk_cell BK1099.out 1).trans rfl; have hcz76_2 : w75.cell? ⟨gb1099, 2, none⟩ = some (.bool false) := (blk_cell BK1099.out 2).trans rfl; have hcz76_3 : w75.cell? ⟨gb1099, 3, none⟩ = some (.slice none 0 0) := (blk_cell BK1099.out 3).trans rfl; have hcz76_4 : w75.cell? ⟨gb1099, 4, none⟩ = some (.slice none 0 0) := (blk_cell BK1099.out 4).trans rfl; have hfz76_0 := blk_frozen BK1099.out 0; have hfz76_1 := blk_frozen BK1099.out 1; have hfz76_2 := blk_frozen BK1099.out 2; have hfz76_3 := blk_frozen BK1099.out 3; have hfz76_4 := blk_frozen BK1099.out 4))
  refine bodyPost_ret (results_ct rfl _ _ gb1099 27 #[.slice none 0 0, .int .i64 0, .bool false, .slice none 0 0, .slice none 0 0] (0, 0) _ rfl (by (repeat refine blk_q ?_); refine blk_put (cs := #[.slice none 0 0, .int .i64 0, .bool false, .slice none 0 0, .slice none 0 0]) ?_ 4 _ rfl; (repeat refine blk_q ?_); refine blk_put (cs := #[.slice none 0 0, .int .i64 0, .bool false, .slice none 0 0, .slice none 0 0]) ?_ 3 _ rfl; (repeat refine blk_q ?_); refine blk_put (cs := #[.slice none 0 0, .int .i64 0, .bool false, .slice none 0 0, .slice none 0 0]) ?_ 2 _ rfl; (repeat refine blk_q ?_); refine blk_put (cs := #[.slice none 0 0, .int .i64 0, .bool false, .slice none 0 0, .slice none 0 0]) ?_ 1 _ rfl; (repeat refine blk_q ?_); refine blk_put (cs := #[.slice none 0 0, .int .i64 0, .bool false, .slice none 0 0, .slice none 0 0]) ?_ 0 _ rfl; (repeat refine blk_q ?_); exact BK1099.out) Tryd.underlying27 rfl (by kernel_rfl)) rfl ?_
  exact ⟨_, _, _, by first | rfl | (simp [errW_none, errW_some] <;> rfl) | (simp [*, errW_none, errW_some] <;> rfl), by first | exact Kd.R_nil _ _ _ _ _ | exact Kd.N_nil _ _ _ _ _ | exact Kd.V_nil _ _ _ _ _ | exact Kd.Q_nil _ _ _ _ _ | exact Kd.S_nil _ _ _ _ _, by first | exact Kd.R_nil _ _ _ _ _ | exact Kd.N_nil _ _ _ _ _ | exact Kd.V_nil _ _ _ _ _ | exact Kd.Q_nil _ _ _ _ _ | exact Kd.S_nil _ _ _ _ _, by first | exact Kd.R_nil _ _ _ _ _ | exact Kd.N_nil _ _ _ _ _ | exact Kd.V_nil _ _ _ _ _ | exact Kd.Q_nil _ _ _ _ _ | exact Kd.S_nil _ _ _ _ _, by repeat (first | (with_reducible first | exact HB.out | apply below_alloc | apply pw_below_drewN | apply below_drew1 | refine below_set ?_ GE1098.out | refine below_set ?_ GE1099.out) | exact HB.out)⟩
 subst c4
 replace H := ifP (rfl) H
 obtain ⟨t1101, A50, H⟩ := Option.bind_eq_some_iff.mp H
 try dsimp only at H
 have A5 := Aside0.mk A50
 clear A50
 obtain ⟨⟨t1104, t1105⟩, A60, H⟩ := Option.bind_eq_some_iff.mp H
 try dsimp only at H
 have A6 := Aside0.mk A60
 clear A60
 by_cases c7 : t1105 = true
 rotate_left
 ·replace c7 := Bool.eq_false_iff.mpr c7
  subst c7
  replace H := ifN ((show ¬ (false = true) by decide)) H
  simp only [Option.some.injEq, Prod.mk.injEq] at H
  obtain ⟨rfl, rfl, rfl, rfl, rfl, rfl⟩ := H
  go_enter Tryd.func53, Tryd.ntmps53
  go_wp2_with (first | ((with_reducible refine gate_dst (N := 2) rfl ?_); refine box_event ?hg (N := 2) ?hd (cs := #[.slice A0_0 l0_0.length c0_0, .int .i64 a0_1, .bool a0_2, .slice A0_3 l0_3.length c0_3, .slice A0_4 l0_4.length c0_4]) (t := 27) ?hr ?_; (case hd => rfl); (case hg => rfl); (case hr => first | (go_simp; done) | (go_simp; rfl)); intro gb1098 hg w61 hbox hb; have n0_ := Q0_ (below_step (upB HB) hb); have n1_ := Q0_ (hbox); have n2_ := Q0_ ((by rw [hg]; exact (below_size (upB HB)) : w.heap.size ≤ gb1098)); have n3_ := Q0_ ((by rw [hg]; exact (below_size (upB HB)) : w.heap.size ≤ gb1098)); clear HB; revert n0_ n1_ n2_ n3_; intro HB BK1098 GW1098 GE1098; clear hb hbox hg) | ((with_reducible refine gate_dst (N := 4) rfl ?_); refine box_event ?hg (N := 4) ?hd (cs := #[.slice none 0 0, .int .i64 0, .bool false, .slice none 0 0, .slice none 0 0]) (t := 27) ?hr ?_; (case hd => rfl); (case hg => rfl); (case hr => first | (go_simp; done) | (go_simp; rfl)); intro gb1099 hg w62 hbox hb; have n0_ := Q0_ (blk_below (upK BK1098) hb); have n1_ := Q0_ (below_step upH hb); have n2_ := Q0_ (hbox); have n3_ := Q0_ ((by rw [hg]; exact (below_size upH) : w.heap.size ≤ gb1099)); have n4_ := Q0_ ((by rw [hg]; exact (below_size upH) : w.heap.size ≤ gb1099)); have n5_ := Q0_ ((by rw [hg]; exact Nat.ne_of_lt (blk_lt (upK BK1098)) : gb1098 ≠ gb1099)); have n6_ := Q0_ ((by rw [hg]; exact Nat.ne_of_gt (blk_lt (upK BK1098)) : gb1099 ≠ gb1098)); clear BK1098 HB; revert n0_ n1_ n2_ n3_ n4_ n5_ n6_; intro BK1098 HB BK1099 GW1099 GE1099 NB1098_1099 NB1099_1098; clear hb hbox hg; have hnb63 := NB1098_1099.out; have hnc63 := NB1099_1098.out; have hcz64_0 : w62.cell? ⟨gb1098, 0, none⟩ = some (.slice A0_0 l0_0.length c0_0) := (blk_cell BK1098.out 0).trans rfl; have hcz64_1 : w62.cell? ⟨gb1098, 1, none⟩ = some (.int .i64 a0_1) := (blk_cell BK1098.out 1).trans rfl; have hcz64_2 : w62.cell? ⟨gb1098, 2, none⟩ = some (.bool a0_2) := (blk_cell BK1098.out 2).trans rfl; have hcz64_3 : w62.cell? ⟨gb1098, 3, none⟩ = some (.slice A0_3 l0_3.length c0_3) := (blk_cell BK1098.out 3).trans rfl; have hcz64_4 : w62.cell? ⟨gb1098, 4, none⟩ = some (.slice A0_4 l0_4.length c0_4) := (blk_cell BK1098.out 4).trans rfl; have hfz64_0 := blk_frozen BK1098.out 0; have hfz64_1 := blk_frozen BK1098.out 1; have hfz64_2 := blk_frozen BK1098.out 2; have hfz64_3 := blk_frozen BK1098.out 3; have hfz64_4 := blk_frozen BK1098.out 4) | ((with_reducible refine gate_callee (f := 60) rfl ?_); refine goesL_ (some 12) rfl rfl Tryd.func60 (by kernel_rfl) rfl #[.agg #[.slice A0_0 l0_0.length c0_0, .int .i64 a0_1, .bool a0_2, .slice A0_3 l0_3.length c0_3, .slice A0_4 l0_4.length c0_4]] rfl hM ?_; (with_reducible refine (spec_PsalmValid.calls k _ _ l0_0 a0_1 a0_2 _ _ l0_3 _ _ l0_4 true _ ?side1 ?side2 ?side3 ?side4 ?side5 ?side6 A3.out).mono ?_); (case side1 => repeat (first | exact (Kd.C_below HR0_0.out HB.out) | refine C_q ?_)); (case side2 => exact HC0_0.out); (case side3 => repeat (first | exact (Kd.C_below HR0_3.out HB.out) | refine C_q ?_)); (case side4 => exact HC0_3.out); (case side5 => repeat (first | exact (Kd.C_below HR0_4.out HB.out) | refine C_q ?_)); (case side6 => exact HC0_4.out); rintro e w65 ⟨rfl, hb⟩; refine ⟨_, rfl, ?_⟩; have n0_ := Q0_ (blk_below (upK BK1098) hb); have n1_ := Q0_ (blk_below (upK BK1099) hb); have n2_ := Q0_ (below_step upH hb); clear BK1098 BK1099 HB; revert n0_ n1_ n2_; intro BK1098 BK1099 HB; (try clear hb); (try clear hb2); (try clear hk); (try clear hi); have hcz66_0 : w65.cell? ⟨gb1098, 0, none⟩ = some (.slice A0_0 l0_0.length c0_0) := (blk_cell BK1098.out 0).trans rfl; have hcz66_1 : w65.cell? ⟨gb1098, 1, none⟩ = some (.int .i64 a0_1) := (blk_cell BK1098.out 1).trans rfl; have hcz66_2 : w65.cell? ⟨gb1098, 2, none⟩ = some (.bool a0_2) := (blk_cell BK1098.out 2).trans rfl; have hcz66_3 : w65.cell? ⟨gb1098, 3, none⟩ = some (.slice A0_3 l0_3.length c0_3) := (blk_cell BK1098.out 3).trans rfl; have hcz66_4 : w65.cell? ⟨gb1098, 4, none⟩ = some (.slice A0_4 l0_4.length c0_4) := (blk_cell BK1098.out 4).trans rfl; have hfz66_0 := blk_frozen BK1098.out 0; have hfz66_1 := blk_frozen BK1098.out 1; have hfz66_2 := blk_frozen BK1098.out 2; have hfz66_3 := blk_frozen BK1098.out 3; have hfz66_4 := blk_frozen BK1098.out 4) | ((with_reducible refine gate_callee (f := 83) rfl ?_); refine goesL_ (some 17) rfl rfl Tryd.func83 (by kernel_rfl) rfl #[.agg #[.slice A0_0 l0_0.length c0_0, .int .i64 a0_1, .bool a0_2, .slice A0_3 l0_3.length c0_3, .slice A0_4 l0_4.length c0_4]] rfl hM ?_; (with_reducible refine (spec_l4Melody.calls _ _ l0_0 a0_1 a0_2 _ _ l0_3 _ _ l0_4 t1101 _ ?side1 ?side2 ?side3 ?side4 ?side5 ?side6 A5.out).mono ?_); (case side1 => repeat (first | exact (Kd.C_below HR0_0.out HB.out) | refine C_q ?_)); (case side2 => exact HC0_0.out); (case side3 => repeat (first | exact (Kd.C_below HR0_3.out HB.out) | refine C_q ?_)); (case side4 => exact HC0_3.out); (case side5 => repeat (first | exact (Kd.C_below HR0_4.out HB.out) | refine C_q ?_)); (case side6 => exact HC0_4.out); rintro e w67 ⟨v1102, rfl, ho0, hb⟩; refine ⟨_, rfl, ?_⟩; have n0_ := Q0_ (Kd.R_lower ho0 (below_size upH)); have n1_ := Q0_ (blk_below (upK BK1098) hb); have n2_ := Q0_ (blk_below (upK BK1099) hb); have n3_ := Q0_ (below_step upH hb); clear BK1098 BK1099 HB; revert n0_ n1_ n2_ n3_; intro HO1103 BK1098 BK1099 HB; (try clear hb); (try clear hb2); (try clear hk); (try clear hi); (try clear ho0); obtain ⟨Ao68, co68, eo68⟩ := Kd.R_slice HO1103.out; subst eo68) | ((with_reducible refine gate_callee (f := 82) rfl ?_); refine goesL_ (some 19) rfl rfl Tryd.func82 (by kernel_rfl) rfl #[.slice Ao68 t1101.length co68, .int .i64 a1] rfl hM ?_; (with_reducible refine (spec_MelodyMove.calls k _ _ t1101 a1 t1104 false _ ?side1 ?side2 A6.out).mono ?_); (case side1 => repeat (first | exact (Kd.R_reads' HO1103.out).2.2 | refine C_q ?_)); (case side2 => exact (Kd.R_reads' HO1103.out).2.1); rintro e w69 ⟨v1106, rfl, ho0, hb⟩; refine ⟨_, rfl, ?_⟩; have n0_ := Q0_ (Kd.R_elder' (upR HO1103) (Kd.R_base ho0) hb); have n1_ := Q0_ (Kd.R_lower (Kd.R_new' ho0 (Kd.R_lt (upR HO1103))) (below_size upH)); have n2_ := Q0_ (blk_below (upK BK1098) hb); have n3_ := Q0_ (blk_below (upK BK1099) hb); have n4_ := Q0_ (below_step upH hb); clear HO1103 BK1098 BK1099 HB; revert n0_ n1_ n2_ n3_ n4_; intro HO1103 HO1107 BK1098 BK1099 HB; (try clear hb); (try clear hb2); (try clear hk); (try clear hi); (try clear ho0); have hcz70_0 : w69.cell? ⟨gb1099, 0, none⟩ = some (.slice none 0 0) := (blk_cell BK1099.out 0).trans rfl; have hcz70_1 : w69.cell? ⟨gb1099, 1, none⟩ = some (.int .i64 0) := (blk_cell BK1099.out 1).trans rfl; have hcz70_2 : w69.cell? ⟨gb1099, 2, none⟩ = some (.bool false) := (blk_cell BK1099.out 2).trans rfl; have hcz70_3 : w69.cell? ⟨gb1099, 3, none⟩ = some (.slice none 0 0) := (blk_cell BK1099.out 3).trans rfl; have hcz70_4 : w69.cell? ⟨gb1099, 4, none⟩ = some (.slice none 0 0) := (blk_cell BK1099.out 4).trans rfl; have hfz70_0 := blk_frozen BK1099.out 0; have hfz70_1 := blk_frozen BK1099.out 1; have hfz70_2 := blk_frozen BK1099.out 2; have hfz70_3 := blk_frozen BK1099.out 3; have hfz70_4 := blk_frozen BK1099.out 4))
  refine bodyPost_ret (results_ct rfl _ _ gb1099 27 #[.slice none 0 0, .int .i64 0, .bool false, .slice none 0 0, .slice none 0 0] (0, 0) _ rfl (by (repeat refine blk_q ?_); refine blk_put (cs := #[.slice none 0 0, .int .i64 0, .bool false, .slice none 0 0, .slice none 0 0]) ?_ 4 _ rfl; (repeat refine blk_q ?_); refine blk_put (cs := #[.slice none 0 0, .int .i64 0, .bool false, .slice none 0 0, .slice none 0 0]) ?_ 3 _ rfl; (repeat refine blk_q ?_); refine blk_put (cs := #[.slice none 0 0, .int .i64 0, .bool false, .slice none 0 0, .slice none 0 0]) ?_ 2 _ rfl; (repeat refine blk_q ?_); refine blk_put (cs := #[.slice none 0 0, .int .i64 0, .bool false, .slice none 0 0, .slice none 0 0]) ?_ 1 _ rfl; (repeat refine blk_q ?_); refine blk_put (cs := #[.slice none 0 0, .int .i64 0, .bool false, .slice none 0 0, .slice none 0 0]) ?_ 0 _ rfl; (repeat refine blk_q ?_); exact BK1099.out) Tryd.underlying27 rfl (by kernel_rfl)) rfl ?_
  exact ⟨_, _, _, by first | rfl | (simp [errW_none, errW_some] <;> rfl) | (simp [*, errW_none, errW_some] <;> rfl), by first | exact Kd.R_nil _ _ _ _ _ | exact Kd.N_nil _ _ _ _ _ | exact Kd.V_nil _ _ _ _ _ | exact Kd.Q_nil _ _ _ _ _ | exact Kd.S_nil _ _ _ _ _, by first | exact Kd.R_nil _ _ _ _ _ | exact Kd.N_nil _ _ _ _ _ | exact Kd.V_nil _ _ _ _ _ | exact Kd.Q_nil _ _ _ _ _ | exact Kd.S_nil _ _ _ _ _, by first | exact Kd.R_nil _ _ _ _ _ | exact Kd.N_nil _ _ _ _ _ | exact Kd.V_nil _ _ _ _ _ | exact Kd.Q_nil _ _ _ _ _ | exact Kd.S_nil _ _ _ _ _, by repeat (first | (with_reducible first | exact HB.out | apply below_alloc | apply pw_below_drewN | apply below_drew1 | refine below_set ?_ GE1098.out | refine below_set ?_ GE1099.out) | exact HB.out)⟩
 subst c7
 replace H := ifP (rfl) H
 obtain ⟨y1108, hy1108⟩ : ∃ y_ : List (S25), y_ = (([] : List (S25))) := ⟨_, rfl⟩
 replace H : (if 0 ≤ (l0_0.length : Int) then (if (l0_0.length : Int) ≤ (t1104.length : Int) then ((some (t1104.take ((l0_0.length : Int) : Int).toNat : List (S25))).bind fun y1111 => (if y1108.length + y1111.length < 8796093022208 then (if (l0_0.length : Int) < (t1104.length : Int) then ((some (([] : List (S25)) : List (S25))).bind fun y1120 => (if 0 ≤ (wrap64 ((l0_0.length : Int) + 1)) then (if (wrap64 ((l0_0.length : Int) + 1)) ≤ (wrap64 ((wrap64 ((l0_0.length : Int) + 1)) + (l0_3.length : Int))) then (if (wrap64 ((wrap64 ((l0_0.length : Int) + 1)) + (l0_3.length : Int))) ≤ (t1104.length : Int) then ((some ((t1104.take ((wrap64 ((wrap64 ((l0_0.length : Int) + 1)) + (l0_3.length : Int))) : Int).toNat).drop ((wrap64 ((l0_0.length : Int) + 1)) : Int).toNat : List (S25))).bind fun y1123 => (if y1120.length + y1123.length < 8796093022208 then ((some (([] : List (S25)) : List (S25))).bind fun y1130 => (if 0 ≤ (wrap64 ((wrap64 ((l0_0.length : Int) + 1)) + (l0_3.length : Int))) then ((some (t1104.drop ((wrap64 ((wrap64 ((l0_0.length : Int) + 1)) + (l0_3.length : Int))) : Int).toNat : List (S25))).bind fun y1133 => (if y1130.length + y1133.length < 8796093022208 then (some ((y1108 ++ y1111), (rd_T25 t1104 (l0_0.length : Int)).f0, (rd_T25 t1104 (l0_0.length : Int)).f1, (y1120 ++ y1123), (y1130 ++ y1133), true)) else (none))) else (none))) else (none))) else (none)) else (none)) else (none))) else (none)) else (none))) else (none)) else (none)) = some (r1, r2, r3, r4, r5, r6) := by first | (rw [hy1108]; with_reducible exact H) | (have H2_ := (Option.bind_some _ _).symm.trans H; rw [hy1108]; with_reducible exact H2_) | (have H2_ := (Option.bind_some _ _).symm.trans H; with_reducible exact H2_) | with_reducible exact H | (rw [hy1108]; exact H) | exact H
 have Ny1108 := Aside0.mk hy1108
 clear hy1108
 by_cases c8 : 0 ≤ (l0_0.length : Int)
 rotate_left
 ·rw [if_neg c8] at H
  exact absurd H (by simp)
 rw [if_pos c8] at H
 have c8b0 := eq_true c8
 have c8b1 : decide (0 ≤ (l0_0.length : Int)) = true := decide_eq_true c8
 clear c8
 by_cases c9 : (l0_0.length : Int) ≤ (t1104.length : Int)
 rotate_left
 ·rw [if_neg c9] at H
  exact absurd H (by simp)
 rw [if_pos c9] at H
 have c9b0 := eq_true c9
 have c9b1 : decide ((l0_0.length : Int) ≤ (t1104.length : Int)) = true := decide_eq_true c9
 clear c9
 obtain ⟨y1111, hy1111⟩ : ∃ y_ : List (S25), y_ = (t1104.take ((l0_0.length : Int) : Int).toNat) := ⟨_, rfl⟩
 replace H : (if y1108.length + y1111.length < 8796093022208 then (if (l0_0.length : Int) < (t1104.length : Int) then ((some (([] : List (S25)) : List (S25))).bind fun y1120 => (if 0 ≤ (wrap64 ((l0_0.length : Int) + 1)) then (if (wrap64 ((l0_0.length : Int) + 1)) ≤ (wrap64 ((wrap64 ((l0_0.length : Int) + 1)) + (l0_3.length : Int))) then (if (wrap64 ((wrap64 ((l0_0.length : Int) + 1)) + (l0_3.length : Int))) ≤ (t1104.length : Int) then ((some ((t1104.take ((wrap64 ((wrap64 ((l0_0.length : Int) + 1)) + (l0_3.length : Int))) : Int).toNat).drop ((wrap64 ((l0_0.length : Int) + 1)) : Int).toNat : List (S25))).bind fun y1123 => (if y1120.length + y1123.length < 8796093022208 then ((some (([] : List (S25)) : List (S25))).bind fun y1130 => (if 0 ≤ (wrap64 ((wrap64 ((l0_0.length : Int) + 1)) + (l0_3.length : Int))) then ((some (t1104.drop ((wrap64 ((wrap64 ((l0_0.length : Int) + 1)) + (l0_3.length : Int))) : Int).toNat : List (S25))).bind fun y1133 => (if y1130.length + y1133.length < 8796093022208 then (some ((y1108 ++ y1111), (rd_T25 t1104 (l0_0.length : Int)).f0, (rd_T25 t1104 (l0_0.length : Int)).f1, (y1120 ++ y1123), (y1130 ++ y1133), true)) else (none))) else (none))) else (none))) else (none)) else (none)) else (none))) else (none)) else (none)) = some (r1, r2, r3, r4, r5, r6) := by first | (rw [hy1111]; with_reducible exact H) | (have H2_ := (Option.bind_some _ _).symm.trans H; rw [hy1111]; with_reducible exact H2_) | (have H2_ := (Option.bind_some _ _).symm.trans H; with_reducible exact H2_) | with_reducible exact H | (rw [hy1111]; exact H) | exact H
 have Ny1111 := Aside0.mk hy1111
 clear hy1111
 by_cases c10 : y1108.length + y1111.length < 8796093022208
 rotate_left
 ·rw [if_neg c10] at H
  exact absurd H (by simp)
 rw [if_pos c10] at H
 have LMc10 := Aside0.mk c10
 clear c10
 obtain ⟨y1115, hy1115⟩ : ∃ y_ : List (S25), y_ = (y1108 ++ y1111) := ⟨_, rfl⟩
 replace H : (if (l0_0.length : Int) < (t1104.length : Int) then ((some (([] : List (S25)) : List (S25))).bind fun y1120 => (if 0 ≤ (wrap64 ((l0_0.length : Int) + 1)) then (if (wrap64 ((l0_0.length : Int) + 1)) ≤ (wrap64 ((wrap64 ((l0_0.length : Int) + 1)) + (l0_3.length : Int))) then (if (wrap64 ((wrap64 ((l0_0.length : Int) + 1)) + (l0_3.length : Int))) ≤ (t1104.length : Int) then ((some ((t1104.take ((wrap64 ((wrap64 ((l0_0.length : Int) + 1)) + (l0_3.length : Int))) : Int).toNat).drop ((wrap64 ((l0_0.length : Int) + 1)) : Int).toNat : List (S25))).bind fun y1123 => (if y1120.length + y1123.length < 8796093022208 then ((some (([] : List (S25)) : List (S25))).bind fun y1130 => (if 0 ≤ (wrap64 ((wrap64 ((l0_0.length : Int) + 1)) + (l0_3.length : Int))) then ((some (t1104.drop ((wrap64 ((wrap64 ((l0_0.length : Int) + 1)) + (l0_3.length : Int))) : Int).toNat : List (S25))).bind fun y1133 => (if y1130.length + y1133.length < 8796093022208 then (some (y1115, (rd_T25 t1104 (l0_0.length : Int)).f0, (rd_T25 t1104 (l0_0.length : Int)).f1, (y1120 ++ y1123), (y1130 ++ y1133), true)) else (none))) else (none))) else (none))) else (none)) else (none)) else (none))) else (none)) = some (r1, r2, r3, r4, r5, r6) := by first | (rw [hy1115]; with_reducible exact H) | (have H2_ := (Option.bind_some _ _).symm.trans H; rw [hy1115]; with_reducible exact H2_) | (have H2_ := (Option.bind_some _ _).symm.trans H; with_reducible exact H2_) | with_reducible exact H | (rw [hy1115]; exact H) | exact H
 have Ny1115 := Aside0.mk hy1115
 clear hy1115
 by_cases c11 : (l0_0.length : Int) < (t1104.length : Int)
 rotate_left
 ·rw [if_neg c11] at H
  exact absurd H (by simp)
 rw [if_pos c11] at H
 have c11b0 : decide ((l0_0.length : Int) < (t1104.length : Int)) = true := decide_eq_true c11
 have c11b1 : decide (l0_0.length < t1104.length) = true := decide_eq_true (Int.ofNat_lt.mp c11)
 clear c11
 obtain ⟨y1120, hy1120⟩ : ∃ y_ : List (S25), y_ = (([] : List (S25))) := ⟨_, rfl⟩
 replace H : (if 0 ≤ (wrap64 ((l0_0.length : Int) + 1)) then (if (wrap64 ((l0_0.length : Int) + 1)) ≤ (wrap64 ((wrap64 ((l0_0.length : Int) + 1)) + (l0_3.length : Int))) then (if (wrap64 ((wrap64 ((l0_0.length : Int) + 1)) + (l0_3.length : Int))) ≤ (t1104.length : Int) then ((some ((t1104.take ((wrap64 ((wrap64 ((l0_0.length : Int) + 1)) + (l0_3.length : Int))) : Int).toNat).drop ((wrap64 ((l0_0.length : Int) + 1)) : Int).toNat : List (S25))).bind fun y1123 => (if y1120.length + y1123.length < 8796093022208 then ((some (([] : List (S25)) : List (S25))).bind fun y1130 => (if 0 ≤ (wrap64 ((wrap64 ((l0_0.length : Int) + 1)) + (l0_3.length : Int))) then ((some (t1104.drop ((wrap64 ((wrap64 ((l0_0.length : Int) + 1)) + (l0_3.length : Int))) : Int).toNat : List (S25))).bind fun y1133 => (if y1130.length + y1133.length < 8796093022208 then (some (y1115, (rd_T25 t1104 (l0_0.length : Int)).f0, (rd_T25 t1104 (l0_0.length : Int)).f1, (y1120 ++ y1123), (y1130 ++ y1133), true)) else (none))) else (none))) else (none))) else (none)) else (none)) else (none)) = some (r1, r2, r3, r4, r5, r6) := by first | (rw [hy1120]; with_reducible exact H) | (have H2_ := (Option.bind_some _ _).symm.trans H; rw [hy1120]; with_reducible exact H2_) | (have H2_ := (Option.bind_some _ _).symm.trans H; with_reducible exact H2_) | with_reducible exact H | (rw [hy1120]; exact H) | exact H
 have Ny1120 := Aside0.mk hy1120
 clear hy1120
 obtain ⟨ji12, hji12⟩ : ∃ j_ : Int, (wrap64 ((l0_0.length : Int) + 1)) = j_ := ⟨_, rfl⟩
 replace H : (if 0 ≤ (ji12) then (if (ji12) ≤ (wrap64 ((ji12) + (l0_3.length : Int))) then (if (wrap64 ((ji12) + (l0_3.length : Int))) ≤ (t1104.length : Int) then ((some ((t1104.take ((wrap64 ((ji12) + (l0_3.length : Int))) : Int).toNat).drop ((ji12) : Int).toNat : List (S25))).bind fun y1123 => (if y1120.length + y1123.length < 8796093022208 then ((some (([] : List (S25)) : List (S25))).bind fun y1130 => (if 0 ≤ (wrap64 ((ji12) + (l0_3.length : Int))) then ((some (t1104.drop ((wrap64 ((ji12) + (l0_3.length : Int))) : Int).toNat : List (S25))).bind fun y1133 => (if y1130.length + y1133.length < 8796093022208 then (some (y1115, (rd_T25 t1104 (l0_0.length : Int)).f0, (rd_T25 t1104 (l0_0.length : Int)).f1, (y1120 ++ y1123), (y1130 ++ y1133), true)) else (none))) else (none))) else (none))) else (none)) else (none)) else (none)) = some (r1, r2, r3, r4, r5, r6) := by first | (rw [hji12] at H; exact H) | (simp only [hji12] at H ⊢; exact H)
 (try rw [hji12] at A3)
 (try rw [hji12] at A5)
 (try rw [hji12] at A6)
 have hji12w : (IntKind.i64.wrap ((l0_0.length : Int) + 1)) = ji12 := (i64_w _).trans hji12
 by_cases c13 : 0 ≤ (ji12)
 rotate_left
 ·rw [if_neg c13] at H
  exact absurd H (by simp)
 rw [if_pos c13] at H
 have c13b0 := eq_true c13
 have c13b1 : decide (0 ≤ (ji12)) = true := decide_eq_true c13
 clear c13
 by_cases c14 : (ji12) ≤ (wrap64 ((ji12) + (l0_3.length : Int)))
 rotate_left
 ·rw [if_neg c14] at H
  exact absurd H (by simp)
 rw [if_pos c14] at H
 have c14b0 := eq_true c14
 have c14b1 : decide ((ji12) ≤ (wrap64 ((ji12) + (l0_3.length : Int)))) = true := decide_eq_true c14
 by_cases c15 : (wrap64 ((ji12) + (l0_3.length : Int))) ≤ (t1104.length : Int)
 rotate_left
 ·rw [if_neg c15] at H
  exact absurd H (by simp)
 rw [if_pos c15] at H
 have c15b0 := eq_true c15
 have c15b1 : decide ((wrap64 ((ji12) + (l0_3.length : Int))) ≤ (t1104.length : Int)) = true := decide_eq_true c15
 obtain ⟨y1123, hy1123⟩ : ∃ y_ : List (S25), y_ = ((t1104.take ((wrap64 ((ji12) + (l0_3.length : Int))) : Int).toNat).drop ((ji12) : Int).toNat) := ⟨_, rfl⟩
 replace H : (if y1120.length + y1123.length < 8796093022208 then ((some (([] : List (S25)) : List (S25))).bind fun y1130 => (if 0 ≤ (wrap64 ((ji12) + (l0_3.length : Int))) then ((some (t1104.drop ((wrap64 ((ji12) + (l0_3.length : Int))) : Int).toNat : List (S25))).bind fun y1133 => (if y1130.length + y1133.length < 8796093022208 then (some (y1115, (rd_T25 t1104 (l0_0.length : Int)).f0, (rd_T25 t1104 (l0_0.length : Int)).f1, (y1120 ++ y1123), (y1130 ++ y1133), true)) else (none))) else (none))) else (none)) = some (r1, r2, r3, r4, r5, r6) := by first | (rw [hy1123]; with_reducible exact H) | (have H2_ := (Option.bind_some _ _).symm.trans H; rw [hy1123]; with_reducible exact H2_) | (have H2_ := (Option.bind_some _ _).symm.trans H; with_reducible exact H2_) | with_reducible exact H | (rw [hy1123]; exact H) | exact H
 have Ny1123 := Aside0.mk hy1123
 clear hy1123
 by_cases c16 : y1120.length + y1123.length < 8796093022208
 rotate_left
 ·rw [if_neg c16] at H
  exact absurd H (by simp)
 rw [if_pos c16] at H
 have LMc16 := Aside0.mk c16
 clear c16
 obtain ⟨y1127, hy1127⟩ : ∃ y_ : List (S25), y_ = (y1120 ++ y1123) := ⟨_, rfl⟩
 replace H : ((some (([] : List (S25)) : List (S25))).bind fun y1130 => (if 0 ≤ (wrap64 ((ji12) + (l0_3.length : Int))) then ((some (t1104.drop ((wrap64 ((ji12) + (l0_3.length : Int))) : Int).toNat : List (S25))).bind fun y1133 => (if y1130.length + y1133.length < 8796093022208 then (some (y1115, (rd_T25 t1104 (l0_0.length : Int)).f0, (rd_T25 t1104 (l0_0.length : Int)).f1, y1127, (y1130 ++ y1133), true)) else (none))) else (none))) = some (r1, r2, r3, r4, r5, r6) := by first | (rw [hy1127]; with_reducible exact H) | (have H2_ := (Option.bind_some _ _).symm.trans H; rw [hy1127]; with_reducible exact H2_) | (have H2_ := (Option.bind_some _ _).symm.trans H; with_reducible exact H2_) | with_reducible exact H | (rw [hy1127]; exact H) | exact H
 have Ny1127 := Aside0.mk hy1127
 clear hy1127
 obtain ⟨y1130, hy1130⟩ : ∃ y_ : List (S25), y_ = (([] : List (S25))) := ⟨_, rfl⟩
 replace H : (if 0 ≤ (wrap64 ((ji12) + (l0_3.length : Int))) then ((some (t1104.drop ((wrap64 ((ji12) + (l0_3.length : Int))) : Int).toNat : List (S25))).bind fun y1133 => (if y1130.length + y1133.length < 8796093022208 then (some (y1115, (rd_T25 t1104 (l0_0.length : Int)).f0, (rd_T25 t1104 (l0_0.length : Int)).f1, y1127, (y1130 ++ y1133), true)) else (none))) else (none)) = some (r1, r2, r3, r4, r5, r6) := by first | (rw [hy1130]; with_reducible exact H) | (have H2_ := (Option.bind_some _ _).symm.trans H; rw [hy1130]; with_reducible exact H2_) | (have H2_ := (Option.bind_some _ _).symm.trans H; with_reducible exact H2_) | with_reducible exact H | (rw [hy1130]; exact H) | exact H
 have Ny1130 := Aside0.mk hy1130
 clear hy1130
 obtain ⟨ji17, hji17⟩ : ∃ j_ : Int, (wrap64 ((ji12) + (l0_3.length : Int))) = j_ := ⟨_, rfl⟩
 replace H : (if 0 ≤ (ji17) then ((some (t1104.drop ((ji17) : Int).toNat : List (S25))).bind fun y1133 => (if y1130.length + y1133.length < 8796093022208 then (some (y1115, (rd_T25 t1104 (l0_0.length : Int)).f0, (rd_T25 t1104 (l0_0.length : Int)).f1, y1127, (y1130 ++ y1133), true)) else (none))) else (none)) = some (r1, r2, r3, r4, r5, r6) := by first | (rw [hji17] at H; exact H) | (simp only [hji17] at H ⊢; exact H)
 (try rw [hji17] at c14b0)
 (try rw [hji17] at c14b1)
 (try rw [hji17] at c14)
 (try rw [hji17] at c15b0)
 (try rw [hji17] at c15b1)
 (try rw [hji17] at c15)
 (try rw [hji17] at A3)
 (try rw [hji17] at A5)
 (try rw [hji17] at A6)
 (try rw [hji17] at Ny1123)
 (try rw [hji17] at Ny1123)
 have hji17w : (IntKind.i64.wrap ((ji12) + (l0_3.length : Int))) = ji17 := (i64_w _).trans hji17
 by_cases c18 : 0 ≤ (ji17)
 rotate_left
 ·rw [if_neg c18] at H
  exact absurd H (by simp)
 rw [if_pos c18] at H
 have c18b0 := eq_true c18
 have c18b1 : decide (0 ≤ (ji17)) = true := decide_eq_true c18
 clear c18
 have c19b0 := eq_true (of_decide_eq_true aS : (ji17) ≤ (t1104.length : Int))
 obtain ⟨y1133, hy1133⟩ : ∃ y_ : List (S25), y_ = (t1104.drop ((ji17) : Int).toNat) := ⟨_, rfl⟩
 replace H : (if y1130.length + y1133.length < 8796093022208 then (some (y1115, (rd_T25 t1104 (l0_0.length : Int)).f0, (rd_T25 t1104 (l0_0.length : Int)).f1, y1127, (y1130 ++ y1133), true)) else (none)) = some (r1, r2, r3, r4, r5, r6) := by first | (rw [hy1133]; with_reducible exact H) | (have H2_ := (Option.bind_some _ _).symm.trans H; rw [hy1133]; with_reducible exact H2_) | (have H2_ := (Option.bind_some _ _).symm.trans H; with_reducible exact H2_) | with_reducible exact H | (rw [hy1133]; exact H) | exact H
 have Ny1133 := Aside0.mk hy1133
 clear hy1133
 by_cases c20 : y1130.length + y1133.length < 8796093022208
 rotate_left
 ·rw [if_neg c20] at H
  exact absurd H (by simp)
 rw [if_pos c20] at H
 have LMc20 := Aside0.mk c20
 clear c20
 obtain ⟨y1137, hy1137⟩ : ∃ y_ : List (S25), y_ = (y1130 ++ y1133) := ⟨_, rfl⟩
 replace H : (some (y1115, (rd_T25 t1104 (l0_0.length : Int)).f0, (rd_T25 t1104 (l0_0.length : Int)).f1, y1127, y1137, true)) = some (r1, r2, r3, r4, r5, r6) := by first | (rw [hy1137]; with_reducible exact H) | (have H2_ := (Option.bind_some _ _).symm.trans H; rw [hy1137]; with_reducible exact H2_) | (have H2_ := (Option.bind_some _ _).symm.trans H; with_reducible exact H2_) | with_reducible exact H | (rw [hy1137]; exact H) | exact H
 have Ny1137 := Aside0.mk hy1137
 clear hy1137
 simp only [Option.some.injEq, Prod.mk.injEq] at H
 obtain ⟨rfl, rfl, rfl, rfl, rfl, rfl⟩ := H
 go_enter Tryd.func53, Tryd.ntmps53
 try go_wp2_with (first | ((with_reducible refine gate_dst (N := 2) rfl ?_); refine box_event ?hg (N := 2) ?hd (cs := #[.slice A0_0 l0_0.length c0_0, .int .i64 a0_1, .bool a0_2, .slice A0_3 l0_3.length c0_3, .slice A0_4 l0_4.length c0_4]) (t := 27) ?hr ?_; (case hd => rfl); (case hg => rfl); (case hr => first | (go_simp; done) | (go_simp; rfl)); intro gb1098 hg w21 hbox hb; have n0_ := Q0_ (below_step (upB HB) hb); have n1_ := Q0_ (hbox); have n2_ := Q0_ ((by rw [hg]; exact (below_size (upB HB)) : w.heap.size ≤ gb1098)); have n3_ := Q0_ ((by rw [hg]; exact (below_size (upB HB)) : w.heap.size ≤ gb1098)); clear HB; revert n0_ n1_ n2_ n3_; intro HB BK1098 GW1098 GE1098; clear hb hbox hg) | ((with_reducible refine gate_dst (N := 4) rfl ?_); refine box_event ?hg (N := 4) ?hd (cs := #[.slice none 0 0, .int .i64 0, .bool false, .slice none 0 0, .slice none 0 0]) (t := 27) ?hr ?_; (case hd => rfl); (case hg => rfl); (case hr => first | (go_simp; done) | (go_simp; rfl)); intro gb1099 hg w22 hbox hb; have n0_ := Q0_ (blk_below (upK BK1098) hb); have n1_ := Q0_ (below_step upH hb); have n2_ := Q0_ (hbox); have n3_ := Q0_ ((by rw [hg]; exact (below_size upH) : w.heap.size ≤ gb1099)); have n4_ := Q0_ ((by rw [hg]; exact (below_size upH) : w.heap.size ≤ gb1099)); have n5_ := Q0_ ((by rw [hg]; exact Nat.ne_of_lt (blk_lt (upK BK1098)) : gb1098 ≠ gb1099)); have n6_ := Q0_ ((by rw [hg]; exact Nat.ne_of_gt (blk_lt (upK BK1098)) : gb1099 ≠ gb1098)); clear BK1098 HB; revert n0_ n1_ n2_ n3_ n4_ n5_ n6_; intro BK1098 HB BK1099 GW1099 GE1099 NB1098_1099 NB1099_1098; clear hb hbox hg; have hnb23 := NB1098_1099.out; have hnc23 := NB1099_1098.out; have hcz24_0 : w22.cell? ⟨gb1098, 0, none⟩ = some (.slice A0_0 l0_0.length c0_0) := (blk_cell BK1098.out 0).trans rfl; have hcz24_1 : w22.cell? ⟨gb1098, 1, none⟩ = some (.int .i64 a0_1) := (blk_cell BK1098.out 1).trans rfl; have hcz24_2 : w22.cell? ⟨gb1098, 2, none⟩ = some (.bool a0_2) := (blk_cell BK1098.out 2).trans rfl; have hcz24_3 : w22.cell? ⟨gb1098, 3, none⟩ = some (.slice A0_3 l0_3.length c0_3) := (blk_cell BK1098.out 3).trans rfl; have hcz24_4 : w22.cell? ⟨gb1098, 4, none⟩ = some (.slice A0_4 l0_4.length c0_4) := (blk_cell BK1098.out 4).trans rfl; have hfz24_0 := blk_frozen BK1098.out 0; have hfz24_1 := blk_frozen BK1098.out 1; have hfz24_2 := blk_frozen BK1098.out 2; have hfz24_3 := blk_frozen BK1098.out 3; have hfz24_4 := blk_frozen BK1098.out 4) | ((with_reducible refine gate_callee (f := 60) rfl ?_); refine goesL_ (some 12) rfl rfl Tryd.func60 (by kernel_rfl) rfl #[.agg #[.slice A0_0 l0_0.length c0_0, .int .i64 a0_1, .bool a0_2, .slice A0_3 l0_3.length c0_3, .slice A0_4 l0_4.length c0_4]] rfl hM ?_; (with_reducible refine (spec_PsalmValid.calls k _ _ l0_0 a0_1 a0_2 _ _ l0_3 _ _ l0_4 true _ ?side1 ?side2 ?side3 ?side4 ?side5 ?side6 A3.out).mono ?_); (case side1 => repeat (first | exact (Kd.C_below HR0_0.out HB.out) | refine C_q ?_)); (case side2 => exact HC0_0.out); (case side3 => repeat (first | exact (Kd.C_below HR0_3.out HB.out) | refine C_q ?_)); (case side4 => exact HC0_3.out); (case side5 => repeat (first | exact (Kd.C_below HR0_4.out HB.out) | refine C_q ?_)); (case side6 => exact HC0_4.out); rintro e w25 ⟨rfl, hb⟩; refine ⟨_, rfl, ?_⟩; have n0_ := Q0_ (blk_below (upK BK1098) hb); have n1_ := Q0_ (blk_below (upK BK1099) hb); have n2_ := Q0_ (below_step upH hb); clear BK1098 BK1099 HB; revert n0_ n1_ n2_; intro BK1098 BK1099 HB; (try clear hb); (try clear hb2); (try clear hk); (try clear hi); have hcz26_0 : w25.cell? ⟨gb1098, 0, none⟩ = some (.slice A0_0 l0_0.length c0_0) := (blk_cell BK1098.out 0).trans rfl; have hcz26_1 : w25.cell? ⟨gb1098, 1, none⟩ = some (.int .i64 a0_1) := (blk_cell BK1098.out 1).trans rfl; have hcz26_2 : w25.cell? ⟨gb1098, 2, none⟩ = some (.bool a0_2) := (blk_cell BK1098.out 2).trans rfl; have hcz26_3 : w25.cell? ⟨gb1098, 3, none⟩ = some (.slice A0_3 l0_3.length c0_3) := (blk_cell BK1098.out 3).trans rfl; have hcz26_4 : w25.cell? ⟨gb1098, 4, none⟩ = some (.slice A0_4 l0_4.length c0_4) := (blk_cell BK1098.out 4).trans rfl; have hfz26_0 := blk_frozen BK1098.out 0; have hfz26_1 := blk_frozen BK1098.out 1; have hfz26_2 := blk_frozen BK1098.out 2; have hfz26_3 := blk_frozen BK1098.out 3; have hfz26_4 := blk_frozen BK1098.out 4) | ((with_reducible refine gate_callee (f := 83) rfl ?_); refine goesL_ (some 17) rfl rfl Tryd.func83 (by kernel_rfl) rfl #[.agg #[.slice A0_0 l0_0.length c0_0, .int .i64 a0_1, .bool a0_2, .slice A0_3 l0_3.length c0_3, .slice A0_4 l0_4.length c0_4]] rfl hM ?_; (with_reducible refine (spec_l4Melody.calls _ _ l0_0 a0_1 a0_2 _ _ l0_3 _ _ l0_4 t1101 _ ?side1 ?side2 ?side3 ?side4 ?side5 ?side6 A5.out).mono ?_); (case side1 => repeat (first | exact (Kd.C_below HR0_0.out HB.out) | refine C_q ?_)); (case side2 => exact HC0_0.out); (case side3 => repeat (first | exact (Kd.C_below HR0_3.out HB.out) | refine C_q ?_)); (case side4 => exact HC0_3.out); (case side5 => repeat (first | exact (Kd.C_below HR0_4.out HB.out) | refine C_q ?_)); (case side6 => exact HC0_4.out); rintro e w27 ⟨v1102, rfl, ho0, hb⟩; refine ⟨_, rfl, ?_⟩; have n0_ := Q0_ (Kd.R_lower ho0 (below_size upH)); have n1_ := Q0_ (blk_below (upK BK1098) hb); have n2_ := Q0_ (blk_below (upK BK1099) hb); have n3_ := Q0_ (below_step upH hb); clear BK1098 BK1099 HB; revert n0_ n1_ n2_ n3_; intro HO1103 BK1098 BK1099 HB; (try clear hb); (try clear hb2); (try clear hk); (try clear hi); (try clear ho0); obtain ⟨Ao28, co28, eo28⟩ := Kd.R_slice HO1103.out; subst eo28) | ((with_reducible refine gate_callee (f := 82) rfl ?_); refine goesL_ (some 19) rfl rfl Tryd.func82 (by kernel_rfl) rfl #[.slice Ao28 t1101.length co28, .int .i64 a1] rfl hM ?_; (with_reducible refine (spec_MelodyMove.calls k _ _ t1101 a1 t1104 true _ ?side1 ?side2 A6.out).mono ?_); (case side1 => repeat (first | exact (Kd.R_reads' HO1103.out).2.2 | refine C_q ?_)); (case side2 => exact (Kd.R_reads' HO1103.out).2.1); rintro e w29 ⟨v1106, rfl, ho0, hb⟩; refine ⟨_, rfl, ?_⟩; have n0_ := Q0_ (Kd.R_elder' (upR HO1103) (Kd.R_base ho0) hb); have n1_ := Q0_ (Kd.R_lower (Kd.R_new' ho0 (Kd.R_lt (upR HO1103))) (below_size upH)); have n2_ := Q0_ (blk_below (upK BK1098) hb); have n3_ := Q0_ (blk_below (upK BK1099) hb); have n4_ := Q0_ (below_step upH hb); clear HO1103 BK1098 BK1099 HB; revert n0_ n1_ n2_ n3_ n4_; intro HO1103 HO1107 BK1098 BK1099 HB; (try clear hb); (try clear hb2); (try clear hk); (try clear hi); (try clear ho0); have hcz30_0 : w29.cell? ⟨gb1098, 0, none⟩ = some (.slice A0_0 l0_0.length c0_0) := (blk_cell BK1098.out 0).trans rfl; have hcz30_1 : w29.cell? ⟨gb1098, 1, none⟩ = some (.int .i64 a0_1) := (blk_cell BK1098.out 1).trans rfl; have hcz30_2 : w29.cell? ⟨gb1098, 2, none⟩ = some (.bool a0_2) := (blk_cell BK1098.out 2).trans rfl; have hcz30_3 : w29.cell? ⟨gb1098, 3, none⟩ = some (.slice A0_3 l0_3.length c0_3) := (blk_cell BK1098.out 3).trans rfl; have hcz30_4 : w29.cell? ⟨gb1098, 4, none⟩ = some (.slice A0_4 l0_4.length c0_4) := (blk_cell BK1098.out 4).trans rfl; have hfz30_0 := blk_frozen BK1098.out 0; have hfz30_1 := blk_frozen BK1098.out 1; have hfz30_2 := blk_frozen BK1098.out 2; have hfz30_3 := blk_frozen BK1098.out 3; have hfz30_4 := blk_frozen BK1098.out 4))
 have n0_ := Q0_ (Kd.R_drew HO1103.out)
 have n1_ := Q0_ (Kd.R_drew HO1107.out)
 have n2_ := Q0_ (blk_drew BK1098.out)
 have n3_ := Q0_ (blk_drew BK1099.out)
 have n4_ := Q0_ (below_drew1 HB.out)
 clear HO1103 HO1107 BK1098 BK1099 HB; revert n0_ n1_ n2_ n3_ n4_; intro HO1103 HO1107 BK1098 BK1099 HB
 obtain ⟨Ao33, co33, eo33⟩ := Kd.R_slice HO1107.out
 (first | subst eo33 | (injection eo33 with f1_ f2_ f3_; have f4_ := f1_.symm; have f5_ := f3_.symm; clear f1_ f2_ f3_; subst f4_; subst f5_))
 have q32 : ((l0_0.length : Int) : Int) ≤ ((t1104.length : Int) : Int) := of_decide_eq_true aS
 obtain ⟨i032, hi032, _, hsz32, _⟩ := info_parts info25
 have hroom32 : t1104.length ≤ co33 := (Kd.R_reads' HO1107.out).2.1
 have hC32 : Kd.C k25 _ Ao33 t1104.length t1104 := (Kd.R_reads' HO1107.out).2.2
 have hcut32 := cut_to (P := Tryd.prog) 23 25 .i64 Tryd.underlying23 hi032 Ao33 t1104.length co33 (l0_0.length : Int) (of_decide_eq_true aS) q32 hroom32
 have hr32 := Kd.C_take (m := ((l0_0.length : Int) : Int).toNat) hC32 (by omega)
 have hy32 : y1111.length = ((l0_0.length : Int) : Int).toNat := (by rw [Ny1111.out, List.length_take]; omega)
 rw [← Ny1111.out] at hr32
 rw [← hy32] at hcut32
 have HR1114 := Aside0.mk hr32
 have HC1114 := Q0_ (show y1111.length ≤ co33 from by omega)
 clear hr32 hC32 hroom32 hi032 hsz32
 have KY32 := Aside0.mk hy32
 clear hy32
 have KL32 := Q0_ (show ((l0_0.length : Int) : Int).toNat ≤ t1104.length from by omega)
 replace q32 := eq_true q32
 have p1118 : 0 ≤ ((l0_0.length : Int) : Int) := of_decide_eq_true aS
 have q1118 : (l0_0.length : Int) < (t1104.length : Int) := of_decide_eq_true aS
 obtain ⟨ad1118, e1118, hx1118_0, hx1118_1⟩ := at_T25 (Kd.R_reads' HO1107.out).2.2 (l0_0.length : Int) p1118 q1118
 cases e1118
 (try simp only [Go.IntWalk.toNatUp] at hx1118_0)
 (try simp only [Go.IntWalk.toNatUp] at hx1118_1)
 replace p1118 := eq_true p1118
 replace q1118 := eq_true q1118
 refine start_ (n := 12) (S := fun w' => w'.cell? (ad1118.add (((l0_0.length : Int)).toNat * 2)) = some (.int .i64 ((rd_T25 t1104 (l0_0.length : Int)).f0)) ∧ w'.cell? ⟨(ad1118.add (((l0_0.length : Int)).toNat * 2)).block, (ad1118.add (((l0_0.length : Int)).toNat * 2)).off + 1, none⟩ = some (.bool ((rd_T25 t1104 (l0_0.length : Int)).f1))) (ds := []) #[ff,ff,ff,ff,ff,ff,ff,ff,ff,ff,ff,ff] (by kernel_rfl) rfl rfl ⟨hx1118_0, hx1118_1⟩ (fun hHeld => ?_); refine with_tabW spec_PsalmMove.tab8 spec_PsalmMove.bits8 (fun HT_ HW_ => ?_)
 generalize w29.drew = w31 at HO1103 HO1107 BK1098 BK1099 HB HR1114 hx1118_0 hx1118_1 hHeld ⊢
 refine pQ HT_ 1 (some 35) #[ff,tt,ff,ff,ff,ff,ff,ff,ff,ff,ff,ff] rfl rfl ?_
 refine pQ HT_ 2 (some 36) #[ff,tt,tt,ff,ff,ff,ff,ff,ff,ff,ff,ff] rfl rfl ?_
 refine pQ HT_ 3 (some 37) #[ff,tt,tt,tt,ff,ff,ff,ff,ff,ff,ff,ff] rfl rfl ?_
 refine pQ HT_ 5 (some 39) #[ff,tt,tt,tt,ff,tt,ff,ff,ff,ff,ff,ff] rfl rfl ?_
 refine pQ HT_ 6 (some 40) #[ff,tt,tt,tt,ff,tt,tt,ff,ff,ff,ff,ff] rfl rfl ?_
 refine pQ HT_ 7 (some 41) #[ff,tt,tt,tt,ff,tt,tt,tt,ff,ff,ff,ff] rfl rfl ?_
 refine tQ HT_ HW_ 8 (some 42) #[ff,tt,tt,tt,ff,tt,tt,tt,tt,ff,ff,ff] rfl rfl hHeld (by rintro w' ⟨s0, s1⟩; (try simp only [Int.toNat_natCast] at s0 s1); go_simp; with_reducible rfl) ?_
 refine join_ (σ := Value × Value × Nat) 1 #[tt,tt,tt,tt,tt,tt,tt,tt,tt,tt,tt,ff] (fun s_ => [(34, s_.1), (38, s_.2.1), (10, .pointer (some ⟨s_.2.2, 0, none⟩)), (43, .agg #[s_.2.1, .int .i64 ((rd_T25 t1104 (l0_0.length : Int)).f0), .bool ((rd_T25 t1104 (l0_0.length : Int)).f1), .slice none 0 0, .slice none 0 0])]) (fun s_ w' => (w'.cell? (ad1118.add (((l0_0.length : Int)).toNat * 2)) = some (.int .i64 ((rd_T25 t1104 (l0_0.length : Int)).f0)) ∧ w'.cell? ⟨(ad1118.add (((l0_0.length : Int)).toNat * 2)).block, (ad1118.add (((l0_0.length : Int)).toNat * 2)).off + 1, none⟩ = some (.bool ((rd_T25 t1104 (l0_0.length : Int)).f1))) ∧ (Kd.R k25 25 w' w.heap.size (fun k_ => nb k_ (.slice (some ad1118) t1104.length co33) ∧ nb k_ (s_.2.1)) (.slice Ao28 t1101.length co28) t1101) ∧ (Kd.R k25 25 w' w.heap.size (fun k_ => nb k_ (.slice Ao28 t1101.length co28) ∧ nb k_ (s_.2.1)) (.slice (some ad1118) t1104.length co33) t1104) ∧ (Kd.R k25 25 w' w.heap.size (fun k_ => nb k_ (.slice Ao28 t1101.length co28) ∧ nb k_ (.slice (some ad1118) t1104.length co33)) s_.2.1 y1115) ∧ (w'.heap[gb1098]? = some (.cells #[.slice A0_0 l0_0.length c0_0, .int .i64 a0_1, .bool a0_2, .slice A0_3 l0_3.length c0_3, .slice A0_4 l0_4.length c0_4] 27 (0, 0))) ∧ (w'.heap[gb1099]? = some (.cells #[.slice none 0 0, .int .i64 0, .bool false, .slice none 0 0, .slice none 0 0] 27 (0, 0))) ∧ (w'.heap[s_.2.2]? = some (.cells #[.slice none 0 0, .int .i64 0, .bool false, .slice none 0 0, .slice none 0 0] 27 (0, 0))) ∧ (w.heap.size ≤ s_.2.2) ∧ (w.heap.size ≤ s_.2.2) ∧ (gb1098 ≠ s_.2.2) ∧ (s_.2.2 ≠ gb1098) ∧ (gb1099 ≠ s_.2.2) ∧ (s_.2.2 ≠ gb1099) ∧ (Below w.heap.size w w')) ?_ ?_
 rotate_left
 ·intro hCont
  refine two_ (i := 0) (j := 10) (Ni := some 34) (Nj := some 10) #[tt,tt,tt,tt,ff,tt,tt,tt,tt,ff,ff,ff] #[ff,tt,tt,tt,ff,tt,tt,tt,tt,ff,tt,ff] rfl rfl rfl rfl (two_of HT_.out (by kernel_rfl)) (by decide) (by decide) (fun K hK => ?_) (fun K hK => ?_)
  ·skip
   refine Kd.R_lit_step k25 _ 25 ?hg (N := 34) ?hd (xs := ([] : List (S25))) (inner := []) (ok := fun _ => True) (okp := fun _ => True) ?hr ?hp (fun _ hk => hk) trivial (Below.refl _ _) (Nat.le_refl _) (by simp) ?_; (case hd => rfl); (case hg => rfl); (case hr => first | (go_simp; done) | (go_simp; rfl)); (case hp => exact (Reps.none _ _))
   intro v1109 w34 ho35 hb hg_ hnew_
   have HS0_ := (hb.cell (World.block_lt_of_cell? _ _ (hHeld.1))).trans (hHeld.1)
   have HS1_ := (hb.cell (World.block_lt_of_cell? _ _ (hHeld.2))).trans (hHeld.2)
   clear hg_ hnew_
   (first | rw [← Ny1108.out] at ho35 | (simp only [Int.reduceToNat] at ho35; rw [← Ny1108.out] at ho35))
   have n0_ := Q0_ (Kd.R_elder' (upR HO1103) (Kd.R_base ho35) hb)
   have n1_ := Q0_ (Kd.R_elder' (upR HO1107) (Kd.R_base ho35) hb)
   have n2_ := Q0_ (Kd.R_lower (Kd.R_new' (Kd.R_new' ho35 (Kd.R_lt (upR HO1103))) (Kd.R_lt (upR HO1107))) (below_size upH))
   have n3_ := Q0_ (blk_below (upK BK1098) hb)
   have n4_ := Q0_ (blk_below (upK BK1099) hb)
   have n5_ := Q0_ (Kd.C_below (upC HR1114) hb)
   have n6_ := Q0_ (below_step upH hb)
   clear HO1103 HO1107 BK1098 BK1099 HR1114 HB; revert n0_ n1_ n2_ n3_ n4_ n5_ n6_; intro HO1103 HO1107 HO1110 BK1098 BK1099 HR1114 HB
   clear hb ho35
   refine hK.out _ _ ⟨HS0_, HS1_⟩ (fun hHeld => ?_)
   clear hK K
   refine norm_ (a' := ?_) ?_ ?_
   rotate_left
   ·show Act.put _ (some 34) _ = _
    simp only [Act.put, sI, s0, sS, i64_w, i32_w]
    rfl
   refine two_ (i := 4) (j := 10) (Ni := some 38) (Nj := some 10) #[tt,tt,tt,tt,tt,tt,tt,tt,tt,ff,ff,ff] #[tt,tt,tt,tt,ff,tt,tt,tt,tt,ff,tt,ff] rfl rfl rfl rfl (two_of HT_.out (by kernel_rfl)) (by decide) (by decide) (fun K hK => ?_) (fun K hK => ?_)
   ·skip
    refine Kd.R_append_rows_step k25 (w0 := w) w.heap.size (by rfl) (.tmp 34) (.tmp 37) 23 25 (.agg #[(.int .i64 0), (.bool false)]) 16 rfl Tryd.underlying23 info25 rfl (by decide) (by omega) v1109 y1108 y1111 _ _ _ (fun k_ => nb k_ (.slice Ao28 t1101.length co28) ∧ nb k_ (.slice (some ad1118) t1104.length co33)) (fun _ => False) rfl rfl ?aO ?aR (fun _ _ h => h) (fun _ h => h.elim) ?aF ?aB ?aS ?aL ?_
    (case aR => repeat (first | exact (upC HR1114) | refine C_q ?_))
    (case aB => exact upH)
    (case aF => exact (fun k_ hk => ⟨Kd.fresh' (Kd.R_lt (upR HO1103)) k_ hk, Kd.fresh' (Kd.R_lt (upR HO1107)) k_ hk⟩))
    (case aO => exact (upR' (Kd.R_mono HO1110.out (fun _ hk => ⟨hk.1.2, hk.2⟩))))
    (case aS => exact (below_size upH))
    (case aL => have := LMc10.out; omega)
    intro v1116 w36 ho hb hg hat
    have HS0_ := cell_grown hg (hHeld.1) (by first | (rw [add_block]; exact (fun e_ => ((HO1110.out.1 _ e_.symm).2) rfl)) | (show some (Addr.add _ _).block ≠ _; rw [add_block]; exact (fun e_ => ((HO1110.out.1 _ e_.symm).2) rfl)) | exact (fun e_ => ((HO1110.out.1 _ e_.symm).2) rfl))
    have HS1_ := cell_grown hg (hHeld.2) (by first | (rw [add_block]; exact (fun e_ => ((HO1110.out.1 _ e_.symm).2) rfl)) | (show some (Addr.add _ _).block ≠ _; rw [add_block]; exact (fun e_ => ((HO1110.out.1 _ e_.symm).2) rfl)) | exact (fun e_ => ((HO1110.out.1 _ e_.symm).2) rfl))
    rw [← Ny1115.out] at ho
    have n0_ := Q0_ (blk_grown (g := gb1098) (o := .cells #[.slice A0_0 l0_0.length c0_0, .int .i64 a0_1, .bool a0_2, .slice A0_3 l0_3.length c0_3, .slice A0_4 l0_4.length c0_4] 27 (0, 0)) (upK BK1098) hg (Kd.R_ne HO1110.out BK1098.out (by decide)))
    have n1_ := Q0_ (blk_grown (g := gb1099) (o := .cells #[.slice none 0 0, .int .i64 0, .bool false, .slice none 0 0, .slice none 0 0] 27 (0, 0)) (upK BK1099) hg (Kd.R_ne HO1110.out BK1099.out (by decide)))
    have n2_ := Q0_ (Kd.R_after (ok := (fun k_ => nb k_ (.slice (some ad1118) t1104.length co33))) (upR' (Kd.R_mono HO1103.out (fun _ hk => ⟨hk.1.2, hk.2⟩))) hg hat)
    have n3_ := Q0_ (Kd.R_after (ok := (fun k_ => nb k_ (.slice Ao28 t1101.length co28))) (upR' (Kd.R_mono HO1107.out (fun _ hk => ⟨hk.1.2, hk.2⟩))) hg hat)
    have n4_ := Q0_ (hb)
    have n5_ := Q0_ ((show Kd.C k25 w36 (some ad1118) y1111.length y1111 from by rw [Ny1111.out]; exact Kd.C_take (m := ((l0_0.length : Int) : Int).toNat) ((Kd.R_reads' (Kd.R_after (ok := (fun k_ => nb k_ (.slice Ao28 t1101.length co28))) (upR' (Kd.R_mono HO1107.out (fun _ hk => ⟨hk.1.2, hk.2⟩))) hg hat)).2.2) KL32.out))
    have n6_ := Q0_ (ho)
    clear BK1098 BK1099 HO1103 HO1107 HB HR1114 HO1110; revert n0_ n1_ n2_ n3_ n4_ n5_ n6_; intro BK1098 BK1099 HO1103 HO1107 HB HR1114 HO1117
    clear ho hb hg hat
    obtain ⟨Ao37, co37, eo37⟩ := Kd.R_slice HO1117.out
    (first | subst eo37 | (injection eo37 with f1_ f2_ f3_; have f4_ := f1_.symm; have f5_ := f3_.symm; clear f1_ f2_ f3_; subst f4_; subst f5_))
    refine hK.out _ _ ⟨HS0_, HS1_⟩ (fun hHeld => ?_)
    clear hK K
    refine norm_ (a' := ?_) ?_ ?_
    rotate_left
    ·show Act.put _ (some 38) _ = _
     simp only [Act.put, sI, s0, sS, i64_w, i32_w]
     rfl
    refine pQ HT_ 9 (some 43) #[tt,tt,tt,tt,tt,tt,tt,tt,tt,tt,ff,ff] rfl rfl ?_
    refine one_ (i := 10) (N := some 10) #[tt,tt,tt,tt,tt,tt,tt,tt,tt,tt,tt,ff] rfl rfl (one_of HT_.out (by kernel_rfl)) (by decide) (fun K hK => ?_)
    refine box_step ?hg (N := 10) ?hd (cs := #[.slice none 0 0, .int .i64 0, .bool false, .slice none 0 0, .slice none 0 0]) (t := 27) ?hr ?_; (case hd => rfl); (case hg => rfl); (case hr => first | (go_simp; done) | (go_simp; rfl))
    intro gb1119 hg w38 hbox hb
    have HS0_ := (hb.cell (World.block_lt_of_cell? _ _ (hHeld.1))).trans (hHeld.1)
    have HS1_ := (hb.cell (World.block_lt_of_cell? _ _ (hHeld.2))).trans (hHeld.2)
    have n0_ := Q0_ (Kd.R_below (upR HO1103) hb)
    have n1_ := Q0_ (Kd.R_below (upR HO1107) hb)
    have n2_ := Q0_ (Kd.R_below (upR HO1117) hb)
    have n3_ := Q0_ (blk_below (upK BK1098) hb)
    have n4_ := Q0_ (blk_below (upK BK1099) hb)
    have n5_ := Q0_ (Kd.C_below (upC HR1114) hb)
    have n6_ := Q0_ (below_step upH hb)
    have n7_ := Q0_ (hbox)
    have n8_ := Q0_ ((by rw [hg]; exact (below_size upH) : w.heap.size ≤ gb1119))
    have n9_ := Q0_ ((by rw [hg]; exact (below_size upH) : w.heap.size ≤ gb1119))
    have n10_ := Q0_ ((by rw [hg]; exact Nat.ne_of_lt (blk_lt (upK BK1098)) : gb1098 ≠ gb1119))
    have n11_ := Q0_ ((by rw [hg]; exact Nat.ne_of_gt (blk_lt (upK BK1098)) : gb1119 ≠ gb1098))
    have n12_ := Q0_ ((by rw [hg]; exact Nat.ne_of_lt (blk_lt (upK BK1099)) : gb1099 ≠ gb1119))
    have n13_ := Q0_ ((by rw [hg]; exact Nat.ne_of_gt (blk_lt (upK BK1099)) : gb1119 ≠ gb1099))
    clear HO1103 HO1107 HO1117 BK1098 BK1099 HR1114 HB; revert n0_ n1_ n2_ n3_ n4_ n5_ n6_ n7_ n8_ n9_ n10_ n11_ n12_ n13_; intro HO1103 HO1107 HO1117 BK1098 BK1099 HR1114 HB BK1119 GW1119 GE1119 NB1098_1119 NB1119_1098 NB1099_1119 NB1119_1099
    clear hb hbox hg
    refine hK.out _ _ ⟨HS0_, HS1_⟩ (fun hHeld => ?_)
    clear hK K
    refine norm_ (a' := ?_) ?_ ?_
    rotate_left
    ·show Act.put _ (some 10) _ = _
     simp only [Act.put, sI, s0, sS, i64_w, i32_w]
     rfl
    exact norm_ (by simp only [putAll, Act.put, sI, s0, sS]) (hCont (v1109, .slice Ao37 y1115.length co37, gb1119) _ ⟨hHeld, (upR HO1103), (upR HO1107), (upR HO1117), (upK BK1098), (upK BK1099), (upK BK1119), GW1119.out, GE1119.out, NB1098_1119.out, NB1119_1098.out, NB1099_1119.out, NB1119_1099.out, upH⟩)
   ·skip
    refine box_step ?hg (N := 10) ?hd (cs := #[.slice none 0 0, .int .i64 0, .bool false, .slice none 0 0, .slice none 0 0]) (t := 27) ?hr ?_; (case hd => rfl); (case hg => rfl); (case hr => first | (go_simp; done) | (go_simp; rfl))
    intro gb1119 hg w36 hbox hb
    have HS0_ := (hb.cell (World.block_lt_of_cell? _ _ (hHeld.1))).trans (hHeld.1)
    have HS1_ := (hb.cell (World.block_lt_of_cell? _ _ (hHeld.2))).trans (hHeld.2)
    have n0_ := Q0_ (Kd.R_below (upR HO1103) hb)
    have n1_ := Q0_ (Kd.R_below (upR HO1107) hb)
    have n2_ := Q0_ (Kd.R_below (upR HO1110) hb)
    have n3_ := Q0_ (blk_below (upK BK1098) hb)
    have n4_ := Q0_ (blk_below (upK BK1099) hb)
    have n5_ := Q0_ (Kd.C_below (upC HR1114) hb)
    have n6_ := Q0_ (below_step upH hb)
    have n7_ := Q0_ (hbox)
    have n8_ := Q0_ ((by rw [hg]; exact (below_size upH) : w.heap.size ≤ gb1119))
    have n9_ := Q0_ ((by rw [hg]; exact (below_size upH) : w.heap.size ≤ gb1119))
    have n10_ := Q0_ ((by rw [hg]; exact Nat.ne_of_lt (blk_lt (upK BK1098)) : gb1098 ≠ gb1119))
    have n11_ := Q0_ ((by rw [hg]; exact Nat.ne_of_gt (blk_lt (upK BK1098)) : gb1119 ≠ gb1098))
    have n12_ := Q0_ ((by rw [hg]; exact Nat.ne_of_lt (blk_lt (upK BK1099)) : gb1099 ≠ gb1119))
    have n13_ := Q0_ ((by rw [hg]; exact Nat.ne_of_gt (blk_lt (upK BK1099)) : gb1119 ≠ gb1099))
    clear HO1103 HO1107 HO1110 BK1098 BK1099 HR1114 HB; revert n0_ n1_ n2_ n3_ n4_ n5_ n6_ n7_ n8_ n9_ n10_ n11_ n12_ n13_; intro HO1103 HO1107 HO1110 BK1098 BK1099 HR1114 HB BK1119 GW1119 GE1119 NB1098_1119 NB1119_1098 NB1099_1119 NB1119_1099
    clear hb hbox hg
    refine hK.out _ _ ⟨HS0_, HS1_⟩ (fun hHeld => ?_)
    clear hK K
    refine norm_ (a' := ?_) ?_ ?_
    rotate_left
    ·show Act.put _ (some 10) _ = _
     simp only [Act.put, sI, s0, sS, i64_w, i32_w]
     rfl
    refine one_ (i := 4) (N := some 38) #[tt,tt,tt,tt,tt,tt,tt,tt,tt,ff,tt,ff] rfl rfl (one_of HT_.out (by kernel_rfl)) (by decide) (fun K hK => ?_)
    refine Kd.R_append_rows_step k25 (w0 := w) w.heap.size (by rfl) (.tmp 34) (.tmp 37) 23 25 (.agg #[(.int .i64 0), (.bool false)]) 16 rfl Tryd.underlying23 info25 rfl (by decide) (by omega) v1109 y1108 y1111 _ _ _ (fun k_ => nb k_ (.slice Ao28 t1101.length co28) ∧ nb k_ (.slice (some ad1118) t1104.length co33)) (fun _ => False) rfl rfl ?aO ?aR (fun _ _ h => h) (fun _ h => h.elim) ?aF ?aB ?aS ?aL ?_
    (case aR => repeat (first | exact (upC HR1114) | refine C_q ?_))
    (case aB => exact upH)
    (case aF => exact (fun k_ hk => ⟨Kd.fresh' (Kd.R_lt (upR HO1103)) k_ hk, Kd.fresh' (Kd.R_lt (upR HO1107)) k_ hk⟩))
    (case aO => exact (upR' (Kd.R_mono HO1110.out (fun _ hk => ⟨hk.1.2, hk.2⟩))))
    (case aS => exact (below_size upH))
    (case aL => have := LMc10.out; omega)
    intro v1116 w37 ho hb hg hat
    have HS0_ := cell_grown hg (hHeld.1) (by first | (rw [add_block]; exact (fun e_ => ((HO1110.out.1 _ e_.symm).2) rfl)) | (show some (Addr.add _ _).block ≠ _; rw [add_block]; exact (fun e_ => ((HO1110.out.1 _ e_.symm).2) rfl)) | exact (fun e_ => ((HO1110.out.1 _ e_.symm).2) rfl))
    have HS1_ := cell_grown hg (hHeld.2) (by first | (rw [add_block]; exact (fun e_ => ((HO1110.out.1 _ e_.symm).2) rfl)) | (show some (Addr.add _ _).block ≠ _; rw [add_block]; exact (fun e_ => ((HO1110.out.1 _ e_.symm).2) rfl)) | exact (fun e_ => ((HO1110.out.1 _ e_.symm).2) rfl))
    rw [← Ny1115.out] at ho
    have n0_ := Q0_ (blk_grown (g := gb1098) (o := .cells #[.slice A0_0 l0_0.length c0_0, .int .i64 a0_1, .bool a0_2, .slice A0_3 l0_3.length c0_3, .slice A0_4 l0_4.length c0_4] 27 (0, 0)) (upK BK1098) hg (Kd.R_ne HO1110.out BK1098.out (by decide)))
    have n1_ := Q0_ (blk_grown (g := gb1099) (o := .cells #[.slice none 0 0, .int .i64 0, .bool false, .slice none 0 0, .slice none 0 0] 27 (0, 0)) (upK BK1099) hg (Kd.R_ne HO1110.out BK1099.out (by decide)))
    have n2_ := Q0_ (Kd.R_after (ok := (fun k_ => nb k_ (.slice (some ad1118) t1104.length co33))) (upR' (Kd.R_mono HO1103.out (fun _ hk => ⟨hk.1.2, hk.2⟩))) hg hat)
    have n3_ := Q0_ (Kd.R_after (ok := (fun k_ => nb k_ (.slice Ao28 t1101.length co28))) (upR' (Kd.R_mono HO1107.out (fun _ hk => ⟨hk.1.2, hk.2⟩))) hg hat)
    have n4_ := Q0_ (blk_grown (g := gb1119) (o := .cells #[.slice none 0 0, .int .i64 0, .bool false, .slice none 0 0, .slice none 0 0] 27 (0, 0)) (upK BK1119) hg (Kd.R_ne HO1110.out BK1119.out (by decide)))
    have n5_ := Q0_ (hb)
    have n6_ := Q0_ ((show Kd.C k25 w37 (some ad1118) y1111.length y1111 from by rw [Ny1111.out]; exact Kd.C_take (m := ((l0_0.length : Int) : Int).toNat) ((Kd.R_reads' (Kd.R_after (ok := (fun k_ => nb k_ (.slice Ao28 t1101.length co28))) (upR' (Kd.R_mono HO1107.out (fun _ hk => ⟨hk.1.2, hk.2⟩))) hg hat)).2.2) KL32.out))
    have n7_ := Q0_ (ho)
    clear BK1098 BK1099 HO1103 HO1107 BK1119 HB HR1114 HO1110; revert n0_ n1_ n2_ n3_ n4_ n5_ n6_ n7_; intro BK1098 BK1099 HO1103 HO1107 BK1119 HB HR1114 HO1117
    clear ho hb hg hat
    obtain ⟨Ao38, co38, eo38⟩ := Kd.R_slice HO1117.out
    (first | subst eo38 | (injection eo38 with f1_ f2_ f3_; have f4_ := f1_.symm; have f5_ := f3_.symm; clear f1_ f2_ f3_; subst f4_; subst f5_))
    refine hK.out _ _ ⟨HS0_, HS1_⟩ (fun hHeld => ?_)
    clear hK K
    refine norm_ (a' := ?_) ?_ ?_
    rotate_left
    ·show Act.put _ (some 38) _ = _
     simp only [Act.put, sI, s0, sS, i64_w, i32_w]
     rfl
    refine pQ HT_ 9 (some 43) #[tt,tt,tt,tt,tt,tt,tt,tt,tt,tt,tt,ff] rfl rfl ?_
    exact norm_ (by simp only [putAll, Act.put, sI, s0, sS]) (hCont (v1109, .slice Ao38 y1115.length co38, gb1119) _ ⟨hHeld, (upR HO1103), (upR HO1107), (upR HO1117), (upK BK1098), (upK BK1099), (upK BK1119), GW1119.out, GE1119.out, NB1098_1119.out, NB1119_1098.out, NB1099_1119.out, NB1119_1099.out, upH⟩)
  ·skip
   refine box_step ?hg (N := 10) ?hd (cs := #[.slice none 0 0, .int .i64 0, .bool false, .slice none 0 0, .slice none 0 0]) (t := 27) ?hr ?_; (case hd => rfl); (case hg => rfl); (case hr => first | (go_simp; done) | (go_simp; rfl))
   intro gb1119 hg w34 hbox hb
   have HS0_ := (hb.cell (World.block_lt_of_cell? _ _ (hHeld.1))).trans (hHeld.1)
   have HS1_ := (hb.cell (World.block_lt_of_cell? _ _ (hHeld.2))).trans (hHeld.2)
   have n0_ := Q0_ (Kd.R_below (upR HO1103) hb)
   have n1_ := Q0_ (Kd.R_below (upR HO1107) hb)
   have n2_ := Q0_ (blk_below (upK BK1098) hb)
   have n3_ := Q0_ (blk_below (upK BK1099) hb)
   have n4_ := Q0_ (Kd.C_below (upC HR1114) hb)
   have n5_ := Q0_ (below_step upH hb)
   have n6_ := Q0_ (hbox)
   have n7_ := Q0_ ((by rw [hg]; exact (below_size upH) : w.heap.size ≤ gb1119))
   have n8_ := Q0_ ((by rw [hg]; exact (below_size upH) : w.heap.size ≤ gb1119))
   have n9_ := Q0_ ((by rw [hg]; exact Nat.ne_of_lt (blk_lt (upK BK1098)) : gb1098 ≠ gb1119))
   have n10_ := Q0_ ((by rw [hg]; exact Nat.ne_of_gt (blk_lt (upK BK1098)) : gb1119 ≠ gb1098))
   have n11_ := Q0_ ((by rw [hg]; exact Nat.ne_of_lt (blk_lt (upK BK1099)) : gb1099 ≠ gb1119))
   have n12_ := Q0_ ((by rw [hg]; exact Nat.ne_of_gt (blk_lt (upK BK1099)) : gb1119 ≠ gb1099))
   clear HO1103 HO1107 BK1098 BK1099 HR1114 HB; revert n0_ n1_ n2_ n3_ n4_ n5_ n6_ n7_ n8_ n9_ n10_ n11_ n12_; intro HO1103 HO1107 BK1098 BK1099 HR1114 HB BK1119 GW1119 GE1119 NB1098_1119 NB1119_1098 NB1099_1119 NB1119_1099
   clear hb hbox hg
   refine hK.out _ _ ⟨HS0_, HS1_⟩ (fun hHeld => ?_)
   clear hK K
   refine norm_ (a' := ?_) ?_ ?_
   rotate_left
   ·show Act.put _ (some 10) _ = _
    simp only [Act.put, sI, s0, sS, i64_w, i32_w]
    rfl
   refine one_ (i := 0) (N := some 34) #[tt,tt,tt,tt,ff,tt,tt,tt,tt,ff,tt,ff] rfl rfl (one_of HT_.out (by kernel_rfl)) (by decide) (fun K hK => ?_)
   refine Kd.R_lit_step k25 _ 25 ?hg (N := 34) ?hd (xs := ([] : List (S25))) (inner := []) (ok := fun _ => True) (okp := fun _ => True) ?hr ?hp (fun _ hk => hk) trivial (Below.refl _ _) (Nat.le_refl _) (by simp) ?_; (case hd => rfl); (case hg => rfl); (case hr => first | (go_simp; done) | (go_simp; rfl)); (case hp => exact (Reps.none _ _))
   intro v1109 w35 ho36 hb hg_ hnew_
   have HS0_ := (hb.cell (World.block_lt_of_cell? _ _ (hHeld.1))).trans (hHeld.1)
   have HS1_ := (hb.cell (World.block_lt_of_cell? _ _ (hHeld.2))).trans (hHeld.2)
   clear hg_ hnew_
   (first | rw [← Ny1108.out] at ho36 | (simp only [Int.reduceToNat] at ho36; rw [← Ny1108.out] at ho36))
   have n0_ := Q0_ (Kd.R_elder' (upR HO1103) (Kd.R_base ho36) hb)
   have n1_ := Q0_ (Kd.R_elder' (upR HO1107) (Kd.R_base ho36) hb)
   have n2_ := Q0_ (Kd.R_lower (Kd.R_new' (Kd.R_new' ho36 (Kd.R_lt (upR HO1103))) (Kd.R_lt (upR HO1107))) (below_size upH))
   have n3_ := Q0_ (blk_below (upK BK1098) hb)
   have n4_ := Q0_ (blk_below (upK BK1099) hb)
   have n5_ := Q0_ (Kd.C_below (upC HR1114) hb)
   have n6_ := Q0_ (blk_below (upK BK1119) hb)
   have n7_ := Q0_ (below_step upH hb)
   clear HO1103 HO1107 BK1098 BK1099 HR1114 BK1119 HB; revert n0_ n1_ n2_ n3_ n4_ n5_ n6_ n7_; intro HO1103 HO1107 HO1110 BK1098 BK1099 HR1114 BK1119 HB
   clear hb ho36
   refine hK.out _ _ ⟨HS0_, HS1_⟩ (fun hHeld => ?_)
   clear hK K
   refine norm_ (a' := ?_) ?_ ?_
   rotate_left
   ·show Act.put _ (some 34) _ = _
    simp only [Act.put, sI, s0, sS, i64_w, i32_w]
    rfl
   refine one_ (i := 4) (N := some 38) #[tt,tt,tt,tt,tt,tt,tt,tt,tt,ff,tt,ff] rfl rfl (one_of HT_.out (by kernel_rfl)) (by decide) (fun K hK => ?_)
   refine Kd.R_append_rows_step k25 (w0 := w) w.heap.size (by rfl) (.tmp 34) (.tmp 37) 23 25 (.agg #[(.int .i64 0), (.bool false)]) 16 rfl Tryd.underlying23 info25 rfl (by decide) (by omega) v1109 y1108 y1111 _ _ _ (fun k_ => nb k_ (.slice Ao28 t1101.length co28) ∧ nb k_ (.slice (some ad1118) t1104.length co33)) (fun _ => False) rfl rfl ?aO ?aR (fun _ _ h => h) (fun _ h => h.elim) ?aF ?aB ?aS ?aL ?_
   (case aR => repeat (first | exact (upC HR1114) | refine C_q ?_))
   (case aB => exact upH)
   (case aF => exact (fun k_ hk => ⟨Kd.fresh' (Kd.R_lt (upR HO1103)) k_ hk, Kd.fresh' (Kd.R_lt (upR HO1107)) k_ hk⟩))
   (case aO => exact (upR' (Kd.R_mono HO1110.out (fun _ hk => ⟨hk.1.2, hk.2⟩))))
   (case aS => exact (below_size upH))
   (case aL => have := LMc10.out; omega)
   intro v1116 w37 ho hb hg hat
   have HS0_ := cell_grown hg (hHeld.1) (by first | (rw [add_block]; exact (fun e_ => ((HO1110.out.1 _ e_.symm).2) rfl)) | (show some (Addr.add _ _).block ≠ _; rw [add_block]; exact (fun e_ => ((HO1110.out.1 _ e_.symm).2) rfl)) | exact (fun e_ => ((HO1110.out.1 _ e_.symm).2) rfl))
   have HS1_ := cell_grown hg (hHeld.2) (by first | (rw [add_block]; exact (fun e_ => ((HO1110.out.1 _ e_.symm).2) rfl)) | (show some (Addr.add _ _).block ≠ _; rw [add_block]; exact (fun e_ => ((HO1110.out.1 _ e_.symm).2) rfl)) | exact (fun e_ => ((HO1110.out.1 _ e_.symm).2) rfl))
   rw [← Ny1115.out] at ho
   have n0_ := Q0_ (blk_grown (g := gb1098) (o := .cells #[.slice A0_0 l0_0.length c0_0, .int .i64 a0_1, .bool a0_2, .slice A0_3 l0_3.length c0_3, .slice A0_4 l0_4.length c0_4] 27 (0, 0)) (upK BK1098) hg (Kd.R_ne HO1110.out BK1098.out (by decide)))
   have n1_ := Q0_ (blk_grown (g := gb1099) (o := .cells #[.slice none 0 0, .int .i64 0, .bool false, .slice none 0 0, .slice none 0 0] 27 (0, 0)) (upK BK1099) hg (Kd.R_ne HO1110.out BK1099.out (by decide)))
   have n2_ := Q0_ (Kd.R_after (ok := (fun k_ => nb k_ (.slice (some ad1118) t1104.length co33))) (upR' (Kd.R_mono HO1103.out (fun _ hk => ⟨hk.1.2, hk.2⟩))) hg hat)
   have n3_ := Q0_ (Kd.R_after (ok := (fun k_ => nb k_ (.slice Ao28 t1101.length co28))) (upR' (Kd.R_mono HO1107.out (fun _ hk => ⟨hk.1.2, hk.2⟩))) hg hat)
   have n4_ := Q0_ (blk_grown (g := gb1119) (o := .cells #[.slice none 0 0, .int .i64 0, .bool false, .slice none 0 0, .slice none 0 0] 27 (0, 0)) (upK BK1119) hg (Kd.R_ne HO1110.out BK1119.out (by decide)))
   have n5_ := Q0_ (hb)
   have n6_ := Q0_ ((show Kd.C k25 w37 (some ad1118) y1111.length y1111 from by rw [Ny1111.out]; exact Kd.C_take (m := ((l0_0.length : Int) : Int).toNat) ((Kd.R_reads' (Kd.R_after (ok := (fun k_ => nb k_ (.slice Ao28 t1101.length co28))) (upR' (Kd.R_mono HO1107.out (fun _ hk => ⟨hk.1.2, hk.2⟩))) hg hat)).2.2) KL32.out))
   have n7_ := Q0_ (ho)
   clear BK1098 BK1099 HO1103 HO1107 BK1119 HB HR1114 HO1110; revert n0_ n1_ n2_ n3_ n4_ n5_ n6_ n7_; intro BK1098 BK1099 HO1103 HO1107 BK1119 HB HR1114 HO1117
   clear ho hb hg hat
   obtain ⟨Ao38, co38, eo38⟩ := Kd.R_slice HO1117.out
   (first | subst eo38 | (injection eo38 with f1_ f2_ f3_; have f4_ := f1_.symm; have f5_ := f3_.symm; clear f1_ f2_ f3_; subst f4_; subst f5_))
   refine hK.out _ _ ⟨HS0_, HS1_⟩ (fun hHeld => ?_)
   clear hK K
   refine norm_ (a' := ?_) ?_ ?_
   rotate_left
   ·show Act.put _ (some 38) _ = _
    simp only [Act.put, sI, s0, sS, i64_w, i32_w]
    rfl
   refine pQ HT_ 9 (some 43) #[tt,tt,tt,tt,tt,tt,tt,tt,tt,tt,tt,ff] rfl rfl ?_
   exact norm_ (by simp only [putAll, Act.put, sI, s0, sS]) (hCont (v1109, .slice Ao38 y1115.length co38, gb1119) _ ⟨hHeld, (upR HO1103), (upR HO1107), (upR HO1117), (upK BK1098), (upK BK1099), (upK BK1119), GW1119.out, GE1119.out, NB1098_1119.out, NB1119_1098.out, NB1099_1119.out, NB1119_1099.out, upH⟩)
 rintro ⟨v1109, v1116, gb1119⟩ w39 ⟨hS_, h0_, h1_, h2_, h3_, h4_, h5_, h6_, h7_, h8_, h9_, h10_, h11_, h12_⟩
 try dsimp only at h0_ h1_ h2_ h3_ h4_ h5_ h6_ h7_ h8_ h9_ h10_ h11_ h12_
 have n0_ := Q0_ h0_
 have n1_ := Q0_ h1_
 have n2_ := Q0_ h2_
 have n3_ := Q0_ h3_
 have n4_ := Q0_ h4_
 have n5_ := Q0_ h5_
 have n6_ := Q0_ h6_
 have n7_ := Q0_ h7_
 have n8_ := Q0_ h8_
 have n9_ := Q0_ h9_
 have n10_ := Q0_ h10_
 have n11_ := Q0_ h11_
 have n12_ := Q0_ h12_
 clear HO1103
 clear HO1107
 clear BK1098
 clear BK1099
 clear HB
 clear h0_ h1_ h2_ h3_ h4_ h5_ h6_ h7_ h8_ h9_ h10_ h11_ h12_
 have HO1103 := n0_
 have HO1107 := n1_
 have HO1117 := n2_
 have BK1098 := n3_
 have BK1099 := n4_
 have BK1119 := n5_
 have GW1119 := n6_
 have GE1119 := n7_
 have NB1098_1119 := n8_
 have NB1119_1098 := n9_
 have NB1099_1119 := n10_
 have NB1119_1099 := n11_
 have HB := n12_
 clear n0_ n1_ n2_ n3_ n4_ n5_ n6_ n7_ n8_ n9_ n10_ n11_ n12_
 have hHeld : w39.cell? (ad1118.add (((l0_0.length : Int)).toNat * 2)) = some (.int .i64 ((rd_T25 t1104 (l0_0.length : Int)).f0)) ∧ w39.cell? ⟨(ad1118.add (((l0_0.length : Int)).toNat * 2)).block, (ad1118.add (((l0_0.length : Int)).toNat * 2)).off + 1, none⟩ = some (.bool ((rd_T25 t1104 (l0_0.length : Int)).f1)) := hS_
 obtain ⟨Ao40, co40, eo40⟩ := Kd.R_slice HO1117.out
 (first | subst eo40 | (injection eo40 with f1_ f2_ f3_; have f4_ := f1_.symm; have f5_ := f3_.symm; clear f1_ f2_ f3_; subst f4_; subst f5_))
 refine norm_ (a' := ?_) ?_ ?_
 rotate_left
 ·simp only [putAll, Act.put, sI, s0, sS]
  rfl
 refine one_ (i := 11) (N := none) #[tt,tt,tt,tt,tt,tt,tt,tt,tt,tt,tt,tt] rfl rfl (one_of HT_.out (by kernel_rfl)) (by decide) (fun K hK => ?_)
 have hs41 : w39.cell? ⟨gb1119, 0, none⟩ = some (.slice none 0 0) := (blk_cell BK1119.out 0).trans rfl
 have hfs41 := blk_frozen BK1119.out 0
 have hns41_0 := NB1098_1119.out
 have hns41_1 := NB1099_1119.out
 have hms41_0 := NB1119_1098.out
 have hms41_1 := NB1119_1099.out
 have hs42 : w39.cell? ⟨gb1119, 1, none⟩ = some (.int .i64 0) := (blk_cell BK1119.out 1).trans rfl
 have hfs42 := blk_frozen BK1119.out 1
 have hns42_0 := NB1098_1119.out
 have hns42_1 := NB1099_1119.out
 have hms42_0 := NB1119_1098.out
 have hms42_1 := NB1119_1099.out
 have hs43 : w39.cell? ⟨gb1119, 2, none⟩ = some (.bool false) := (blk_cell BK1119.out 2).trans rfl
 have hfs43 := blk_frozen BK1119.out 2
 have hns43_0 := NB1098_1119.out
 have hns43_1 := NB1099_1119.out
 have hms43_0 := NB1119_1098.out
 have hms43_1 := NB1119_1099.out
 have hs44 : w39.cell? ⟨gb1119, 3, none⟩ = some (.slice none 0 0) := (blk_cell BK1119.out 3).trans rfl
 have hfs44 := blk_frozen BK1119.out 3
 have hns44_0 := NB1098_1119.out
 have hns44_1 := NB1099_1119.out
 have hms44_0 := NB1119_1098.out
 have hms44_1 := NB1119_1099.out
 have hs45 : w39.cell? ⟨gb1119, 4, none⟩ = some (.slice none 0 0) := (blk_cell BK1119.out 4).trans rfl
 have hfs45 := blk_frozen BK1119.out 4
 have hns45_0 := NB1098_1119.out
 have hns45_1 := NB1099_1119.out
 have hms45_0 := NB1119_1098.out
 have hms45_1 := NB1119_1099.out
 refine skip_ (w1 := ?_) (by rfl) rfl ?_ ?_
 rotate_left
 ·go_simp
  rfl
 refine hK.out _ _ ⟨((cell_far (p := ⟨gb1119, _, none⟩) (by first | exact Kd.own_blk (Kd.R_ne HO1107.out BK1119.out (by decide)) | (rw [add_block]; exact Kd.own_blk (Kd.R_ne HO1107.out BK1119.out (by decide))) | (show (Addr.add _ _).block ≠ _; rw [add_block]; exact Kd.own_blk (Kd.R_ne HO1107.out BK1119.out (by decide))) | (dsimp only; exact Kd.own_blk (Kd.R_ne HO1107.out BK1119.out (by decide)))) _).trans (((cell_far (p := ⟨gb1119, _, none⟩) (by first | exact Kd.own_blk (Kd.R_ne HO1107.out BK1119.out (by decide)) | (rw [add_block]; exact Kd.own_blk (Kd.R_ne HO1107.out BK1119.out (by decide))) | (show (Addr.add _ _).block ≠ _; rw [add_block]; exact Kd.own_blk (Kd.R_ne HO1107.out BK1119.out (by decide))) | (dsimp only; exact Kd.own_blk (Kd.R_ne HO1107.out BK1119.out (by decide)))) _).trans (((cell_far (p := ⟨gb1119, _, none⟩) (by first | exact Kd.own_blk (Kd.R_ne HO1107.out BK1119.out (by decide)) | (rw [add_block]; exact Kd.own_blk (Kd.R_ne HO1107.out BK1119.out (by decide))) | (show (Addr.add _ _).block ≠ _; rw [add_block]; exact Kd.own_blk (Kd.R_ne HO1107.out BK1119.out (by decide))) | (dsimp only; exact Kd.own_blk (Kd.R_ne HO1107.out BK1119.out (by decide)))) _).trans (((cell_far (p := ⟨gb1119, _, none⟩) (by first | exact Kd.own_blk (Kd.R_ne HO1107.out BK1119.out (by decide)) | (rw [add_block]; exact Kd.own_blk (Kd.R_ne HO1107.out BK1119.out (by decide))) | (show (Addr.add _ _).block ≠ _; rw [add_block]; exact Kd.own_blk (Kd.R_ne HO1107.out BK1119.out (by decide))) | (dsimp only; exact Kd.own_blk (Kd.R_ne HO1107.out BK1119.out (by decide)))) _).trans (((cell_far (p := ⟨gb1119, _, none⟩) (by first | exact Kd.own_blk (Kd.R_ne HO1107.out BK1119.out (by decide)) | (rw [add_block]; exact Kd.own_blk (Kd.R_ne HO1107.out BK1119.out (by decide))) | (show (Addr.add _ _).block ≠ _; rw [add_block]; exact Kd.own_blk (Kd.R_ne HO1107.out BK1119.out (by decide))) | (dsimp only; exact Kd.own_blk (Kd.R_ne HO1107.out BK1119.out (by decide)))) _).trans (hHeld.1)))))))))), ((cell_far (p := ⟨gb1119, _, none⟩) (by first | exact Kd.own_blk (Kd.R_ne HO1107.out BK1119.out (by decide)) | (rw [add_block]; exact Kd.own_blk (Kd.R_ne HO1107.out BK1119.out (by decide))) | (show (Addr.add _ _).block ≠ _; rw [add_block]; exact Kd.own_blk (Kd.R_ne HO1107.out BK1119.out (by decide))) | (dsimp only; exact Kd.own_blk (Kd.R_ne HO1107.out BK1119.out (by decide)))) _).trans (((cell_far (p := ⟨gb1119, _, none⟩) (by first | exact Kd.own_blk (Kd.R_ne HO1107.out BK1119.out (by decide)) | (rw [add_block]; exact Kd.own_blk (Kd.R_ne HO1107.out BK1119.out (by decide))) | (show (Addr.add _ _).block ≠ _; rw [add_block]; exact Kd.own_blk (Kd.R_ne HO1107.out BK1119.out (by decide))) | (dsimp only; exact Kd.own_blk (Kd.R_ne HO1107.out BK1119.out (by decide)))) _).trans (((cell_far (p := ⟨gb1119, _, none⟩) (by first | exact Kd.own_blk (Kd.R_ne HO1107.out BK1119.out (by decide)) | (rw [add_block]; exact Kd.own_blk (Kd.R_ne HO1107.out BK1119.out (by decide))) | (show (Addr.add _ _).block ≠ _; rw [add_block]; exact Kd.own_blk (Kd.R_ne HO1107.out BK1119.out (by decide))) | (dsimp only; exact Kd.own_blk (Kd.R_ne HO1107.out BK1119.out (by decide)))) _).trans (((cell_far (p := ⟨gb1119, _, none⟩) (by first | exact Kd.own_blk (Kd.R_ne HO1107.out BK1119.out (by decide)) | (rw [add_block]; exact Kd.own_blk (Kd.R_ne HO1107.out BK1119.out (by decide))) | (show (Addr.add _ _).block ≠ _; rw [add_block]; exact Kd.own_blk (Kd.R_ne HO1107.out BK1119.out (by decide))) | (dsimp only; exact Kd.own_blk (Kd.R_ne HO1107.out BK1119.out (by decide)))) _).trans (((cell_far (p := ⟨gb1119, _, none⟩) (by first | exact Kd.own_blk (Kd.R_ne HO1107.out BK1119.out (by decide)) | (rw [add_block]; exact Kd.own_blk (Kd.R_ne HO1107.out BK1119.out (by decide))) | (show (Addr.add _ _).block ≠ _; rw [add_block]; exact Kd.own_blk (Kd.R_ne HO1107.out BK1119.out (by decide))) | (dsimp only; exact Kd.own_blk (Kd.R_ne HO1107.out BK1119.out (by decide)))) _).trans (hHeld.2))))))))))⟩ (fun hHeld => ?_)
 clear hK K
 refine done_ (done_of HT_.out (by kernel_rfl)) ?_
 try go_wp2_with (first | ((with_reducible refine gate_dst (N := 44) rfl ?_); refine Kd.R_lit k25 _ 25 ?hg (N := 44) ?hd (xs := ([] : List (S25))) (inner := []) (ok := fun _ => True) (okp := fun _ => True) ?hr ?hp (fun _ hk => hk) trivial (Below.refl _ _) (Nat.le_refl _) (by simp) ?_; (case hd => rfl); (case hg => rfl); (case hr => first | (go_simp; done) | (go_simp; rfl)); (case hp => exact (Reps.none _ _)); intro v1121 w46 ho47 hb hg_ hnew_; clear hg_ hnew_; (first | rw [← Ny1120.out] at ho47 | (simp only [Int.reduceToNat] at ho47; rw [← Ny1120.out] at ho47)); have n0_ := Q0_ (Kd.R_elder' (upR' ((Kd.R_mono (Kd.R_far (p := ⟨gb1119, 4, none⟩) (Kd.R_far (p := ⟨gb1119, 3, none⟩) (Kd.R_far (p := ⟨gb1119, 2, none⟩) (Kd.R_far (p := ⟨gb1119, 1, none⟩) (Kd.R_far (p := ⟨gb1119, 0, none⟩) (Kd.R_types HO1103.out BK1119.out (by decide)) (fun _ hk => hk.2) (.slice Ao40 y1115.length co40)) (fun _ hk => hk.2) (.int .i64 ((rd_T25 t1104 (l0_0.length : Int)).f0))) (fun _ hk => hk.2) (.bool ((rd_T25 t1104 (l0_0.length : Int)).f1))) (fun _ hk => hk.2) (.slice none 0 0)) (fun _ hk => hk.2) (.slice none 0 0)) (fun _ h_ => h_.1)))) (Kd.R_base ho47) hb); have n1_ := Q0_ (Kd.R_elder' (upR' ((Kd.R_mono (Kd.R_far (p := ⟨gb1119, 4, none⟩) (Kd.R_far (p := ⟨gb1119, 3, none⟩) (Kd.R_far (p := ⟨gb1119, 2, none⟩) (Kd.R_far (p := ⟨gb1119, 1, none⟩) (Kd.R_far (p := ⟨gb1119, 0, none⟩) (Kd.R_types HO1107.out BK1119.out (by decide)) (fun _ hk => hk.2) (.slice Ao40 y1115.length co40)) (fun _ hk => hk.2) (.int .i64 ((rd_T25 t1104 (l0_0.length : Int)).f0))) (fun _ hk => hk.2) (.bool ((rd_T25 t1104 (l0_0.length : Int)).f1))) (fun _ hk => hk.2) (.slice none 0 0)) (fun _ hk => hk.2) (.slice none 0 0)) (fun _ h_ => h_.1)))) (Kd.R_base ho47) hb); have n2_ := Q0_ (Kd.R_elder' (upR' ((Kd.R_mono (Kd.R_far (p := ⟨gb1119, 4, none⟩) (Kd.R_far (p := ⟨gb1119, 3, none⟩) (Kd.R_far (p := ⟨gb1119, 2, none⟩) (Kd.R_far (p := ⟨gb1119, 1, none⟩) (Kd.R_far (p := ⟨gb1119, 0, none⟩) (Kd.R_types HO1117.out BK1119.out (by decide)) (fun _ hk => hk.2) (.slice Ao40 y1115.length co40)) (fun _ hk => hk.2) (.int .i64 ((rd_T25 t1104 (l0_0.length : Int)).f0))) (fun _ hk => hk.2) (.bool ((rd_T25 t1104 (l0_0.length : Int)).f1))) (fun _ hk => hk.2) (.slice none 0 0)) (fun _ hk => hk.2) (.slice none 0 0)) (fun _ h_ => h_.1)))) (Kd.R_base ho47) hb); have n3_ := Q0_ (Kd.R_lower (Kd.R_new' (Kd.R_new' (Kd.R_new' ho47 (Kd.R_lt (upR' ((Kd.R_mono (Kd.R_far (p := ⟨gb1119, 4, none⟩) (Kd.R_far (p := ⟨gb1119, 3, none⟩) (Kd.R_far (p := ⟨gb1119, 2, none⟩) (Kd.R_far (p := ⟨gb1119, 1, none⟩) (Kd.R_far (p := ⟨gb1119, 0, none⟩) (Kd.R_types HO1103.out BK1119.out (by decide)) (fun _ hk => hk.2) (.slice Ao40 y1115.length co40)) (fun _ hk => hk.2) (.int .i64 ((rd_T25 t1104 (l0_0.length : Int)).f0))) (fun _ hk => hk.2) (.bool ((rd_T25 t1104 (l0_0.length : Int)).f1))) (fun _ hk => hk.2) (.slice none 0 0)) (fun _ hk => hk.2) (.slice none 0 0)) (fun _ h_ => h_.1)))))) (Kd.R_lt (upR' ((Kd.R_mono (Kd.R_far (p := ⟨gb1119, 4, none⟩) (Kd.R_far (p := ⟨gb1119, 3, none⟩) (Kd.R_far (p := ⟨gb1119, 2, none⟩) (Kd.R_far (p := ⟨gb1119, 1, none⟩) (Kd.R_far (p := ⟨gb1119, 0, none⟩) (Kd.R_types HO1107.out BK1119.out (by decide)) (fun _ hk => hk.2) (.slice Ao40 y1115.length co40)) (fun _ hk => hk.2) (.int .i64 ((rd_T25 t1104 (l0_0.length : Int)).f0))) (fun _ hk => hk.2) (.bool ((rd_T25 t1104 (l0_0.length : Int)).f1))) (fun _ hk => hk.2) (.slice none 0 0)) (fun _ hk => hk.2) (.slice none 0 0)) (fun _ h_ => h_.1)))))) (Kd.R_lt (upR' ((Kd.R_mono (Kd.R_far (p := ⟨gb1119, 4, none⟩) (Kd.R_far (p := ⟨gb1119, 3, none⟩) (Kd.R_far (p := ⟨gb1119, 2, none⟩) (Kd.R_far (p := ⟨gb1119, 1, none⟩) (Kd.R_far (p := ⟨gb1119, 0, none⟩) (Kd.R_types HO1117.out BK1119.out (by decide)) (fun _ hk => hk.2) (.slice Ao40 y1115.length co40)) (fun _ hk => hk.2) (.int .i64 ((rd_T25 t1104 (l0_0.length : Int)).f0))) (fun _ hk => hk.2) (.bool ((rd_T25 t1104 (l0_0.length : Int)).f1))) (fun _ hk => hk.2) (.slice none 0 0)) (fun _ hk => hk.2) (.slice none 0 0)) (fun _ h_ => h_.1)))))) (below_size upH)); have n4_ := Q0_ (blk_below (g := gb1098) (o := .cells #[.slice A0_0 l0_0.length c0_0, .int .i64 a0_1, .bool a0_2, .slice A0_3 l0_3.length c0_3, .slice A0_4 l0_4.length c0_4] 27 (0, 0)) (by (repeat refine blk_q ?_); refine blk_far ?_ NB1098_1119.out _; (repeat refine blk_q ?_); refine blk_far ?_ NB1098_1119.out _; (repeat refine blk_q ?_); refine blk_far ?_ NB1098_1119.out _; (repeat refine blk_q ?_); refine blk_far ?_ NB1098_1119.out _; (repeat refine blk_q ?_); refine blk_far ?_ NB1098_1119.out _; (repeat refine blk_q ?_); exact BK1098.out) hb); have n5_ := Q0_ (blk_below (g := gb1099) (o := .cells #[.slice none 0 0, .int .i64 0, .bool false, .slice none 0 0, .slice none 0 0] 27 (0, 0)) (by (repeat refine blk_q ?_); refine blk_far ?_ NB1099_1119.out _; (repeat refine blk_q ?_); refine blk_far ?_ NB1099_1119.out _; (repeat refine blk_q ?_); refine blk_far ?_ NB1099_1119.out _; (repeat refine blk_q ?_); refine blk_far ?_ NB1099_1119.out _; (repeat refine blk_q ?_); refine blk_far ?_ NB1099_1119.out _; (repeat refine blk_q ?_); exact BK1099.out) hb); have n6_ := Q0_ (blk_below (g := gb1119) (o := .cells #[.slice Ao40 y1115.length co40, .int .i64 ((rd_T25 t1104 (l0_0.length : Int)).f0), .bool ((rd_T25 t1104 (l0_0.length : Int)).f1), .slice none 0 0, .slice none 0 0] 27 (0, 0)) (by (repeat refine blk_q ?_); refine blk_put (cs := #[.slice Ao40 y1115.length co40, .int .i64 ((rd_T25 t1104 (l0_0.length : Int)).f0), .bool ((rd_T25 t1104 (l0_0.length : Int)).f1), .slice none 0 0, .slice none 0 0]) ?_ 4 _ rfl; (repeat refine blk_q ?_); refine blk_put (cs := #[.slice Ao40 y1115.length co40, .int .i64 ((rd_T25 t1104 (l0_0.length : Int)).f0), .bool ((rd_T25 t1104 (l0_0.length : Int)).f1), .slice none 0 0, .slice none 0 0]) ?_ 3 _ rfl; (repeat refine blk_q ?_); refine blk_put (cs := #[.slice Ao40 y1115.length co40, .int .i64 ((rd_T25 t1104 (l0_0.length : Int)).f0), .bool false, .slice none 0 0, .slice none 0 0]) ?_ 2 _ rfl; (repeat refine blk_q ?_); refine blk_put (cs := #[.slice Ao40 y1115.length co40, .int .i64 0, .bool false, .slice none 0 0, .slice none 0 0]) ?_ 1 _ rfl; (repeat refine blk_q ?_); refine blk_put (cs := #[.slice none 0 0, .int .i64 0, .bool false, .slice none 0 0, .slice none 0 0]) ?_ 0 _ rfl; (repeat refine blk_q ?_); exact BK1119.out) hb); have n7_ := Q0_ (below_step upH hb); clear HO1103 HO1107 HO1117 BK1098 BK1099 BK1119 HB; revert n0_ n1_ n2_ n3_ n4_ n5_ n6_ n7_; intro HO1103 HO1107 HO1117 HO1122 BK1098 BK1099 BK1119 HB; clear hb ho47; have q48 : ((ji17) : Int) ≤ ((t1104.length : Int) : Int) := of_decide_eq_true aS; obtain ⟨i048, hi048, _, hsz48, _⟩ := info_parts info25; have hroom48 : t1104.length ≤ co33 := (Kd.R_reads' HO1107.out).2.1; have hC48 : Kd.C k25 _ (some ad1118) t1104.length t1104 := (Kd.R_reads' HO1107.out).2.2; have ql48 : ((ji12) : Int) ≤ ((ji17) : Int) := of_decide_eq_true aS; have q048 : (0 : Int) ≤ ((ji12) : Int) := of_decide_eq_true aS; have hcut48 := cut_mid (P := Tryd.prog) 23 25 .i64 .i64 Tryd.underlying23 hi048 2 hsz48 (some ad1118) t1104.length co33 (ji12) (ji17) q048 ql48 q48 hroom48; have hr48 := Kd.C_mid (lo := ((ji12) : Int).toNat) (hi := ((ji17) : Int).toNat) (c := co33) hC48 (by omega) (by omega) hroom48; obtain ⟨A48, hA48⟩ : ∃ Az_, Az_ = (if co33 = ((ji12) : Int).toNat then (some ad1118) else ((some ad1118) : Option Addr).map (·.add (((ji12) : Int).toNat * 2))) := ⟨_, rfl⟩; obtain ⟨c48, hc48⟩ : ∃ cz_, cz_ = co33 - ((ji12) : Int).toNat := ⟨_, rfl⟩; have hy48 : y1123.length = ((ji17) : Int).toNat - ((ji12) : Int).toNat := (by rw [Ny1123.out, List.length_drop, List.length_take] <;> omega); rw [show ((t1104).take ((ji17) : Int).toNat).drop ((ji12) : Int).toNat = y1123 from Ny1123.out.symm] at hr48; replace hr48 : Kd.C k25 _ A48 y1123.length y1123 := (by rw [hA48]; exact hr48); rw [← hy48, ← hA48, ← hc48] at hcut48; have HR1126 := Aside0.mk hr48; have HC1126 := Q0_ (show y1123.length ≤ c48 from by rw [hy48, hc48]; exact Nat.sub_le_sub_right (Nat.le_trans (by omega) hroom48) _); clear hr48 hC48 hroom48 hi048 hsz48 hc48; have KY48 := Aside0.mk hy48; have KA48 := Aside0.mk hA48; clear hy48 hA48; have KL48 := Q0_ (show ((ji17) : Int).toNat ≤ t1104.length from by omega); have KM48 := Q0_ (show ((ji12) : Int).toNat ≤ ((ji17) : Int).toNat from by omega); replace q48 := eq_true q48) | ((with_reducible refine gate_builtin (b := .append) (xs := #[.tmp 44, .tmp 49]) rfl ?_); at_builtin; refine Kd.R_append_rows k25 (w0 := w) w.heap.size rfl (.tmp 44) (.tmp 49) 23 25 (.agg #[(.int .i64 0), (.bool false)]) 16 rfl Tryd.underlying23 info25 rfl (by decide) (by omega) v1121 y1120 y1123 _ _ _ (fun k_ => nb k_ (.slice Ao28 t1101.length co28) ∧ nb k_ (.slice (some ad1118) t1104.length co33) ∧ nb k_ (.slice Ao40 y1115.length co40)) (fun _ => False) rfl rfl ?aO ?aR (fun _ _ h => h) (fun _ h => h.elim) ?aF ?aB ?aS ?aL ?_; (case aR => repeat (first | exact (upC HR1126) | refine C_q ?_)); (case aB => exact upH); (case aF => exact (fun k_ hk => ⟨Kd.fresh' (Kd.R_lt (upR HO1103)) k_ hk, Kd.fresh' (Kd.R_lt (upR HO1107)) k_ hk, Kd.fresh' (Kd.R_lt (upR HO1117)) k_ hk⟩)); (case aO => exact (upR' (Kd.R_mono HO1122.out (fun _ hk => ⟨hk.1.1.2, ⟨hk.1.2, hk.2⟩⟩)))); (case aS => exact (below_size upH)); (case aL => have := LMc16.out; omega); intro v1128 w49 ho hb hg hat; rw [← Ny1127.out] at ho; have n0_ := Q0_ (blk_grown (g := gb1098) (o := .cells #[.slice A0_0 l0_0.length c0_0, .int .i64 a0_1, .bool a0_2, .slice A0_3 l0_3.length c0_3, .slice A0_4 l0_4.length c0_4] 27 (0, 0)) (upK BK1098) hg (Kd.R_ne HO1122.out BK1098.out (by decide))); have n1_ := Q0_ (blk_grown (g := gb1099) (o := .cells #[.slice none 0 0, .int .i64 0, .bool false, .slice none 0 0, .slice none 0 0] 27 (0, 0)) (upK BK1099) hg (Kd.R_ne HO1122.out BK1099.out (by decide))); have n2_ := Q0_ (Kd.R_after (ok := (fun k_ => nb k_ (.slice (some ad1118) t1104.length co33) ∧ nb k_ (.slice Ao40 y1115.length co40))) (upR HO1103) hg hat); have n3_ := Q0_ (Kd.R_after (ok := (fun k_ => nb k_ (.slice Ao28 t1101.length co28) ∧ nb k_ (.slice Ao40 y1115.length co40))) (upR HO1107) hg hat); have n4_ := Q0_ (Kd.R_after (ok := (fun k_ => nb k_ (.slice Ao28 t1101.length co28) ∧ nb k_ (.slice (some ad1118) t1104.length co33))) (upR HO1117) hg hat); have n5_ := Q0_ (blk_grown (g := gb1119) (o := .cells #[.slice Ao40 y1115.length co40, .int .i64 ((rd_T25 t1104 (l0_0.length : Int)).f0), .bool ((rd_T25 t1104 (l0_0.length : Int)).f1), .slice none 0 0, .slice none 0 0] 27 (0, 0)) (upK BK1119) hg (Kd.R_ne HO1122.out BK1119.out (by decide))); have n6_ := Q0_ (hb); have n7_ := Q0_ ((show Kd.C k25 w49 A48 y1123.length y1123 from by rw [Ny1123.out, KA48.out]; exact Kd.C_mid (lo := ((ji12) : Int).toNat) (hi := ((ji17) : Int).toNat) (c := co33) ((Kd.R_reads' (Kd.R_after (ok := (fun k_ => nb k_ (.slice Ao28 t1101.length co28) ∧ nb k_ (.slice Ao40 y1115.length co40))) (upR HO1107) hg hat)).2.2) KM48.out KL48.out ((Kd.R_reads' (Kd.R_after (ok := (fun k_ => nb k_ (.slice Ao28 t1101.length co28) ∧ nb k_ (.slice Ao40 y1115.length co40))) (upR HO1107) hg hat)).2.1))); have n8_ := Q0_ (ho); clear BK1098 BK1099 HO1103 HO1107 HO1117 BK1119 HB HR1126 HO1122; revert n0_ n1_ n2_ n3_ n4_ n5_ n6_ n7_ n8_; intro BK1098 BK1099 HO1103 HO1107 HO1117 BK1119 HB HR1126 HO1129; clear ho hb hg hat; obtain ⟨Ao50, co50, eo50⟩ := Kd.R_slice HO1129.out; subst eo50; have hnb51 := NB1119_1098.out; have hnc51 := NB1098_1119.out; have hnb52 := NB1119_1099.out; have hnc52 := NB1099_1119.out; have hcz53_0 : w49.cell? ⟨gb1119, 0, none⟩ = some (.slice Ao40 y1115.length co40) := (blk_cell BK1119.out 0).trans rfl; have hcz53_1 : w49.cell? ⟨gb1119, 1, none⟩ = some (.int .i64 ((rd_T25 t1104 (l0_0.length : Int)).f0)) := (blk_cell BK1119.out 1).trans rfl; have hcz53_2 : w49.cell? ⟨gb1119, 2, none⟩ = some (.bool ((rd_T25 t1104 (l0_0.length : Int)).f1)) := (blk_cell BK1119.out 2).trans rfl; have hcz53_3 : w49.cell? ⟨gb1119, 3, none⟩ = some (.slice none 0 0) := (blk_cell BK1119.out 3).trans rfl; have hcz53_4 : w49.cell? ⟨gb1119, 4, none⟩ = some (.slice none 0 0) := (blk_cell BK1119.out 4).trans rfl; have hfz53_0 := blk_frozen BK1119.out 0; have hfz53_1 := blk_frozen BK1119.out 1; have hfz53_2 := blk_frozen BK1119.out 2; have hfz53_3 := blk_frozen BK1119.out 3; have hfz53_4 := blk_frozen BK1119.out 4) | ((with_reducible refine gate_dst (N := 52) rfl ?_); refine Kd.R_lit k25 _ 25 ?hg (N := 52) ?hd (xs := ([] : List (S25))) (inner := []) (ok := fun _ => True) (okp := fun _ => True) ?hr ?hp (fun _ hk => hk) trivial (Below.refl _ _) (Nat.le_refl _) (by simp) ?_; (case hd => rfl); (case hg => rfl); (case hr => first | (go_simp; done) | (go_simp; rfl)); (case hp => exact (Reps.none _ _)); intro v1131 w54 ho55 hb hg_ hnew_; clear hg_ hnew_; (first | rw [← Ny1130.out] at ho55 | (simp only [Int.reduceToNat] at ho55; rw [← Ny1130.out] at ho55)); have n0_ := Q0_ (Kd.R_elder' (upR' ((Kd.R_mono (Kd.R_far (p := ⟨gb1119, 3, none⟩) (Kd.R_types HO1103.out BK1119.out (by decide)) (fun _ hk => hk.2) (.slice Ao50 y1127.length co50)) (fun _ h_ => h_.1)))) (Kd.R_base ho55) hb); have n1_ := Q0_ (Kd.R_elder' (upR' ((Kd.R_mono (Kd.R_far (p := ⟨gb1119, 3, none⟩) (Kd.R_types HO1107.out BK1119.out (by decide)) (fun _ hk => hk.2) (.slice Ao50 y1127.length co50)) (fun _ h_ => h_.1)))) (Kd.R_base ho55) hb); have n2_ := Q0_ (Kd.R_elder' (upR' ((Kd.R_mono (Kd.R_far (p := ⟨gb1119, 3, none⟩) (Kd.R_types HO1117.out BK1119.out (by decide)) (fun _ hk => hk.2) (.slice Ao50 y1127.length co50)) (fun _ h_ => h_.1)))) (Kd.R_base ho55) hb); have n3_ := Q0_ (Kd.R_elder' (upR' ((Kd.R_mono (Kd.R_far (p := ⟨gb1119, 3, none⟩) (Kd.R_types HO1129.out BK1119.out (by decide)) (fun _ hk => hk.2) (.slice Ao50 y1127.length co50)) (fun _ h_ => h_.1)))) (Kd.R_base ho55) hb); have n4_ := Q0_ (Kd.R_lower (Kd.R_new' (Kd.R_new' (Kd.R_new' (Kd.R_new' ho55 (Kd.R_lt (upR' ((Kd.R_mono (Kd.R_far (p := ⟨gb1119, 3, none⟩) (Kd.R_types HO1103.out BK1119.out (by decide)) (fun _ hk => hk.2) (.slice Ao50 y1127.length co50)) (fun _ h_ => h_.1)))))) (Kd.R_lt (upR' ((Kd.R_mono (Kd.R_far (p := ⟨gb1119, 3, none⟩) (Kd.R_types HO1107.out BK1119.out (by decide)) (fun _ hk => hk.2) (.slice Ao50 y1127.length co50)) (fun _ h_ => h_.1)))))) (Kd.R_lt (upR' ((Kd.R_mono (Kd.R_far (p := ⟨gb1119, 3, none⟩) (Kd.R_types HO1117.out BK1119.out (by decide)) (fun _ hk => hk.2) (.slice Ao50 y1127.length co50)) (fun _ h_ => h_.1)))))) (Kd.R_lt (upR' ((Kd.R_mono (Kd.R_far (p := ⟨gb1119, 3, none⟩) (Kd.R_types HO1129.out BK1119.out (by decide)) (fun _ hk => hk.2) (.slice Ao50 y1127.length co50)) (fun _ h_ => h_.1)))))) (below_size upH)); have n5_ := Q0_ (blk_below (g := gb1098) (o := .cells #[.slice A0_0 l0_0.length c0_0, .int .i64 a0_1, .bool a0_2, .slice A0_3 l0_3.length c0_3, .slice A0_4 l0_4.length c0_4] 27 (0, 0)) (by (repeat refine blk_q ?_); refine blk_far ?_ NB1098_1119.out _; (repeat refine blk_q ?_); exact BK1098.out) hb); have n6_ := Q0_ (blk_below (g := gb1099) (o := .cells #[.slice none 0 0, .int .i64 0, .bool false, .slice none 0 0, .slice none 0 0] 27 (0, 0)) (by (repeat refine blk_q ?_); refine blk_far ?_ NB1099_1119.out _; (repeat refine blk_q ?_); exact BK1099.out) hb); have n7_ := Q0_ (blk_below (g := gb1119) (o := .cells #[.slice Ao40 y1115.length co40, .int .i64 ((rd_T25 t1104 (l0_0.length : Int)).f0), .bool ((rd_T25 t1104 (l0_0.length : Int)).f1), .slice Ao50 y1127.length co50, .slice none 0 0] 27 (0, 0)) (by (repeat refine blk_q ?_); refine blk_put (cs := #[.slice Ao40 y1115.length co40, .int .i64 ((rd_T25 t1104 (l0_0.length : Int)).f0), .bool ((rd_T25 t1104 (l0_0.length : Int)).f1), .slice none 0 0, .slice none 0 0]) ?_ 3 _ rfl; (repeat refine blk_q ?_); exact BK1119.out) hb); have n8_ := Q0_ (Kd.C_below ((show Kd.C k25 _ A48 y1123.length y1123 from by rw [Ny1123.out, KA48.out]; exact Kd.C_mid (lo := ((ji12) : Int).toNat) (hi := ((ji17) : Int).toNat) (c := co33) ((Kd.R_reads' (upR' ((Kd.R_mono (Kd.R_far (p := ⟨gb1119, 3, none⟩) (Kd.R_types HO1107.out BK1119.out (by decide)) (fun _ hk => hk.2) (.slice Ao50 y1127.length co50)) (fun _ h_ => h_.1))))).2.2) KM48.out KL48.out ((Kd.R_reads' HO1107.out).2.1))) hb); have n9_ := Q0_ (below_step upH hb); clear HO1103 HO1107 HO1117 HO1129 BK1098 BK1099 BK1119 HR1126 HB; revert n0_ n1_ n2_ n3_ n4_ n5_ n6_ n7_ n8_ n9_; intro HO1103 HO1107 HO1117 HO1129 HO1132 BK1098 BK1099 BK1119 HR1126 HB; clear hb ho55; have q56 : ((ji17) : Int) ≤ ((t1104.length : Int) : Int) := of_decide_eq_true aS; obtain ⟨i056, hi056, _, hsz56, _⟩ := info_parts info25; have hroom56 : t1104.length ≤ co33 := (Kd.R_reads' HO1107.out).2.1; have hC56 : Kd.C k25 _ (some ad1118) t1104.length t1104 := (Kd.R_reads' HO1107.out).2.2; have q056 : (0 : Int) ≤ ((ji17) : Int) := of_decide_eq_true aS; have hcut56 := cut_from (P := Tryd.prog) 23 25 .i64 Tryd.underlying23 hi056 2 hsz56 (some ad1118) t1104.length co33 (ji17) q056 q56; have hr56 := Kd.C_drop (m := ((ji17) : Int).toNat) (c := co33) hC56 (by omega) hroom56; obtain ⟨A56, hA56⟩ : ∃ Az_, Az_ = (if co33 = ((ji17) : Int).toNat then (some ad1118) else ((some ad1118) : Option Addr).map (·.add (((ji17) : Int).toNat * 2))) := ⟨_, rfl⟩; obtain ⟨c56, hc56⟩ : ∃ cz_, cz_ = co33 - ((ji17) : Int).toNat := ⟨_, rfl⟩; have hy56 : y1133.length = t1104.length - ((ji17) : Int).toNat := (by rw [Ny1133.out, List.length_drop] <;> omega); rw [show (t1104).drop ((ji17) : Int).toNat = y1133 from Ny1133.out.symm] at hr56; replace hr56 : Kd.C k25 _ A56 y1133.length y1133 := (by rw [hA56]; exact hr56); rw [← hy56, ← hA56, ← hc56] at hcut56; have HR1136 := Aside0.mk hr56; have HC1136 := Q0_ (show y1133.length ≤ c56 from by rw [hy56, hc56]; exact Nat.sub_le_sub_right hroom56 _); clear hr56 hC56 hroom56 hi056 hsz56 hc56; have KY56 := Aside0.mk hy56; have KA56 := Aside0.mk hA56; clear hy56 hA56; have KL56 := Q0_ (show ((ji17) : Int).toNat ≤ t1104.length from by omega); replace q56 := eq_true q56) | ((with_reducible refine gate_builtin (b := .append) (xs := #[.tmp 52, .tmp 55]) rfl ?_); at_builtin; refine Kd.R_append_rows k25 (w0 := w) w.heap.size rfl (.tmp 52) (.tmp 55) 23 25 (.agg #[(.int .i64 0), (.bool false)]) 16 rfl Tryd.underlying23 info25 rfl (by decide) (by omega) v1131 y1130 y1133 _ _ _ (fun k_ => nb k_ (.slice Ao28 t1101.length co28) ∧ nb k_ (.slice (some ad1118) t1104.length co33) ∧ nb k_ (.slice Ao40 y1115.length co40) ∧ nb k_ (.slice Ao50 y1127.length co50)) (fun _ => False) rfl rfl ?aO ?aR (fun _ _ h => h) (fun _ h => h.elim) ?aF ?aB ?aS ?aL ?_; (case aR => repeat (first | exact (upC HR1136) | refine C_q ?_)); (case aB => exact upH); (case aF => exact (fun k_ hk => ⟨Kd.fresh' (Kd.R_lt (upR HO1103)) k_ hk, Kd.fresh' (Kd.R_lt (upR HO1107)) k_ hk, Kd.fresh' (Kd.R_lt (upR HO1117)) k_ hk, Kd.fresh' (Kd.R_lt (upR HO1129)) k_ hk⟩)); (case aO => exact (upR' (Kd.R_mono HO1132.out (fun _ hk => ⟨hk.1.1.1.2, ⟨hk.1.1.2, ⟨hk.1.2, hk.2⟩⟩⟩)))); (case aS => exact (below_size upH)); (case aL => have := LMc20.out; omega); intro v1138 w57 ho hb hg hat; rw [← Ny1137.out] at ho; have n0_ := Q0_ (blk_grown (g := gb1098) (o := .cells #[.slice A0_0 l0_0.length c0_0, .int .i64 a0_1, .bool a0_2, .slice A0_3 l0_3.length c0_3, .slice A0_4 l0_4.length c0_4] 27 (0, 0)) (upK BK1098) hg (Kd.R_ne HO1132.out BK1098.out (by decide))); have n1_ := Q0_ (blk_grown (g := gb1099) (o := .cells #[.slice none 0 0, .int .i64 0, .bool false, .slice none 0 0, .slice none 0 0] 27 (0, 0)) (upK BK1099) hg (Kd.R_ne HO1132.out BK1099.out (by decide))); have n2_ := Q0_ (Kd.R_after (ok := (fun k_ => nb k_ (.slice (some ad1118) t1104.length co33) ∧ nb k_ (.slice Ao40 y1115.length co40) ∧ nb k_ (.slice Ao50 y1127.length co50))) (upR' (Kd.R_mono HO1103.out (fun _ hk => ⟨⟨hk.1.1.1, ⟨hk.1.1.2, hk.1.2⟩⟩, hk.2⟩))) hg hat); have n3_ := Q0_ (Kd.R_after (ok := (fun k_ => nb k_ (.slice Ao28 t1101.length co28) ∧ nb k_ (.slice Ao40 y1115.length co40) ∧ nb k_ (.slice Ao50 y1127.length co50))) (upR' (Kd.R_mono HO1107.out (fun _ hk => ⟨⟨hk.1.1.1, ⟨hk.1.1.2, hk.1.2⟩⟩, hk.2⟩))) hg hat); have n4_ := Q0_ (Kd.R_after (ok := (fun k_ => nb k_ (.slice Ao28 t1101.length co28) ∧ nb k_ (.slice (some ad1118) t1104.length co33) ∧ nb k_ (.slice Ao50 y1127.length co50))) (upR' (Kd.R_mono HO1117.out (fun _ hk => ⟨⟨hk.1.1.1, ⟨hk.1.1.2, hk.1.2⟩⟩, hk.2⟩))) hg hat); have n5_ := Q0_ (blk_grown (g := gb1119) (o := .cells #[.slice Ao40 y1115.length co40, .int .i64 ((rd_T25 t1104 (l0_0.length : Int)).f0), .bool ((rd_T25 t1104 (l0_0.length : Int)).f1), .slice Ao50 y1127.length co50, .slice none 0 0] 27 (0, 0)) (upK BK1119) hg (Kd.R_ne HO1132.out BK1119.out (by decide))); have n6_ := Q0_ (Kd.R_after (ok := (fun k_ => nb k_ (.slice Ao28 t1101.length co28) ∧ nb k_ (.slice (some ad1118) t1104.length co33) ∧ nb k_ (.slice Ao40 y1115.length co40))) (upR HO1129) hg hat); have n7_ := Q0_ (hb); have n8_ := Q0_ ((show Kd.C k25 w57 A48 y1123.length y1123 from by rw [Ny1123.out, KA48.out]; exact Kd.C_mid (lo := ((ji12) : Int).toNat) (hi := ((ji17) : Int).toNat) (c := co33) ((Kd.R_reads' (Kd.R_after (ok := (fun k_ => nb k_ (.slice Ao28 t1101.length co28) ∧ nb k_ (.slice Ao40 y1115.length co40) ∧ nb k_ (.slice Ao50 y1127.length co50))) (upR' (Kd.R_mono HO1107.out (fun _ hk => ⟨⟨hk.1.1.1, ⟨hk.1.1.2, hk.1.2⟩⟩, hk.2⟩))) hg hat)).2.2) KM48.out KL48.out ((Kd.R_reads' (Kd.R_after (ok := (fun k_ => nb k_ (.slice Ao28 t1101.length co28) ∧ nb k_ (.slice Ao40 y1115.length co40) ∧ nb k_ (.slice Ao50 y1127.length co50))) (upR' (Kd.R_mono HO1107.out (fun _ hk => ⟨⟨hk.1.1.1, ⟨hk.1.1.2, hk.1.2⟩⟩, hk.2⟩))) hg hat)).2.1))); have n9_ := Q0_ ((show Kd.C k25 w57 A56 y1133.length y1133 from by rw [Ny1133.out, KA56.out]; exact Kd.C_drop (m := ((ji17) : Int).toNat) (c := co33) ((Kd.R_reads' (Kd.R_after (ok := (fun k_ => nb k_ (.slice Ao28 t1101.length co28) ∧ nb k_ (.slice Ao40 y1115.length co40) ∧ nb k_ (.slice Ao50 y1127.length co50))) (upR' (Kd.R_mono HO1107.out (fun _ hk => ⟨⟨hk.1.1.1, ⟨hk.1.1.2, hk.1.2⟩⟩, hk.2⟩))) hg hat)).2.2) KL56.out ((Kd.R_reads' (Kd.R_after (ok := (fun k_ => nb k_ (.slice Ao28 t1101.length co28) ∧ nb k_ (.slice Ao40 y1115.length co40) ∧ nb k_ (.slice Ao50 y1127.length co50))) (upR' (Kd.R_mono HO1107.out (fun _ hk => ⟨⟨hk.1.1.1, ⟨hk.1.1.2, hk.1.2⟩⟩, hk.2⟩))) hg hat)).2.1))); have n10_ := Q0_ (ho); clear BK1098 BK1099 HO1103 HO1107 HO1117 BK1119 HO1129 HB HR1126 HR1136 HO1132; revert n0_ n1_ n2_ n3_ n4_ n5_ n6_ n7_ n8_ n9_ n10_; intro BK1098 BK1099 HO1103 HO1107 HO1117 BK1119 HO1129 HB HR1126 HR1136 HO1139; clear ho hb hg hat; obtain ⟨Ao58, co58, eo58⟩ := Kd.R_slice HO1139.out; subst eo58; have hcz59_0 : w57.cell? ⟨gb1119, 0, none⟩ = some (.slice Ao40 y1115.length co40) := (blk_cell BK1119.out 0).trans rfl; have hcz59_1 : w57.cell? ⟨gb1119, 1, none⟩ = some (.int .i64 ((rd_T25 t1104 (l0_0.length : Int)).f0)) := (blk_cell BK1119.out 1).trans rfl; have hcz59_2 : w57.cell? ⟨gb1119, 2, none⟩ = some (.bool ((rd_T25 t1104 (l0_0.length : Int)).f1)) := (blk_cell BK1119.out 2).trans rfl; have hcz59_3 : w57.cell? ⟨gb1119, 3, none⟩ = some (.slice Ao50 y1127.length co50) := (blk_cell BK1119.out 3).trans rfl; have hcz59_4 : w57.cell? ⟨gb1119, 4, none⟩ = some (.slice none 0 0) := (blk_cell BK1119.out 4).trans rfl; have hfz59_0 := blk_frozen BK1119.out 0; have hfz59_1 := blk_frozen BK1119.out 1; have hfz59_2 := blk_frozen BK1119.out 2; have hfz59_3 := blk_frozen BK1119.out 3; have hfz59_4 := blk_frozen BK1119.out 4; have hcz60_0 : w57.cell? ⟨gb1099, 0, none⟩ = some (.slice none 0 0) := (blk_cell BK1099.out 0).trans rfl; have hcz60_1 : w57.cell? ⟨gb1099, 1, none⟩ = some (.int .i64 0) := (blk_cell BK1099.out 1).trans rfl; have hcz60_2 : w57.cell? ⟨gb1099, 2, none⟩ = some (.bool false) := (blk_cell BK1099.out 2).trans rfl; have hcz60_3 : w57.cell? ⟨gb1099, 3, none⟩ = some (.slice none 0 0) := (blk_cell BK1099.out 3).trans rfl; have hcz60_4 : w57.cell? ⟨gb1099, 4, none⟩ = some (.slice none 0 0) := (blk_cell BK1099.out 4).trans rfl; have hfz60_0 := blk_frozen BK1099.out 0; have hfz60_1 := blk_frozen BK1099.out 1; have hfz60_2 := blk_frozen BK1099.out 2; have hfz60_3 := blk_frozen BK1099.out 3; have hfz60_4 := blk_frozen BK1099.out 4))
 refine bodyPost_ret (results_ct rfl _ _ gb1099 27 #[.slice Ao40 y1115.length co40, .int .i64 ((rd_T25 t1104 (l0_0.length : Int)).f0), .bool ((rd_T25 t1104 (l0_0.length : Int)).f1), .slice Ao50 y1127.length co50, .slice Ao58 y1137.length co58] (0, 0) _ rfl (by (repeat refine blk_q ?_); refine blk_put (cs := #[.slice Ao40 y1115.length co40, .int .i64 ((rd_T25 t1104 (l0_0.length : Int)).f0), .bool ((rd_T25 t1104 (l0_0.length : Int)).f1), .slice Ao50 y1127.length co50, .slice none 0 0]) ?_ 4 _ rfl; (repeat refine blk_q ?_); refine blk_put (cs := #[.slice Ao40 y1115.length co40, .int .i64 ((rd_T25 t1104 (l0_0.length : Int)).f0), .bool ((rd_T25 t1104 (l0_0.length : Int)).f1), .slice none 0 0, .slice none 0 0]) ?_ 3 _ rfl; (repeat refine blk_q ?_); refine blk_put (cs := #[.slice Ao40 y1115.length co40, .int .i64 ((rd_T25 t1104 (l0_0.length : Int)).f0), .bool false, .slice none 0 0, .slice none 0 0]) ?_ 2 _ rfl; (repeat refine blk_q ?_); refine blk_put (cs := #[.slice Ao40 y1115.length co40, .int .i64 0, .bool false, .slice none 0 0, .slice none 0 0]) ?_ 1 _ rfl; (repeat refine blk_q ?_); refine blk_put (cs := #[.slice none 0 0, .int .i64 0, .bool false, .slice none 0 0, .slice none 0 0]) ?_ 0 _ rfl; (repeat refine blk_q ?_); refine blk_far ?_ NB1099_1119.out _; (repeat refine blk_q ?_); exact BK1099.out) Tryd.underlying27 rfl (by kernel_rfl)) rfl ?_
 exact ⟨_, _, _, by first | rfl | (simp [errW_none, errW_some] <;> rfl) | (simp only [← hji12, ← hji17]; first | rfl | (simp [errW_none, errW_some] <;> rfl)) | (simp [*, errW_none, errW_some] <;> rfl), by (repeat refine R_q ?_); exact Kd.R_mono (Kd.R_far (p := ⟨gb1099, 4, none⟩) (Kd.R_far (p := ⟨gb1099, 3, none⟩) (Kd.R_far (p := ⟨gb1099, 2, none⟩) (Kd.R_far (p := ⟨gb1099, 1, none⟩) (Kd.R_far (p := ⟨gb1099, 0, none⟩) (Kd.R_far (p := ⟨gb1119, 4, none⟩) (Kd.R_types (Kd.R_types HO1117.out BK1119.out (by decide)) BK1099.out (by decide)) (fun _ hk => hk.1.2) (.slice Ao58 y1137.length co58)) (fun _ hk => hk.2) (.slice Ao40 y1115.length co40)) (fun _ hk => hk.2) (.int .i64 ((rd_T25 t1104 (l0_0.length : Int)).f0))) (fun _ hk => hk.2) (.bool ((rd_T25 t1104 (l0_0.length : Int)).f1))) (fun _ hk => hk.2) (.slice Ao50 y1127.length co50)) (fun _ hk => hk.2) (.slice Ao58 y1137.length co58)) (fun _ hk => ⟨hk.1.1.1.2.2, hk.1.1.2⟩), by (repeat refine R_q ?_); exact Kd.R_mono (Kd.R_far (p := ⟨gb1099, 4, none⟩) (Kd.R_far (p := ⟨gb1099, 3, none⟩) (Kd.R_far (p := ⟨gb1099, 2, none⟩) (Kd.R_far (p := ⟨gb1099, 1, none⟩) (Kd.R_far (p := ⟨gb1099, 0, none⟩) (Kd.R_far (p := ⟨gb1119, 4, none⟩) (Kd.R_types (Kd.R_types HO1129.out BK1119.out (by decide)) BK1099.out (by decide)) (fun _ hk => hk.1.2) (.slice Ao58 y1137.length co58)) (fun _ hk => hk.2) (.slice Ao40 y1115.length co40)) (fun _ hk => hk.2) (.int .i64 ((rd_T25 t1104 (l0_0.length : Int)).f0))) (fun _ hk => hk.2) (.bool ((rd_T25 t1104 (l0_0.length : Int)).f1))) (fun _ hk => hk.2) (.slice Ao50 y1127.length co50)) (fun _ hk => hk.2) (.slice Ao58 y1137.length co58)) (fun _ hk => ⟨hk.1.1.1.2.2, hk.1.1.2⟩), by (repeat refine R_q ?_); exact Kd.R_mono (Kd.R_far (p := ⟨gb1099, 4, none⟩) (Kd.R_far (p := ⟨gb1099, 3, none⟩) (Kd.R_far (p := ⟨gb1099, 2, none⟩) (Kd.R_far (p := ⟨gb1099, 1, none⟩) (Kd.R_far (p := ⟨gb1099, 0, none⟩) (Kd.R_far (p := ⟨gb1119, 4, none⟩) (Kd.R_types (Kd.R_types HO1139.out BK1119.out (by decide)) BK1099.out (by decide)) (fun _ hk => hk.1.2) (.slice Ao58 y1137.length co58)) (fun _ hk => hk.2) (.slice Ao40 y1115.length co40)) (fun _ hk => hk.2) (.int .i64 ((rd_T25 t1104 (l0_0.length : Int)).f0))) (fun _ hk => hk.2) (.bool ((rd_T25 t1104 (l0_0.length : Int)).f1))) (fun _ hk => hk.2) (.slice Ao50 y1127.length co50)) (fun _ hk => hk.2) (.slice Ao58 y1137.length co58)) (fun _ hk => ⟨hk.1.1.2.2.1, hk.1.1.2.2.2⟩), by repeat (first | (with_reducible first | exact HB.out | apply below_alloc | apply pw_below_drewN | apply below_drew1 | refine below_set ?_ GE1098.out | refine below_set ?_ GE1099.out | refine below_set ?_ GE1119.out) | exact HB.out)⟩
theorem eqA25 (d : Nat) (w : World) (x0 y0 : Int) (x1 y1 : Bool) :
  (Op.equalIn (d + 2) 25 (.agg #[.int .i64 x0, .bool x1]) (.agg #[.int .i64 y0, .bool y1])).run Tryd.prog w = .ok (x0 == y0 && (x1 == y1)) w := by
 refine eqA_of Tryd.underlying25 (by kernel_rfl) ?_
 refine eqf_cons (by rfl) (by go_simp; rfl) (by go_simp; rfl) (by go_simp) ?_
 exact eqf_last (by rfl) (by go_simp; rfl) (by go_simp; rfl) (by go_simp)
end Go.Proofs.YtdgmkfbmeaalpaaDoor.E
end
section
namespace Go.Proofs.YtdgmkfbmeaalpaaDoor.E
open Go.RowKit Go.Proofs.YtdgmkfbmeaalpaaDoorW.PrintWords Go.Proofs.YtdgmkfbmeaalpaaDoorW.PrintLast Go.Proofs.YtdgmkfbmeaalpaaDoorW.PrintMore
attribute [local go_sem] max2_int min2_int max_two min_two max_three min_three max_four min_four
set_option linter.unusedVariables false
set_option linter.unusedSimpArgs false
attribute [local go_sem high] eqA25
attribute [local go_sem] str_leq_ str_gtr_ str_geq_
def laws_sameTones.l0 : Nat → List (S25) → List (S25) → Int → Option (Bool)
 | 0, _, _, _ => none
 | k + 1, x0, x1, x5 => if x5 < (x0.length : Int) then (if 0 ≤ x5 then (if x5 < (x1.length : Int) then (if (!(((rd_T25 x0 x5).f0) == ((rd_T25 x1 x5).f0)) || (!(((rd_T25 x0 x5).f1) == ((rd_T25 x1 x5).f1)))) = true then (some false) else (laws_sameTones.l0 k x0 x1 (wrap64 (x5 + 1)))) else (none)) else (none)) else (some true)
def laws_sameTones.f (k : Nat) (l0 : List (S25)) (l1 : List (S25)) : Option (Bool) := if (l0.length : Int) = (l1.length : Int) then (laws_sameTones.l0 k l0 l1 0) else (some false)
set_option maxHeartbeats 8000000 in
set_option maxRecDepth 100000 in
theorem laws_sameTones.calls (k : Nat) (A0 : Option Addr) (c0 : Nat) (l0 : List (S25)) (A1 : Option Addr) (c1 : Nat) (l1 : List (S25)) (r : Bool) (w : World) (hr0 : Kd.C k25 w A0 l0.length l0) (hc0 : l0.length ≤ c0) (hr1 : Kd.C k25 w A1 l1.length l1) (hc1 : l1.length ≤ c1) (h : laws_sameTones.f k l0 l1 = some r) :
  Calls Tryd.prog 32 #[.slice A0 l0.length c0, .slice A1 l1.length c1] w fun e w' => e = .returned (.bool r) ∧ Drawn0 w w' := by
 have hu25 := Tryd.underlying25
 have HR0 := Aside0.mk hr0
 have HC0 := Aside0.mk hc0
 clear hr0 hc0
 have HR1 := Aside0.mk hr1
 have HC1 := Aside0.mk hc1
 clear hr1 hc1
 have H : (if (l0.length : Int) = (l1.length : Int) then (laws_sameTones.l0 k l0 l1 0) else (some false)) = some r := h
 clear h
 by_cases c3 : (l0.length : Int) = (l1.length : Int)
 rotate_left
 ·rw [if_neg c3] at H
  have c3b0 : ((l0.length : Int) == (l1.length : Int)) = false := beq_eq_false_iff_ne.mpr c3
  have c3b1 : ((l0.length : Int) != (l1.length : Int)) = true := bne_iff_ne.mpr c3
  have c3b2 : (l0.length == l1.length) = false := by first | simpa using c3 | (simp at c3 ⊢; omega)
  obtain rfl := Option.some.inj H
  go_enter Tryd.func32, Tryd.ntmps32
  go_wp2
  repeat (go_quiet (fail); try go_wp2)
  go_ret
  exact ⟨by first | rfl | (simp; done) | (simp [*]; done), by repeat (first | exact Drawn0.refl _ | apply Drawn0.step)⟩
 rw [if_pos c3] at H
 have c3b0 : ((l0.length : Int) == (l1.length : Int)) = true := beq_iff_eq.mpr c3
 have c3b1 : ((l0.length : Int) != (l1.length : Int)) = false := bne_eq_false_iff_eq.mpr c3
 have c3b2 : (l0.length == l1.length) = true := by first | simpa using c3 | (simp at c3 ⊢; omega)
 clear c3
 have H' := Aside0.mk H
 clear H
 go_enter Tryd.func32, Tryd.ntmps32
 go_wp2
 repeat (go_quiet (fail); try go_wp2)
 go_loopg [5] k (fun kq v5 w' => ∃ (x5_1 : Int), v5 = .int .i64 x5_1 ∧ Aside0 (laws_sameTones.l0 kq l0 l1 x5_1 = some r) ∧ Aside0 (kq ≤ k) ∧ Drawn0 w w')
 case atStart => exact ⟨(0), eX, H', ⟨Nat.le_refl _⟩, by repeat (first | exact Drawn0.refl _ | apply Drawn0.step)⟩
 case round =>
  clear H'
  try clear c1
  try clear p2
  try clear c3
  try clear c3b0
  try clear c3b1
  try clear c3b2
  obtain ⟨x5_1, rfl, HA, HK1, ⟨m1, rfl⟩⟩ := hrel
  cases gk with
  | zero => exact absurd HA.out (by simp [laws_sameTones.l0])
  | succ k1 =>
   have H := HA.out
   clear HA
   simp only [laws_sameTones.l0] at H
   by_cases c4 : x5_1 < (l0.length : Int)
   rotate_left
   ·rw [if_neg c4] at H
    have c4b0 : decide (x5_1 < (l0.length : Int)) = false := decide_eq_false c4
    clear c4
    obtain rfl := Option.some.inj H
    go_wp2
    repeat (go_quiet (fail); try go_wp2)
    go_ret
    exact ⟨by first | rfl | (simp; done) | (simp [*]; done), by repeat (first | exact Drawn0.refl _ | apply Drawn0.step)⟩
   rw [if_pos c4] at H
   have c4b0 : decide (x5_1 < (l0.length : Int)) = true := decide_eq_true c4
   clear c4
   by_cases c5 : 0 ≤ x5_1
   rotate_left
   ·rw [if_neg c5] at H
    exact absurd H (by simp)
   rw [if_pos c5] at H
   have c5b0 : decide (0 ≤ x5_1) = true := decide_eq_true c5
   clear c5
   by_cases c6 : x5_1 < (l1.length : Int)
   rotate_left
   ·rw [if_neg c6] at H
    exact absurd H (by simp)
   rw [if_pos c6] at H
   have c6b0 : decide (x5_1 < (l1.length : Int)) = true := decide_eq_true c6
   clear c6
   by_cases c7 : (!(((rd_T25 l0 x5_1).f0) == ((rd_T25 l1 x5_1).f0)) || (!(((rd_T25 l0 x5_1).f1) == ((rd_T25 l1 x5_1).f1)))) = true
   ·rw [if_pos c7] at H
    have c7b0 : (!(((rd_T25 l0 x5_1).f0) == ((rd_T25 l1 x5_1).f0)) || (!(((rd_T25 l0 x5_1).f1) == ((rd_T25 l1 x5_1).f1)))) = true := c7
    clear c7
    obtain rfl := Option.some.inj H
    have p517 : 0 ≤ (x5_1 : Int) := of_decide_eq_true aS
    have q517 : x5_1 < (l0.length : Int) := of_decide_eq_true aS
    obtain ⟨ad517, e517, hx517_0, hx517_1⟩ := at_T25 HR0.out x5_1 p517 q517
    cases e517
    replace p517 := eq_true p517
    replace q517 := eq_true q517
    have p518 : 0 ≤ (x5_1 : Int) := of_decide_eq_true aS
    have q518 : x5_1 < (l1.length : Int) := of_decide_eq_true aS
    obtain ⟨ad518, e518, hx518_0, hx518_1⟩ := at_T25 HR1.out x5_1 p518 q518
    cases e518
    replace p518 := eq_true p518
    replace q518 := eq_true q518
    go_wp2
    repeat (go_quiet (fail); try go_wp2)
    go_ret
    exact ⟨by first | rfl | (simp; done) | (simp [*]; done), by repeat (first | exact Drawn0.refl _ | apply Drawn0.step)⟩
   rw [if_neg c7] at H
   have c7b0 : (!(((rd_T25 l0 x5_1).f0) == ((rd_T25 l1 x5_1).f0)) || (!(((rd_T25 l0 x5_1).f1) == ((rd_T25 l1 x5_1).f1)))) = false := by simpa using c7
   clear c7
   have H' := Aside0.mk H
   clear H
   have p517 : 0 ≤ (x5_1 : Int) := of_decide_eq_true aS
   have q517 : x5_1 < (l0.length : Int) := of_decide_eq_true aS
   obtain ⟨ad517, e517, hx517_0, hx517_1⟩ := at_T25 HR0.out x5_1 p517 q517
   cases e517
   replace p517 := eq_true p517
   replace q517 := eq_true q517
   have p518 : 0 ≤ (x5_1 : Int) := of_decide_eq_true aS
   have q518 : x5_1 < (l1.length : Int) := of_decide_eq_true aS
   obtain ⟨ad518, e518, hx518_0, hx518_1⟩ := at_T25 HR1.out x5_1 p518 q518
   cases e518
   replace p518 := eq_true p518
   replace q518 := eq_true q518
   go_wp2
   repeat (go_quiet (fail); try go_wp2)
   go_roundg k1
   case measure => have := HK1.out; omega
   case rel => exact ⟨(wrap64 (x5_1 + 1)), eX, H', ⟨by have := HK1.out; omega⟩, by repeat (first | exact Drawn0.refl _ | apply Drawn0.step)⟩
def laws_samePsalm.f (k : Nat) (l0_0 : List (S25)) (a0_1 : Int) (a0_2 : Bool) (l0_3 : List (S25)) (l0_4 : List (S25)) (l1_0 : List (S25)) (a1_1 : Int) (a1_2 : Bool) (l1_3 : List (S25)) (l1_4 : List (S25)) : Option (Bool) := (laws_sameTones.f k l0_0 l1_0).bind fun t1142 => (if t1142 = true then (if (a0_1 == a1_1 && (a0_2 == a1_2)) = true then ((laws_sameTones.f k l0_3 l1_3).bind fun t1143 => (if t1143 = true then ((laws_sameTones.f k l0_4 l1_4).bind fun t1144 => (some t1144)) else (some false))) else (some false)) else (some false))
set_option maxHeartbeats 8000000 in
set_option maxRecDepth 100000 in
theorem laws_samePsalm.calls (k : Nat) (A0_0 : Option Addr) (c0_0 : Nat) (l0_0 : List (S25)) (a0_1 : Int) (a0_2 : Bool) (A0_3 : Option Addr) (c0_3 : Nat) (l0_3 : List (S25)) (A0_4 : Option Addr) (c0_4 : Nat) (l0_4 : List (S25)) (A1_0 : Option Addr) (c1_0 : Nat) (l1_0 : List (S25)) (a1_1 : Int) (a1_2 : Bool) (A1_3 : Option Addr) (c1_3 : Nat) (l1_3 : List (S25)) (A1_4 : Option Addr) (c1_4 : Nat) (l1_4 : List (S25)) (r : Bool) (w : World) (hr0_0 : Kd.C k25 w A0_0 l0_0.length l0_0) (hc0_0 : l0_0.length ≤ c0_0) (hr0_3 : Kd.C k25 w A0_3 l0_3.length l0_3) (hc0_3 : l0_3.length ≤ c0_3) (hr0_4 : Kd.C k25 w A0_4 l0_4.length l0_4) (hc0_4 : l0_4.length ≤ c0_4) (hr1_0 : Kd.C k25 w A1_0 l1_0.length l1_0) (hc1_0 : l1_0.length ≤ c1_0) (hr1_3 : Kd.C k25 w A1_3 l1_3.length l1_3) (hc1_3 : l1_3.length ≤ c1_3) (hr1_4 : Kd.C k25 w A1_4 l1_4.length l1_4) (hc1_4 : l1_4.length ≤ c1_4) (h : laws_samePsalm.f k l0_0 a0_1 a0_2 l0_3 l0_4 l1_0 a1_1 a1_2 l1_3 l1_4 = some r) :
  Calls Tryd.prog 54 #[.agg #[.slice A0_0 l0_0.length c0_0, .int .i64 a0_1, .bool a0_2, .slice A0_3 l0_3.length c0_3, .slice A0_4 l0_4.length c0_4], .agg #[.slice A1_0 l1_0.length c1_0, .int .i64 a1_1, .bool a1_2, .slice A1_3 l1_3.length c1_3, .slice A1_4 l1_4.length c1_4]] w fun e w' => e = .returned (.bool r) ∧ Below w.heap.size w w' := by
 have hu27 := Tryd.underlying27
 have hu25 := Tryd.underlying25
 have HR0_0 := Aside0.mk hr0_0
 have HC0_0 := Aside0.mk hc0_0
 clear hr0_0 hc0_0
 have HR0_3 := Aside0.mk hr0_3
 have HC0_3 := Aside0.mk hc0_3
 clear hr0_3 hc0_3
 have HR0_4 := Aside0.mk hr0_4
 have HC0_4 := Aside0.mk hc0_4
 clear hr0_4 hc0_4
 have HR1_0 := Aside0.mk hr1_0
 have HC1_0 := Aside0.mk hc1_0
 clear hr1_0 hc1_0
 have HR1_3 := Aside0.mk hr1_3
 have HC1_3 := Aside0.mk hc1_3
 clear hr1_3 hc1_3
 have HR1_4 := Aside0.mk hr1_4
 have HC1_4 := Aside0.mk hc1_4
 clear hr1_4 hc1_4
 have HB := Q0_ (Below.refl w.heap.size w)
 have H : ((laws_sameTones.f k l0_0 l1_0).bind fun t1142 => (if t1142 = true then (if (a0_1 == a1_1 && (a0_2 == a1_2)) = true then ((laws_sameTones.f k l0_3 l1_3).bind fun t1143 => (if t1143 = true then ((laws_sameTones.f k l0_4 l1_4).bind fun t1144 => (some t1144)) else (some false))) else (some false)) else (some false))) = some r := h
 clear h
 obtain ⟨t1142, A30, H⟩ := Option.bind_eq_some_iff.mp H
 try dsimp only at H
 have A3 := Aside0.mk A30
 clear A30
 by_cases c4 : t1142 = true
 rotate_left
 ·replace c4 := Bool.eq_false_iff.mpr c4
  subst c4
  replace H := ifN ((show ¬ (false = true) by decide)) H
  obtain rfl := Option.some.inj H
  go_enter Tryd.func54, Tryd.ntmps54
  go_wp2_with (first | ((with_reducible refine gate_dst (N := 2) rfl ?_); refine box_event ?hg (N := 2) ?hd (cs := #[.slice A0_0 l0_0.length c0_0, .int .i64 a0_1, .bool a0_2, .slice A0_3 l0_3.length c0_3, .slice A0_4 l0_4.length c0_4]) (t := 27) ?hr ?_; (case hd => rfl); (case hg => rfl); (case hr => first | (go_simp; done) | (go_simp; rfl)); intro gb1140 hg w24 hbox hb; have n0_ := Q0_ (below_step (upB HB) hb); have n1_ := Q0_ (hbox); have n2_ := Q0_ ((by rw [hg]; exact (below_size (upB HB)) : w.heap.size ≤ gb1140)); have n3_ := Q0_ ((by rw [hg]; exact (below_size (upB HB)) : w.heap.size ≤ gb1140)); clear HB; revert n0_ n1_ n2_ n3_; intro HB BK1140 GW1140 GE1140; clear hb hbox hg) | ((with_reducible refine gate_dst (N := 3) rfl ?_); refine box_event ?hg (N := 3) ?hd (cs := #[.slice A1_0 l1_0.length c1_0, .int .i64 a1_1, .bool a1_2, .slice A1_3 l1_3.length c1_3, .slice A1_4 l1_4.length c1_4]) (t := 27) ?hr ?_; (case hd => rfl); (case hg => rfl); (case hr => first | (go_simp; done) | (go_simp; rfl)); intro gb1141 hg w25 hbox hb; have n0_ := Q0_ (blk_below (upK BK1140) hb); have n1_ := Q0_ (below_step upH hb); have n2_ := Q0_ (hbox); have n3_ := Q0_ ((by rw [hg]; exact (below_size upH) : w.heap.size ≤ gb1141)); have n4_ := Q0_ ((by rw [hg]; exact (below_size upH) : w.heap.size ≤ gb1141)); have n5_ := Q0_ ((by rw [hg]; exact Nat.ne_of_lt (blk_lt (upK BK1140)) : gb1140 ≠ gb1141)); have n6_ := Q0_ ((by rw [hg]; exact Nat.ne_of_gt (blk_lt (upK BK1140)) : gb1141 ≠ gb1140)); clear BK1140 HB; revert n0_ n1_ n2_ n3_ n4_ n5_ n6_; intro BK1140 HB BK1141 GW1141 GE1141 NB1140_1141 NB1141_1140; clear hb hbox hg; have hnb26 := NB1140_1141.out; have hnc26 := NB1141_1140.out; have hcz27_0 : w25.cell? ⟨gb1140, 0, none⟩ = some (.slice A0_0 l0_0.length c0_0) := (blk_cell BK1140.out 0).trans rfl; have hcz27_1 : w25.cell? ⟨gb1140, 1, none⟩ = some (.int .i64 a0_1) := (blk_cell BK1140.out 1).trans rfl; have hcz27_2 : w25.cell? ⟨gb1140, 2, none⟩ = some (.bool a0_2) := (blk_cell BK1140.out 2).trans rfl; have hcz27_3 : w25.cell? ⟨gb1140, 3, none⟩ = some (.slice A0_3 l0_3.length c0_3) := (blk_cell BK1140.out 3).trans rfl; have hcz27_4 : w25.cell? ⟨gb1140, 4, none⟩ = some (.slice A0_4 l0_4.length c0_4) := (blk_cell BK1140.out 4).trans rfl; have hfz27_0 := blk_frozen BK1140.out 0; have hfz27_1 := blk_frozen BK1140.out 1; have hfz27_2 := blk_frozen BK1140.out 2; have hfz27_3 := blk_frozen BK1140.out 3; have hfz27_4 := blk_frozen BK1140.out 4; have hcz28_0 : w25.cell? ⟨gb1141, 0, none⟩ = some (.slice A1_0 l1_0.length c1_0) := (blk_cell BK1141.out 0).trans rfl; have hcz28_1 : w25.cell? ⟨gb1141, 1, none⟩ = some (.int .i64 a1_1) := (blk_cell BK1141.out 1).trans rfl; have hcz28_2 : w25.cell? ⟨gb1141, 2, none⟩ = some (.bool a1_2) := (blk_cell BK1141.out 2).trans rfl; have hcz28_3 : w25.cell? ⟨gb1141, 3, none⟩ = some (.slice A1_3 l1_3.length c1_3) := (blk_cell BK1141.out 3).trans rfl; have hcz28_4 : w25.cell? ⟨gb1141, 4, none⟩ = some (.slice A1_4 l1_4.length c1_4) := (blk_cell BK1141.out 4).trans rfl; have hfz28_0 := blk_frozen BK1141.out 0; have hfz28_1 := blk_frozen BK1141.out 1; have hfz28_2 := blk_frozen BK1141.out 2; have hfz28_3 := blk_frozen BK1141.out 3; have hfz28_4 := blk_frozen BK1141.out 4) | ((with_reducible refine gate_callee (f := 32) rfl ?_); refine goesL_ (some 9) rfl rfl Tryd.func32 (by kernel_rfl) rfl #[.slice A0_0 l0_0.length c0_0, .slice A1_0 l1_0.length c1_0] rfl hM ?_; (with_reducible refine (laws_sameTones.calls k _ _ l0_0 _ _ l1_0 false _ ?side1 ?side2 ?side3 ?side4 A3.out).mono ?_); (case side1 => repeat (first | exact (Kd.C_below HR0_0.out HB.out) | refine C_q ?_)); (case side2 => exact HC0_0.out); (case side3 => repeat (first | exact (Kd.C_below HR1_0.out HB.out) | refine C_q ?_)); (case side4 => exact HC1_0.out); rintro e w' ⟨rfl, ⟨nd, rfl⟩⟩; refine ⟨_, rfl, ?_⟩))
  go_ret
  exact ⟨by first | rfl | (simp [errW_none, errW_some] <;> rfl) | (simp [*, errW_none, errW_some] <;> rfl), by repeat (first | (with_reducible first | exact HB.out | apply below_alloc | apply pw_below_drewN | apply below_drew1 | refine below_set ?_ GE1140.out | refine below_set ?_ GE1141.out) | exact HB.out)⟩
 subst c4
 replace H := ifP (rfl) H
 by_cases c5 : (a0_1 == a1_1 && (a0_2 == a1_2)) = true
 rotate_left
 ·rw [if_neg c5] at H
  have c5b0 : (a0_1 == a1_1 && (a0_2 == a1_2)) = false := by simpa using c5
  (try (have c5b1 : decide (a0_1 = a1_1 && (a0_2 == a1_2)) = false := by simpa using c5))
  (try (have c5b2 : (a0_1 == a1_1 && (a0_2 == a1_2)) = false := by simpa using c5))
  (try (have c5b3 : ¬ (a0_1 = a1_1 && (a0_2 == a1_2)) := by simpa using c5))
  clear c5
  obtain rfl := Option.some.inj H
  go_enter Tryd.func54, Tryd.ntmps54
  go_wp2_with (first | ((with_reducible refine gate_dst (N := 2) rfl ?_); refine box_event ?hg (N := 2) ?hd (cs := #[.slice A0_0 l0_0.length c0_0, .int .i64 a0_1, .bool a0_2, .slice A0_3 l0_3.length c0_3, .slice A0_4 l0_4.length c0_4]) (t := 27) ?hr ?_; (case hd => rfl); (case hg => rfl); (case hr => first | (go_simp; done) | (go_simp; rfl)); intro gb1140 hg w19 hbox hb; have n0_ := Q0_ (below_step (upB HB) hb); have n1_ := Q0_ (hbox); have n2_ := Q0_ ((by rw [hg]; exact (below_size (upB HB)) : w.heap.size ≤ gb1140)); have n3_ := Q0_ ((by rw [hg]; exact (below_size (upB HB)) : w.heap.size ≤ gb1140)); clear HB; revert n0_ n1_ n2_ n3_; intro HB BK1140 GW1140 GE1140; clear hb hbox hg) | ((with_reducible refine gate_dst (N := 3) rfl ?_); refine box_event ?hg (N := 3) ?hd (cs := #[.slice A1_0 l1_0.length c1_0, .int .i64 a1_1, .bool a1_2, .slice A1_3 l1_3.length c1_3, .slice A1_4 l1_4.length c1_4]) (t := 27) ?hr ?_; (case hd => rfl); (case hg => rfl); (case hr => first | (go_simp; done) | (go_simp; rfl)); intro gb1141 hg w20 hbox hb; have n0_ := Q0_ (blk_below (upK BK1140) hb); have n1_ := Q0_ (below_step upH hb); have n2_ := Q0_ (hbox); have n3_ := Q0_ ((by rw [hg]; exact (below_size upH) : w.heap.size ≤ gb1141)); have n4_ := Q0_ ((by rw [hg]; exact (below_size upH) : w.heap.size ≤ gb1141)); have n5_ := Q0_ ((by rw [hg]; exact Nat.ne_of_lt (blk_lt (upK BK1140)) : gb1140 ≠ gb1141)); have n6_ := Q0_ ((by rw [hg]; exact Nat.ne_of_gt (blk_lt (upK BK1140)) : gb1141 ≠ gb1140)); clear BK1140 HB; revert n0_ n1_ n2_ n3_ n4_ n5_ n6_; intro BK1140 HB BK1141 GW1141 GE1141 NB1140_1141 NB1141_1140; clear hb hbox hg; have hnb21 := NB1140_1141.out; have hnc21 := NB1141_1140.out; have hcz22_0 : w20.cell? ⟨gb1140, 0, none⟩ = some (.slice A0_0 l0_0.length c0_0) := (blk_cell BK1140.out 0).trans rfl; have hcz22_1 : w20.cell? ⟨gb1140, 1, none⟩ = some (.int .i64 a0_1) := (blk_cell BK1140.out 1).trans rfl; have hcz22_2 : w20.cell? ⟨gb1140, 2, none⟩ = some (.bool a0_2) := (blk_cell BK1140.out 2).trans rfl; have hcz22_3 : w20.cell? ⟨gb1140, 3, none⟩ = some (.slice A0_3 l0_3.length c0_3) := (blk_cell BK1140.out 3).trans rfl; have hcz22_4 : w20.cell? ⟨gb1140, 4, none⟩ = some (.slice A0_4 l0_4.length c0_4) := (blk_cell BK1140.out 4).trans rfl; have hfz22_0 := blk_frozen BK1140.out 0; have hfz22_1 := blk_frozen BK1140.out 1; have hfz22_2 := blk_frozen BK1140.out 2; have hfz22_3 := blk_frozen BK1140.out 3; have hfz22_4 := blk_frozen BK1140.out 4; have hcz23_0 : w20.cell? ⟨gb1141, 0, none⟩ = some (.slice A1_0 l1_0.length c1_0) := (blk_cell BK1141.out 0).trans rfl; have hcz23_1 : w20.cell? ⟨gb1141, 1, none⟩ = some (.int .i64 a1_1) := (blk_cell BK1141.out 1).trans rfl; have hcz23_2 : w20.cell? ⟨gb1141, 2, none⟩ = some (.bool a1_2) := (blk_cell BK1141.out 2).trans rfl; have hcz23_3 : w20.cell? ⟨gb1141, 3, none⟩ = some (.slice A1_3 l1_3.length c1_3) := (blk_cell BK1141.out 3).trans rfl; have hcz23_4 : w20.cell? ⟨gb1141, 4, none⟩ = some (.slice A1_4 l1_4.length c1_4) := (blk_cell BK1141.out 4).trans rfl; have hfz23_0 := blk_frozen BK1141.out 0; have hfz23_1 := blk_frozen BK1141.out 1; have hfz23_2 := blk_frozen BK1141.out 2; have hfz23_3 := blk_frozen BK1141.out 3; have hfz23_4 := blk_frozen BK1141.out 4) | ((with_reducible refine gate_callee (f := 32) rfl ?_); refine goesL_ (some 9) rfl rfl Tryd.func32 (by kernel_rfl) rfl #[.slice A0_0 l0_0.length c0_0, .slice A1_0 l1_0.length c1_0] rfl hM ?_; (with_reducible refine (laws_sameTones.calls k _ _ l0_0 _ _ l1_0 true _ ?side1 ?side2 ?side3 ?side4 A3.out).mono ?_); (case side1 => repeat (first | exact (Kd.C_below HR0_0.out HB.out) | refine C_q ?_)); (case side2 => exact HC0_0.out); (case side3 => repeat (first | exact (Kd.C_below HR1_0.out HB.out) | refine C_q ?_)); (case side4 => exact HC1_0.out); rintro e w' ⟨rfl, ⟨nd, rfl⟩⟩; refine ⟨_, rfl, ?_⟩))
  go_ret
  exact ⟨by first | rfl | (simp [errW_none, errW_some] <;> rfl) | (simp [*, errW_none, errW_some] <;> rfl), by repeat (first | (with_reducible first | exact HB.out | apply below_alloc | apply pw_below_drewN | apply below_drew1 | refine below_set ?_ GE1140.out | refine below_set ?_ GE1141.out) | exact HB.out)⟩
 rw [if_pos c5] at H
 have c5b0 : (a0_1 == a1_1 && (a0_2 == a1_2)) = true := c5
 (try (have c5b1 : decide (a0_1 = a1_1 && (a0_2 == a1_2)) = true := by simpa using c5))
 (try (have c5b2 : (a0_1 == a1_1 && (a0_2 == a1_2)) = true := by simpa using c5))
 clear c5
 obtain ⟨t1143, A60, H⟩ := Option.bind_eq_some_iff.mp H
 try dsimp only at H
 have A6 := Aside0.mk A60
 clear A60
 by_cases c7 : t1143 = true
 rotate_left
 ·replace c7 := Bool.eq_false_iff.mpr c7
  subst c7
  replace H := ifN ((show ¬ (false = true) by decide)) H
  obtain rfl := Option.some.inj H
  go_enter Tryd.func54, Tryd.ntmps54
  go_wp2_with (first | ((with_reducible refine gate_dst (N := 2) rfl ?_); refine box_event ?hg (N := 2) ?hd (cs := #[.slice A0_0 l0_0.length c0_0, .int .i64 a0_1, .bool a0_2, .slice A0_3 l0_3.length c0_3, .slice A0_4 l0_4.length c0_4]) (t := 27) ?hr ?_; (case hd => rfl); (case hg => rfl); (case hr => first | (go_simp; done) | (go_simp; rfl)); intro gb1140 hg w14 hbox hb; have n0_ := Q0_ (below_step (upB HB) hb); have n1_ := Q0_ (hbox); have n2_ := Q0_ ((by rw [hg]; exact (below_size (upB HB)) : w.heap.size ≤ gb1140)); have n3_ := Q0_ ((by rw [hg]; exact (below_size (upB HB)) : w.heap.size ≤ gb1140)); clear HB; revert n0_ n1_ n2_ n3_; intro HB BK1140 GW1140 GE1140; clear hb hbox hg) | ((with_reducible refine gate_dst (N := 3) rfl ?_); refine box_event ?hg (N := 3) ?hd (cs := #[.slice A1_0 l1_0.length c1_0, .int .i64 a1_1, .bool a1_2, .slice A1_3 l1_3.length c1_3, .slice A1_4 l1_4.length c1_4]) (t := 27) ?hr ?_; (case hd => rfl); (case hg => rfl); (case hr => first | (go_simp; done) | (go_simp; rfl)); intro gb1141 hg w15 hbox hb; have n0_ := Q0_ (blk_below (upK BK1140) hb); have n1_ := Q0_ (below_step upH hb); have n2_ := Q0_ (hbox); have n3_ := Q0_ ((by rw [hg]; exact (below_size upH) : w.heap.size ≤ gb1141)); have n4_ := Q0_ ((by rw [hg]; exact (below_size upH) : w.heap.size ≤ gb1141)); have n5_ := Q0_ ((by rw [hg]; exact Nat.ne_of_lt (blk_lt (upK BK1140)) : gb1140 ≠ gb1141)); have n6_ := Q0_ ((by rw [hg]; exact Nat.ne_of_gt (blk_lt (upK BK1140)) : gb1141 ≠ gb1140)); clear BK1140 HB; revert n0_ n1_ n2_ n3_ n4_ n5_ n6_; intro BK1140 HB BK1141 GW1141 GE1141 NB1140_1141 NB1141_1140; clear hb hbox hg; have hnb16 := NB1140_1141.out; have hnc16 := NB1141_1140.out; have hcz17_0 : w15.cell? ⟨gb1140, 0, none⟩ = some (.slice A0_0 l0_0.length c0_0) := (blk_cell BK1140.out 0).trans rfl; have hcz17_1 : w15.cell? ⟨gb1140, 1, none⟩ = some (.int .i64 a0_1) := (blk_cell BK1140.out 1).trans rfl; have hcz17_2 : w15.cell? ⟨gb1140, 2, none⟩ = some (.bool a0_2) := (blk_cell BK1140.out 2).trans rfl; have hcz17_3 : w15.cell? ⟨gb1140, 3, none⟩ = some (.slice A0_3 l0_3.length c0_3) := (blk_cell BK1140.out 3).trans rfl; have hcz17_4 : w15.cell? ⟨gb1140, 4, none⟩ = some (.slice A0_4 l0_4.length c0_4) := (blk_cell BK1140.out 4).trans rfl; have hfz17_0 := blk_frozen BK1140.out 0; have hfz17_1 := blk_frozen BK1140.out 1; have hfz17_2 := blk_frozen BK1140.out 2; have hfz17_3 := blk_frozen BK1140.out 3; have hfz17_4 := blk_frozen BK1140.out 4; have hcz18_0 : w15.cell? ⟨gb1141, 0, none⟩ = some (.slice A1_0 l1_0.length c1_0) := (blk_cell BK1141.out 0).trans rfl; have hcz18_1 : w15.cell? ⟨gb1141, 1, none⟩ = some (.int .i64 a1_1) := (blk_cell BK1141.out 1).trans rfl; have hcz18_2 : w15.cell? ⟨gb1141, 2, none⟩ = some (.bool a1_2) := (blk_cell BK1141.out 2).trans rfl; have hcz18_3 : w15.cell? ⟨gb1141, 3, none⟩ = some (.slice A1_3 l1_3.length c1_3) := (blk_cell BK1141.out 3).trans rfl; have hcz18_4 : w15.cell? ⟨gb1141, 4, none⟩ = some (.slice A1_4 l1_4.length c1_4) := (blk_cell BK1141.out 4).trans rfl; have hfz18_0 := blk_frozen BK1141.out 0; have hfz18_1 := blk_frozen BK1141.out 1; have hfz18_2 := blk_frozen BK1141.out 2; have hfz18_3 := blk_frozen BK1141.out 3; have hfz18_4 := blk_frozen BK1141.out 4) | ((with_reducible refine gate_callee (f := 32) rfl ?_); refine goesL_ (some 9) rfl rfl Tryd.func32 (by kernel_rfl) rfl #[.slice A0_0 l0_0.length c0_0, .slice A1_0 l1_0.length c1_0] rfl hM ?_; (with_reducible refine (laws_sameTones.calls k _ _ l0_0 _ _ l1_0 true _ ?side1 ?side2 ?side3 ?side4 A3.out).mono ?_); (case side1 => repeat (first | exact (Kd.C_below HR0_0.out HB.out) | refine C_q ?_)); (case side2 => exact HC0_0.out); (case side3 => repeat (first | exact (Kd.C_below HR1_0.out HB.out) | refine C_q ?_)); (case side4 => exact HC1_0.out); rintro e w' ⟨rfl, ⟨nd, rfl⟩⟩; refine ⟨_, rfl, ?_⟩) | (go_at_call 32; (with_reducible refine (laws_sameTones.calls k _ _ l0_3 _ _ l1_3 false _ ?side1 ?side2 ?side3 ?side4 A6.out).mono ?_); (case side1 => repeat (first | exact (Kd.C_below HR0_3.out upH) | refine C_q ?_)); (case side2 => exact HC0_3.out); (case side3 => repeat (first | exact (Kd.C_below HR1_3.out upH) | refine C_q ?_)); (case side4 => exact HC1_3.out); rintro e w' ⟨rfl, ⟨nd, rfl⟩⟩))
  go_ret
  exact ⟨by first | rfl | (simp [errW_none, errW_some] <;> rfl) | (simp [*, errW_none, errW_some] <;> rfl), by repeat (first | (with_reducible first | exact HB.out | apply below_alloc | apply pw_below_drewN | apply below_drew1 | refine below_set ?_ GE1140.out | refine below_set ?_ GE1141.out) | exact HB.out)⟩
 subst c7
 replace H := ifP (rfl) H
 obtain ⟨t1144, A80, H⟩ := Option.bind_eq_some_iff.mp H
 try dsimp only at H
 have A8 := Aside0.mk A80
 clear A80
 obtain rfl := Option.some.inj H
 go_enter Tryd.func54, Tryd.ntmps54
 go_wp2_with (first | ((with_reducible refine gate_dst (N := 2) rfl ?_); refine box_event ?hg (N := 2) ?hd (cs := #[.slice A0_0 l0_0.length c0_0, .int .i64 a0_1, .bool a0_2, .slice A0_3 l0_3.length c0_3, .slice A0_4 l0_4.length c0_4]) (t := 27) ?hr ?_; (case hd => rfl); (case hg => rfl); (case hr => first | (go_simp; done) | (go_simp; rfl)); intro gb1140 hg w9 hbox hb; have n0_ := Q0_ (below_step (upB HB) hb); have n1_ := Q0_ (hbox); have n2_ := Q0_ ((by rw [hg]; exact (below_size (upB HB)) : w.heap.size ≤ gb1140)); have n3_ := Q0_ ((by rw [hg]; exact (below_size (upB HB)) : w.heap.size ≤ gb1140)); clear HB; revert n0_ n1_ n2_ n3_; intro HB BK1140 GW1140 GE1140; clear hb hbox hg) | ((with_reducible refine gate_dst (N := 3) rfl ?_); refine box_event ?hg (N := 3) ?hd (cs := #[.slice A1_0 l1_0.length c1_0, .int .i64 a1_1, .bool a1_2, .slice A1_3 l1_3.length c1_3, .slice A1_4 l1_4.length c1_4]) (t := 27) ?hr ?_; (case hd => rfl); (case hg => rfl); (case hr => first | (go_simp; done) | (go_simp; rfl)); intro gb1141 hg w10 hbox hb; have n0_ := Q0_ (blk_below (upK BK1140) hb); have n1_ := Q0_ (below_step upH hb); have n2_ := Q0_ (hbox); have n3_ := Q0_ ((by rw [hg]; exact (below_size upH) : w.heap.size ≤ gb1141)); have n4_ := Q0_ ((by rw [hg]; exact (below_size upH) : w.heap.size ≤ gb1141)); have n5_ := Q0_ ((by rw [hg]; exact Nat.ne_of_lt (blk_lt (upK BK1140)) : gb1140 ≠ gb1141)); have n6_ := Q0_ ((by rw [hg]; exact Nat.ne_of_gt (blk_lt (upK BK1140)) : gb1141 ≠ gb1140)); clear BK1140 HB; revert n0_ n1_ n2_ n3_ n4_ n5_ n6_; intro BK1140 HB BK1141 GW1141 GE1141 NB1140_1141 NB1141_1140; clear hb hbox hg; have hnb11 := NB1140_1141.out; have hnc11 := NB1141_1140.out; have hcz12_0 : w10.cell? ⟨gb1140, 0, none⟩ = some (.slice A0_0 l0_0.length c0_0) := (blk_cell BK1140.out 0).trans rfl; have hcz12_1 : w10.cell? ⟨gb1140, 1, none⟩ = some (.int .i64 a0_1) := (blk_cell BK1140.out 1).trans rfl; have hcz12_2 : w10.cell? ⟨gb1140, 2, none⟩ = some (.bool a0_2) := (blk_cell BK1140.out 2).trans rfl; have hcz12_3 : w10.cell? ⟨gb1140, 3, none⟩ = some (.slice A0_3 l0_3.length c0_3) := (blk_cell BK1140.out 3).trans rfl; have hcz12_4 : w10.cell? ⟨gb1140, 4, none⟩ = some (.slice A0_4 l0_4.length c0_4) := (blk_cell BK1140.out 4).trans rfl; have hfz12_0 := blk_frozen BK1140.out 0; have hfz12_1 := blk_frozen BK1140.out 1; have hfz12_2 := blk_frozen BK1140.out 2; have hfz12_3 := blk_frozen BK1140.out 3; have hfz12_4 := blk_frozen BK1140.out 4; have hcz13_0 : w10.cell? ⟨gb1141, 0, none⟩ = some (.slice A1_0 l1_0.length c1_0) := (blk_cell BK1141.out 0).trans rfl; have hcz13_1 : w10.cell? ⟨gb1141, 1, none⟩ = some (.int .i64 a1_1) := (blk_cell BK1141.out 1).trans rfl; have hcz13_2 : w10.cell? ⟨gb1141, 2, none⟩ = some (.bool a1_2) := (blk_cell BK1141.out 2).trans rfl; have hcz13_3 : w10.cell? ⟨gb1141, 3, none⟩ = some (.slice A1_3 l1_3.length c1_3) := (blk_cell BK1141.out 3).trans rfl; have hcz13_4 : w10.cell? ⟨gb1141, 4, none⟩ = some (.slice A1_4 l1_4.length c1_4) := (blk_cell BK1141.out 4).trans rfl; have hfz13_0 := blk_frozen BK1141.out 0; have hfz13_1 := blk_frozen BK1141.out 1; have hfz13_2 := blk_frozen BK1141.out 2; have hfz13_3 := blk_frozen BK1141.out 3; have hfz13_4 := blk_frozen BK1141.out 4) | ((with_reducible refine gate_callee (f := 32) rfl ?_); refine goesL_ (some 9) rfl rfl Tryd.func32 (by kernel_rfl) rfl #[.slice A0_0 l0_0.length c0_0, .slice A1_0 l1_0.length c1_0] rfl hM ?_; (with_reducible refine (laws_sameTones.calls k _ _ l0_0 _ _ l1_0 true _ ?side1 ?side2 ?side3 ?side4 A3.out).mono ?_); (case side1 => repeat (first | exact (Kd.C_below HR0_0.out HB.out) | refine C_q ?_)); (case side2 => exact HC0_0.out); (case side3 => repeat (first | exact (Kd.C_below HR1_0.out HB.out) | refine C_q ?_)); (case side4 => exact HC1_0.out); rintro e w' ⟨rfl, ⟨nd, rfl⟩⟩; refine ⟨_, rfl, ?_⟩) | (go_at_call 32; (with_reducible refine (laws_sameTones.calls k _ _ l0_3 _ _ l1_3 true _ ?side1 ?side2 ?side3 ?side4 A6.out).mono ?_); (case side1 => repeat (first | exact (Kd.C_below HR0_3.out upH) | refine C_q ?_)); (case side2 => exact HC0_3.out); (case side3 => repeat (first | exact (Kd.C_below HR1_3.out upH) | refine C_q ?_)); (case side4 => exact HC1_3.out); rintro e w' ⟨rfl, ⟨nd, rfl⟩⟩) | (go_at_call 32; (with_reducible refine (laws_sameTones.calls k _ _ l0_4 _ _ l1_4 t1144 _ ?side1 ?side2 ?side3 ?side4 A8.out).mono ?_); (case side1 => repeat (first | exact (Kd.C_below HR0_4.out upH) | refine C_q ?_)); (case side2 => exact HC0_4.out); (case side3 => repeat (first | exact (Kd.C_below HR1_4.out upH) | refine C_q ?_)); (case side4 => exact HC1_4.out); rintro e w' ⟨rfl, ⟨nd, rfl⟩⟩))
 go_ret
 exact ⟨by first | rfl | (simp [errW_none, errW_some] <;> rfl) | (simp [*, errW_none, errW_some] <;> rfl), by repeat (first | (with_reducible first | exact HB.out | apply below_alloc | apply pw_below_drewN | apply below_drew1 | refine below_set ?_ GE1140.out | refine below_set ?_ GE1141.out) | exact HB.out)⟩
end Go.Proofs.YtdgmkfbmeaalpaaDoor.E
end
section
namespace Go.Proofs.YtdgmkfbmeaalpaaDoor.E
open Go.RowKit Go.Proofs.YtdgmkfbmeaalpaaDoorW.PrintWords Go.Proofs.YtdgmkfbmeaalpaaDoorW.PrintLast Go.Proofs.YtdgmkfbmeaalpaaDoorW.PrintMore
attribute [local go_sem] max2_int min2_int max_two min_two max_three min_three max_four min_four
set_option linter.unusedVariables false
set_option linter.unusedSimpArgs false
attribute [local go_sem] str_leq_ str_gtr_ str_geq_
def impl_equalNumbers.l0 : Nat → List Int → List Int → Int → Int → Option (Bool)
 | 0, _, _, _, _ => none
 | k + 1, x1, x12, x13, x14 => if x14 < x13 then (if 0 ≤ x14 then (if x14 < (x12.length : Int) then (if x14 < (x1.length : Int) then (if (rd x12 x14) = (rd x1 x14) then (impl_equalNumbers.l0 k x1 x12 x13 (wrap64 (x14 + 1))) else (some false)) else (none)) else (none)) else (none)) else (some true)
def impl_equalNumbers.f (k : Nat) (l0 : List Int) (l1 : List Int) : Option (Bool) := if (l0.length : Int) = (l1.length : Int) then (impl_equalNumbers.l0 k l1 l0 (l0.length : Int) 0) else (some false)
set_option maxHeartbeats 8000000 in
set_option maxRecDepth 100000 in
theorem impl_equalNumbers.calls (k : Nat) (A0 : Option Addr) (c0 : Nat) (l0 : List Int) (A1 : Option Addr) (c1 : Nat) (l1 : List Int) (r : Bool) (w : World) (hr0 : Kd.C (Kd.int .i64) w A0 l0.length l0) (hc0 : l0.length ≤ c0) (hr1 : Kd.C (Kd.int .i64) w A1 l1.length l1) (hc1 : l1.length ≤ c1) (h : impl_equalNumbers.f k l0 l1 = some r) :
  Calls Tryd.prog 84 #[.slice A0 l0.length c0, .slice A1 l1.length c1] w fun e w' => e = .returned (.bool r) ∧ Drawn0 w w' := by
 have HR0 := Aside0.mk hr0
 have HC0 := Aside0.mk hc0
 clear hr0 hc0
 have HR1 := Aside0.mk hr1
 have HC1 := Aside0.mk hc1
 clear hr1 hc1
 have H : (if (l0.length : Int) = (l1.length : Int) then (impl_equalNumbers.l0 k l1 l0 (l0.length : Int) 0) else (some false)) = some r := h
 clear h
 by_cases c3 : (l0.length : Int) = (l1.length : Int)
 rotate_left
 ·rw [if_neg c3] at H
  have c3b0 : ((l0.length : Int) == (l1.length : Int)) = false := beq_eq_false_iff_ne.mpr c3
  have c3b1 : ((l0.length : Int) != (l1.length : Int)) = true := bne_iff_ne.mpr c3
  have c3b2 : (l0.length == l1.length) = false := by first | simpa using c3 | (simp at c3 ⊢; omega)
  obtain rfl := Option.some.inj H
  go_enter Tryd.func84, Tryd.ntmps84
  go_wp2
  go_ret
  exact ⟨by first | rfl | (simp; done) | (simp [*]; done), by repeat (first | exact Drawn0.refl _ | apply Drawn0.step)⟩
 rw [if_pos c3] at H
 have c3b0 : ((l0.length : Int) == (l1.length : Int)) = true := beq_iff_eq.mpr c3
 have c3b1 : ((l0.length : Int) != (l1.length : Int)) = false := bne_eq_false_iff_eq.mpr c3
 have c3b2 : (l0.length == l1.length) = true := by first | simpa using c3 | (simp at c3 ⊢; omega)
 clear c3
 have H' := Aside0.mk H
 clear H
 go_enter Tryd.func84, Tryd.ntmps84
 go_wp2
 go_loopg [14] k (fun kq v14 w' => ∃ (x14_1 : Int), v14 = .int .i64 x14_1 ∧ Aside0 (impl_equalNumbers.l0 kq l1 l0 (l0.length : Int) x14_1 = some r) ∧ Aside0 (kq ≤ k) ∧ Drawn0 w w')
 case atStart => exact ⟨(0), eX, H', ⟨Nat.le_refl _⟩, by repeat (first | exact Drawn0.refl _ | apply Drawn0.step)⟩
 case round =>
  clear H'
  try clear c1
  try clear p2
  try clear c3
  try clear c3b0
  try clear c3b1
  try clear c3b2
  obtain ⟨x14_1, rfl, HA, HK1, ⟨m1, rfl⟩⟩ := hrel
  cases gk with
  | zero => exact absurd HA.out (by simp [impl_equalNumbers.l0])
  | succ k1 =>
   have H := HA.out
   clear HA
   simp only [impl_equalNumbers.l0] at H
   by_cases c4 : x14_1 < (l0.length : Int)
   rotate_left
   ·rw [if_neg c4] at H
    have c4b0 : decide (x14_1 < (l0.length : Int)) = false := decide_eq_false c4
    clear c4
    obtain rfl := Option.some.inj H
    go_wp2
    go_ret
    exact ⟨by first | rfl | (simp; done) | (simp [*]; done), by repeat (first | exact Drawn0.refl _ | apply Drawn0.step)⟩
   rw [if_pos c4] at H
   have c4b0 : decide (x14_1 < (l0.length : Int)) = true := decide_eq_true c4
   clear c4
   by_cases c5 : 0 ≤ x14_1
   rotate_left
   ·rw [if_neg c5] at H
    exact absurd H (by simp)
   rw [if_pos c5] at H
   have c5b0 : decide (0 ≤ x14_1) = true := decide_eq_true c5
   clear c5
   by_cases c6 : x14_1 < (l0.length : Int)
   rotate_left
   ·rw [if_neg c6] at H
    exact absurd H (by simp)
   rw [if_pos c6] at H
   have c6b0 : decide (x14_1 < (l0.length : Int)) = true := decide_eq_true c6
   clear c6
   by_cases c7 : x14_1 < (l1.length : Int)
   rotate_left
   ·rw [if_neg c7] at H
    exact absurd H (by simp)
   rw [if_pos c7] at H
   have c7b0 : decide (x14_1 < (l1.length : Int)) = true := decide_eq_true c7
   clear c7
   by_cases c8 : (rd l0 x14_1) = (rd l1 x14_1)
   rotate_left
   ·rw [if_neg c8] at H
    have c8b0 : ((rd l0 x14_1) == (rd l1 x14_1)) = false := beq_eq_false_iff_ne.mpr c8
    have c8b1 : ((rd l0 x14_1) != (rd l1 x14_1)) = true := bne_iff_ne.mpr c8
    obtain rfl := Option.some.inj H
    have p1145 : 0 ≤ (x14_1 : Int) := of_decide_eq_true aS
    have q1145 : x14_1 < (l0.length : Int) := of_decide_eq_true aS
    obtain ⟨ad1145, e1145, hx1145_0⟩ := Kd.at_int HR0.out x14_1 p1145 q1145
    cases e1145
    replace p1145 := eq_true p1145
    replace q1145 := eq_true q1145
    have p1146 : 0 ≤ (x14_1 : Int) := of_decide_eq_true aS
    have q1146 : x14_1 < (l1.length : Int) := of_decide_eq_true aS
    obtain ⟨ad1146, e1146, hx1146_0⟩ := Kd.at_int HR1.out x14_1 p1146 q1146
    cases e1146
    replace p1146 := eq_true p1146
    replace q1146 := eq_true q1146
    go_wp2
    go_ret
    exact ⟨by first | rfl | (simp; done) | (simp [*]; done), by repeat (first | exact Drawn0.refl _ | apply Drawn0.step)⟩
   rw [if_pos c8] at H
   have c8b0 : ((rd l0 x14_1) == (rd l1 x14_1)) = true := beq_iff_eq.mpr c8
   have c8b1 : ((rd l0 x14_1) != (rd l1 x14_1)) = false := bne_eq_false_iff_eq.mpr c8
   clear c8
   have H' := Aside0.mk H
   clear H
   have p1145 : 0 ≤ (x14_1 : Int) := of_decide_eq_true aS
   have q1145 : x14_1 < (l0.length : Int) := of_decide_eq_true aS
   obtain ⟨ad1145, e1145, hx1145_0⟩ := Kd.at_int HR0.out x14_1 p1145 q1145
   cases e1145
   replace p1145 := eq_true p1145
   replace q1145 := eq_true q1145
   have p1146 : 0 ≤ (x14_1 : Int) := of_decide_eq_true aS
   have q1146 : x14_1 < (l1.length : Int) := of_decide_eq_true aS
   obtain ⟨ad1146, e1146, hx1146_0⟩ := Kd.at_int HR1.out x14_1 p1146 q1146
   cases e1146
   replace p1146 := eq_true p1146
   replace q1146 := eq_true q1146
   go_wp2
   go_roundg k1
   case measure => have := HK1.out; omega
   case rel => exact ⟨(wrap64 (x14_1 + 1)), eX, H', ⟨by have := HK1.out; omega⟩, by repeat (first | exact Drawn0.refl _ | apply Drawn0.step)⟩
def impl_ToneSemis.j0 : Nat → Bool → Int → Bool → Int → Bool → Option (Int × Bool)
 | 0, _, _, _, _, _ => none
 | k + 1, x13, x1148000, x1148001, x1149000, x1149001 => if x13 = true then (some (0, false)) else ((impl_Tone_height.f x1149000 x1149001).bind fun t1151 => ((impl_Tone_height.f x1148000 x1148001).bind fun t1152 => (some (wrap64 (t1151 - t1152), true))))
def impl_ToneSemis.f (k : Nat) (a0_0 : Int) (a0_1 : Bool) (a1_0 : Int) (a1_1 : Bool) : Option (Int × Bool) := (impl_Tone_valid.f a0_0 a0_1).bind fun t1149 => (if t1149 = true then ((impl_Tone_valid.f a1_0 a1_1).bind fun t1150 => (impl_ToneSemis.j0 k (!t1150) a0_0 a0_1 a1_0 a1_1)) else (impl_ToneSemis.j0 k true a0_0 a0_1 a1_0 a1_1))
set_option maxHeartbeats 8000000 in
set_option maxRecDepth 100000 in
theorem impl_ToneSemis.calls (k : Nat) (a0_0 : Int) (a0_1 : Bool) (a1_0 : Int) (a1_1 : Bool) (r1 : Int) (r2 : Bool) (w : World) (hG : GOk [1] w) (h : impl_ToneSemis.f k a0_0 a0_1 a1_0 a1_1 = some (r1, r2)) :
  Calls Tryd.prog 103 #[.agg #[.int .i64 a0_0, .bool a0_1], .agg #[.int .i64 a1_0, .bool a1_1]] w fun e w' => e = .returned (.tuple #[.int .i64 r1, .bool r2]) ∧ Below w.heap.size w w' := by
 have hu25 := Tryd.underlying25
 have HB := Q0_ (Below.refl w.heap.size w)
 have HG := Aside0.mk hG
 clear hG
 have H : ((impl_Tone_valid.f a0_0 a0_1).bind fun t1149 => (if t1149 = true then ((impl_Tone_valid.f a1_0 a1_1).bind fun t1150 => (impl_ToneSemis.j0 k (!t1150) a0_0 a0_1 a1_0 a1_1)) else (impl_ToneSemis.j0 k true a0_0 a0_1 a1_0 a1_1))) = some (r1, r2) := h
 clear h
 have HC3 := Aside0.mk H
 clear H
 go_enter Tryd.func103, Tryd.ntmps103
 go_upto_region 1 with (first | ((with_reducible refine gate_dst (N := 2) rfl ?_); refine box_event ?hg (N := 2) ?hd (cs := #[.int .i64 a0_0, .bool a0_1]) (t := 25) ?hr ?_; (case hd => rfl); (case hg => rfl); (case hr => first | (go_simp; done) | (go_simp; rfl)); intro gb1147 hg w4 hbox hb; have n0_ := Q0_ (below_step (upB HB) hb); have n1_ := Q0_ (hbox); have n2_ := Q0_ ((by rw [hg]; exact (below_size (upB HB)) : w.heap.size ≤ gb1147)); have n3_ := Q0_ ((by rw [hg]; exact (below_size (upB HB)) : w.heap.size ≤ gb1147)); clear HB; revert n0_ n1_ n2_ n3_; intro HB BK1147 GW1147 GE1147; clear hb hbox hg) | ((with_reducible refine gate_dst (N := 3) rfl ?_); refine box_event ?hg (N := 3) ?hd (cs := #[.int .i64 a1_0, .bool a1_1]) (t := 25) ?hr ?_; (case hd => rfl); (case hg => rfl); (case hr => first | (go_simp; done) | (go_simp; rfl)); intro gb1148 hg w5 hbox hb; have n0_ := Q0_ (blk_below (upK BK1147) hb); have n1_ := Q0_ (below_step upH hb); have n2_ := Q0_ (hbox); have n3_ := Q0_ ((by rw [hg]; exact (below_size upH) : w.heap.size ≤ gb1148)); have n4_ := Q0_ ((by rw [hg]; exact (below_size upH) : w.heap.size ≤ gb1148)); have n5_ := Q0_ ((by rw [hg]; exact Nat.ne_of_lt (blk_lt (upK BK1147)) : gb1147 ≠ gb1148)); have n6_ := Q0_ ((by rw [hg]; exact Nat.ne_of_gt (blk_lt (upK BK1147)) : gb1148 ≠ gb1147)); clear BK1147 HB; revert n0_ n1_ n2_ n3_ n4_ n5_ n6_; intro BK1147 HB BK1148 GW1148 GE1148 NB1147_1148 NB1148_1147; clear hb hbox hg))
 (try simp only [Act.put, sI, s0, sS])
 go_cut [13] (fun v13 wc => ∃ (kq : Nat) (x13_2 : Bool), v13 = .bool x13_2 ∧ Aside0 (impl_ToneSemis.j0 kq x13_2 a0_0 a0_1 a1_0 a1_1 = some (r1, r2)) ∧ Aside0 (kq ≤ k) ∧ Aside0 (wc.heap[gb1147]? = some (.cells #[.int .i64 a0_0, .bool a0_1] 25 (0, 0))) ∧ Aside0 (wc.heap[gb1148]? = some (.cells #[.int .i64 a1_0, .bool a1_1] 25 (0, 0))) ∧ Aside0 (Below w.heap.size w wc))
 case first =>
  have H := HC3.out
  clear HC3
  obtain ⟨t1149, A60, H⟩ := Option.bind_eq_some_iff.mp H
  try dsimp only at H
  have A6 := Aside0.mk A60
  clear A60
  by_cases c7 : t1149 = true
  rotate_left
  ·replace c7 := Bool.eq_false_iff.mpr c7
   subst c7
   replace H := ifN ((show ¬ (false = true) by decide)) H
   have H' := Aside0.mk H
   clear H
   have hnb14 := NB1147_1148.out
   have hnc14 := NB1148_1147.out
   have hcz15_0 : w5.cell? ⟨gb1147, 0, none⟩ = some (.int .i64 a0_0) := (blk_cell BK1147.out 0).trans rfl
   have hcz15_1 : w5.cell? ⟨gb1147, 1, none⟩ = some (.bool a0_1) := (blk_cell BK1147.out 1).trans rfl
   have hfz15_0 := blk_frozen BK1147.out 0
   have hfz15_1 := blk_frozen BK1147.out 1
   go_wp2_with (first | ((with_reducible refine gate_callee (f := 65) rfl ?_); refine goesL_ (some 7) rfl rfl Tryd.func65 (by kernel_rfl) rfl #[.agg #[.int .i64 a0_0, .bool a0_1]] rfl hM ?_; (with_reducible refine (impl_Tone_valid.calls a0_0 a0_1 false _ A6.out).mono ?_); rintro e w16 ⟨rfl, hb⟩; refine ⟨_, rfl, ?_⟩; have n0_ := Q0_ (blk_below (upK BK1147) hb); have n1_ := Q0_ (blk_below (upK BK1148) hb); have n2_ := Q0_ (below_step upH hb); clear BK1147 BK1148 HB; revert n0_ n1_ n2_; intro BK1147 BK1148 HB; (try clear hb); (try clear hb2); (try clear hk); (try clear hi)))
   go_meet
   case rel => exact ⟨_, (true), eX, H', ⟨by first | omega | exact Nat.le_refl _⟩, ⟨by (repeat refine blk_q ?_); exact BK1147.out⟩, ⟨by (repeat refine blk_q ?_); exact BK1148.out⟩, ⟨by repeat (first | (with_reducible first | exact HB.out | apply below_alloc | apply pw_below_drewN | apply below_drew1 | refine below_set ?_ GE1147.out | refine below_set ?_ GE1148.out) | exact HB.out)⟩⟩
  subst c7
  replace H := ifP (rfl) H
  obtain ⟨t1150, A80, H⟩ := Option.bind_eq_some_iff.mp H
  try dsimp only at H
  have A8 := Aside0.mk A80
  clear A80
  have H' := Aside0.mk H
  clear H
  have hnb9 := NB1147_1148.out
  have hnc9 := NB1148_1147.out
  have hcz10_0 : w5.cell? ⟨gb1147, 0, none⟩ = some (.int .i64 a0_0) := (blk_cell BK1147.out 0).trans rfl
  have hcz10_1 : w5.cell? ⟨gb1147, 1, none⟩ = some (.bool a0_1) := (blk_cell BK1147.out 1).trans rfl
  have hfz10_0 := blk_frozen BK1147.out 0
  have hfz10_1 := blk_frozen BK1147.out 1
  go_wp2_with (first | ((with_reducible refine gate_callee (f := 65) rfl ?_); refine goesL_ (some 7) rfl rfl Tryd.func65 (by kernel_rfl) rfl #[.agg #[.int .i64 a0_0, .bool a0_1]] rfl hM ?_; (with_reducible refine (impl_Tone_valid.calls a0_0 a0_1 true _ A6.out).mono ?_); rintro e w11 ⟨rfl, hb⟩; refine ⟨_, rfl, ?_⟩; have n0_ := Q0_ (blk_below (upK BK1147) hb); have n1_ := Q0_ (blk_below (upK BK1148) hb); have n2_ := Q0_ (below_step upH hb); clear BK1147 BK1148 HB; revert n0_ n1_ n2_; intro BK1147 BK1148 HB; (try clear hb); (try clear hb2); (try clear hk); (try clear hi); have hcz12_0 : w11.cell? ⟨gb1148, 0, none⟩ = some (.int .i64 a1_0) := (blk_cell BK1148.out 0).trans rfl; have hcz12_1 : w11.cell? ⟨gb1148, 1, none⟩ = some (.bool a1_1) := (blk_cell BK1148.out 1).trans rfl; have hfz12_0 := blk_frozen BK1148.out 0; have hfz12_1 := blk_frozen BK1148.out 1) | (go_at_call 65; (with_reducible refine (impl_Tone_valid.calls a1_0 a1_1 t1150 _ A8.out).mono ?_); rintro e w13 ⟨rfl, hb⟩; have n0_ := Q0_ (blk_below (upK BK1147) hb); have n1_ := Q0_ (blk_below (upK BK1148) hb); have n2_ := Q0_ (below_step upH hb); clear BK1147 BK1148 HB; revert n0_ n1_ n2_; intro BK1147 BK1148 HB; (try clear hb); (try clear hb2); (try clear hk); (try clear hi)))
  go_meet
  case rel => exact ⟨_, (!t1150), eX, H', ⟨by first | omega | exact Nat.le_refl _⟩, ⟨by (repeat refine blk_q ?_); exact BK1147.out⟩, ⟨by (repeat refine blk_q ?_); exact BK1148.out⟩, ⟨by repeat (first | (with_reducible first | exact HB.out | apply below_alloc | apply pw_below_drewN | apply below_drew1 | refine below_set ?_ GE1147.out | refine below_set ?_ GE1148.out) | exact HB.out)⟩⟩
 case rest =>
  clear HC3
  try clear c1
  try clear p2
  try clear c6
  try clear c7
  try clear c9
  try clear c10
  try clear c14
  try clear hcz10_0
  try clear hcz10_1
  try clear hcz12_0
  try clear hcz12_1
  try clear hcz15_0
  try clear hcz15_1
  try clear hfz10_0
  try clear hfz10_1
  try clear hfz12_0
  try clear hfz12_1
  try clear hfz15_0
  try clear hfz15_1
  obtain ⟨kq, x13_2, rfl, HA, HJ2, BK1147, BK1148, HB⟩ := hcut
  cases kq with
  | zero => exact absurd HA.out (by simp [impl_ToneSemis.j0])
  | succ kj2 =>
   have H := HA.out
   clear HA
   simp only [impl_ToneSemis.j0] at H
   by_cases c17 : x13_2 = true
   ·subst c17
    replace H := ifP (rfl) H
    simp only [Option.some.injEq, Prod.mk.injEq] at H
    obtain ⟨rfl, rfl⟩ := H
    go_wp2
    go_ret2
    exact ⟨by first | rfl | (simp [errW_none, errW_some] <;> rfl) | (simp [*, errW_none, errW_some] <;> rfl), by repeat (first | (with_reducible first | exact HB.out | apply below_alloc | apply pw_below_drewN | apply below_drew1 | refine below_set ?_ GE1147.out | refine below_set ?_ GE1148.out) | exact HB.out)⟩
   replace c17 := Bool.eq_false_iff.mpr c17
   subst c17
   replace H := ifN ((show ¬ (false = true) by decide)) H
   obtain ⟨t1151, A180, H⟩ := Option.bind_eq_some_iff.mp H
   try dsimp only at H
   have A18 := Aside0.mk A180
   clear A180
   obtain ⟨t1152, A190, H⟩ := Option.bind_eq_some_iff.mp H
   try dsimp only at H
   have A19 := Aside0.mk A190
   clear A190
   simp only [Option.some.injEq, Prod.mk.injEq] at H
   obtain ⟨rfl, rfl⟩ := H
   try go_wp2
   have n0_ := Q0_ (blk_drew BK1147.out)
   have n1_ := Q0_ (blk_drew BK1148.out)
   have n2_ := Q0_ (below_drew1 HB.out)
   clear BK1147 BK1148 HB; revert n0_ n1_ n2_; intro BK1147 BK1148 HB
   refine start_ (n := 7) (S := fun w' => w'.cell? ⟨gb1148, 0, none⟩ = some (.int .i64 a1_0) ∧ w'.cell? ⟨gb1148, 1, none⟩ = some (.bool a1_1) ∧ w'.cell? ⟨gb1147, 0, none⟩ = some (.int .i64 a0_0) ∧ w'.cell? ⟨gb1147, 1, none⟩ = some (.bool a0_1)) (ds := []) #[ff,ff,ff,ff,ff,ff,ff] (by kernel_rfl) rfl rfl ⟨(blk_cell BK1148.out 0).trans rfl, (blk_cell BK1148.out 1).trans rfl, (blk_cell BK1147.out 0).trans rfl, (blk_cell BK1147.out 1).trans rfl⟩ (fun hHeld => ?_)
   generalize wc.drew = w20 at BK1147 BK1148 HB hHeld ⊢
   refine take_ (i := 0) (N := some 14) (v := ?_) (a' := ?_) #[tt,ff,ff,ff,ff,ff,ff] rfl rfl (by kernel_rfl) (fun _ _ _ h => h) (Or.inl ⟨by rfl, ?_⟩) hHeld ?_ ?_
   rotate_left
   ·rintro w' ⟨s0, s1, s2, s3⟩
    go_simp
    with_reducible rfl
   rotate_left
   ·simp only [Act.put, sI, s0, sS, i64_w, i32_w]
    rfl
   refine take_ (i := 2) (N := some 16) (v := ?_) (a' := ?_) #[tt,ff,tt,ff,ff,ff,ff] rfl rfl (by kernel_rfl) (fun _ _ _ h => h) (Or.inl ⟨by rfl, ?_⟩) hHeld ?_ ?_
   rotate_left
   ·rintro w' ⟨s0, s1, s2, s3⟩
    go_simp
    with_reducible rfl
   rotate_left
   ·simp only [Act.put, sI, s0, sS, i64_w, i32_w]
    rfl
   refine one_ (i := 1) (N := some 15) #[tt,tt,tt,ff,ff,ff,ff] rfl rfl (by kernel_rfl) (by decide) (fun K hK => ?_)
   refine goes_ Tryd.func98 (by kernel_rfl) rfl #[.agg #[.int .i64 a1_0, .bool a1_1]] (by rfl) rfl rfl hM ?_
   with_reducible refine (impl_Tone_height.calls a1_0 a1_1 t1151 _ ?side1 A18.out).mono ?_
   (case side1 => exact GOk.sub (GOk.below HG.out upH) (by decide))
   rintro e w21 ⟨rfl, hb⟩
   refine ⟨_, rfl, ?_⟩
   have n0_ := Q0_ (blk_below (upK BK1147) hb)
   have n1_ := Q0_ (blk_below (upK BK1148) hb)
   have n2_ := Q0_ (below_step upH hb)
   clear BK1147 BK1148 HB; revert n0_ n1_ n2_; intro BK1147 BK1148 HB
   (try clear hb)
   (try clear hb2)
   (try clear hk)
   (try clear hi)
   refine hK.out _ _ ⟨(blk_cell BK1148.out 0).trans rfl, (blk_cell BK1148.out 1).trans rfl, (blk_cell BK1147.out 0).trans rfl, (blk_cell BK1147.out 1).trans rfl⟩ (fun hHeld => ?_)
   clear hK K
   refine norm_ (a' := ?_) ?_ ?_
   rotate_left
   ·show Act.put _ (some 15) _ = _
    simp only [Act.put, sI, s0, sS, i64_w, i32_w]
    rfl
   refine one_ (i := 3) (N := some 17) #[tt,tt,tt,tt,ff,ff,ff] rfl rfl (by kernel_rfl) (by decide) (fun K hK => ?_)
   refine goes_ Tryd.func98 (by kernel_rfl) rfl #[.agg #[.int .i64 a0_0, .bool a0_1]] (by rfl) rfl rfl hM ?_
   with_reducible refine (impl_Tone_height.calls a0_0 a0_1 t1152 _ ?side1 A19.out).mono ?_
   (case side1 => exact GOk.sub (GOk.below HG.out upH) (by decide))
   rintro e w22 ⟨rfl, hb⟩
   refine ⟨_, rfl, ?_⟩
   have n0_ := Q0_ (blk_below (upK BK1147) hb)
   have n1_ := Q0_ (blk_below (upK BK1148) hb)
   have n2_ := Q0_ (below_step upH hb)
   clear BK1147 BK1148 HB; revert n0_ n1_ n2_; intro BK1147 BK1148 HB
   (try clear hb)
   (try clear hb2)
   (try clear hk)
   (try clear hi)
   refine hK.out _ _ ⟨(blk_cell BK1148.out 0).trans rfl, (blk_cell BK1148.out 1).trans rfl, (blk_cell BK1147.out 0).trans rfl, (blk_cell BK1147.out 1).trans rfl⟩ (fun hHeld => ?_)
   clear hK K
   refine norm_ (a' := ?_) ?_ ?_
   rotate_left
   ·show Act.put _ (some 17) _ = _
    simp only [Act.put, sI, s0, sS, i64_w, i32_w]
    rfl
   refine pure_ (i := 4) (N := some 18) (v := ?_) (a' := ?_) #[tt,tt,tt,tt,tt,ff,ff] rfl rfl (by kernel_rfl) (fun _ _ _ h => h) (Or.inl ⟨by rfl, ?_⟩) ?_ ?_
   rotate_left
   ·intro w'
    go_simp
    with_reducible rfl
   rotate_left
   ·simp only [Act.put, sI, s0, sS, i64_w, i32_w]
    rfl
   refine pure_ (i := 5) (N := some 4) (v := ?_) (a' := ?_) #[tt,tt,tt,tt,tt,tt,ff] rfl rfl (by kernel_rfl) (fun _ _ _ h => h) (Or.inl ⟨by rfl, ?_⟩) ?_ ?_
   rotate_left
   ·intro w'
    go_simp
    with_reducible rfl
   rotate_left
   ·simp only [Act.put, sI, s0, sS, i64_w, i32_w]
    rfl
   refine pure_ (i := 6) (N := some 5) (v := ?_) (a' := ?_) #[tt,tt,tt,tt,tt,tt,tt] rfl rfl (by kernel_rfl) (fun _ _ _ h => h) (Or.inl ⟨by rfl, ?_⟩) ?_ ?_
   rotate_left
   ·intro w'
    go_simp
    with_reducible rfl
   rotate_left
   ·simp only [Act.put, sI, s0, sS, i64_w, i32_w]
    rfl
   refine done_ (by kernel_rfl) ?_
   try go_wp2
   go_ret2
   exact ⟨by first | rfl | (simp [errW_none, errW_some] <;> rfl) | (simp [*, errW_none, errW_some] <;> rfl), by repeat (first | (with_reducible first | exact HB.out | apply below_alloc | apply pw_below_drewN | apply below_drew1 | refine below_set ?_ GE1147.out | refine below_set ?_ GE1148.out) | exact HB.out)⟩
section
variable {P : Program} {ops : Array Oper} {Q : Exit → Act → World → Prop}
theorem runsF_ {oi : Oper} {a : Act} {w : World} {f : FuncId} {fn : Func} {o : Operand} {xs : Array Operand} {ts : Array TypeId} (hf : P.funcs[f]? = some fn) (hname : (fn.name == "runtime.NumGoroutine") = false) (hb : fn.body.isSome = true) (args : Array Value)
  (hop : oi.op = .call { callee := .value o, args := xs, argTypes := ts }) (hv : a.eval o = .func (.func f) #[] #[]) (hargs : xs.map a.eval = args) : (execOp a.eval oi).run P w = .ok (.enter f args) w := by
 have he := enters_ hf hname hb args w
 unfold execOp
 simp [hop, resolve, Deferred.ofValue, invoke, hv, hargs, he]
theorem goesF_ {oi : Oper} {N : Option Tmp} {a : Act} {w : World} {K : Act → World → Prop} {f : FuncId} {fn : Func} {o : Operand} {xs : Array Operand} {ts : Array TypeId} (hf : P.funcs[f]? = some fn) (hname : (fn.name == "runtime.NumGoroutine") = false) (hb : fn.body.isSome = true) (args : Array Value)
  (hw : Region.wanted oi (yielded ops a.tmps) = true) (hN : oi.dst = N) (hop : oi.op = .call { callee := .value o, args := xs, argTypes := ts }) (hv : a.eval o = .func (.func f) #[] #[]) (hargs : xs.map a.eval = args)
  (h : Calls P f args w fun e w' => ∃ v, e = .returned v ∧ K (a.put N v) w') : if Region.wanted oi (yielded ops a.tmps) = true then Oper.wp P oi a w K Q else K (a.put N undef) w :=
 call_ f args hw hN (runsF_ hf hname hb args hop hv hargs) h
end
def dfGo (F : S25 → S25 → Option (Int × Bool)) : S25 → List S25 → List Int → Option (List Int)
 | _, [], acc => some acc
 | t, u :: us, acc => (F t u).bind fun x => dfGo F u us (if x.2 = true then acc ++ [x.1] else acc)
def dfAll (F : S25 → S25 → Option (Int × Bool)) (k : Nat) : List S25 → Option (List Int)
 | [] => (impl_MelodyValid.f k []).bind fun _ => some []
 | t :: ts => (impl_MelodyValid.f k (t :: ts)).bind fun v => (if v = true then dfGo F t ts [] else some [])
def differences.f (F : S25 → S25 → Option (Int × Bool)) (k : Nat) (l0 : List (S25)) : Option (List Int) := if l0.length ≤ 1000000 then dfAll F k l0 else none
def differences.T7 : Bool × List (List Nat × List Nat) := (true, [([], []), ([], []), ([1], [1]), ([2], [2]), ([3], [3]), ([], []), ([5], [5]), ([6], [6]), ([7], [7]), ([8], [8]), ([9], [9]), ([10], [10]), ([0, 4, 11], [0, 4, 11]), ([12], [12]), ([13], [13]), ([13], [13]), ([14, 12, 0, 1, 2, 3, 4, 5, 6, 7, 8, 9, 10, 11, 12, 13, 14], [14]), ([15, 16, 0, 1, 2, 3, 4, 5, 6, 7, 8, 9, 10, 11, 12, 13, 14, 15, 16], [15])])
def differences.B7 : List Nat := [0, 0, 2, 6, 14, 0, 32, 96, 224, 480, 992, 2016, 4095, 8191, 16383, 16383, 32767, 131071]
theorem differences.tab7 : rtab .any (opsOf Tryd.f102 7) = differences.T7 := by kernel_rfl
theorem differences.bits7 : waitsOk differences.T7.2 differences.B7 = true := by kernel_rfl
set_option maxHeartbeats 16000000 in
set_option maxRecDepth 100000 in
theorem differences.calls (F : S25 → S25 → Option (Int × Bool)) (fid : FuncId) (fn : Func) (hfn : Tryd.prog.funcs[fid]? = some fn) (hname : (fn.name == "runtime.NumGoroutine") = false) (hbody : fn.body.isSome = true)
  (hF : ∀ (t u : S25) (x : Int × Bool) (w : World), GOk [1] w → F t u = some x → Calls Tryd.prog fid #[.agg #[.int .i64 t.f0, .bool t.f1], .agg #[.int .i64 u.f0, .bool u.f1]] w fun e w' => e = .returned (.tuple #[.int .i64 x.1, .bool x.2]) ∧ Below w.heap.size w w')
  (k : Nat) (A0 : Option Addr) (c0 : Nat) (l0 : List (S25)) (r : List Int) (w : World) (hr0 : Kd.C k25 w A0 l0.length l0) (hc0 : l0.length ≤ c0) (hG : GOk [1] w) (h : differences.f F k l0 = some r) :
  Calls Tryd.prog 102 #[.slice A0 l0.length c0, .func (.func fid) #[] #[]] w fun e w' => ∃ v0_ : Value, e = .returned (v0_) ∧ Kd.R (Kd.int .i64) 3 w' w.heap.size (fun _ => True) v0_ r ∧ Below w.heap.size w w' := by
 have hu25 := Tryd.underlying25
 have hu68 := Tryd.underlying131
 unfold differences.f at h
 by_cases hn : l0.length ≤ 1000000
 rotate_left
 ·rw [if_neg hn] at h; cases h
 rw [if_pos hn] at h
 have HR0 := Aside0.mk hr0
 have HC0 := Aside0.mk hc0
 have HG := Aside0.mk hG
 have HN := Aside0.mk hn
 have HB := Q0_ (Below.refl w.heap.size w)
 clear hr0 hc0 hG hn
 cases l0 with
 | nil =>
  unfold dfAll at h
  obtain ⟨v, A10, H⟩ := Option.bind_eq_some_iff.mp h
  have A1 := Aside0.mk A10
  obtain rfl := Option.some.inj H
  clear h A10 H
  have c3 : ((([] : List S25).length : Int) == 0) = true := rfl
  obtain ⟨l0, hl⟩ : ∃ l0 : List S25, l0 = [] := ⟨_, rfl⟩
  rw [← hl] at HR0 HC0 A1 c3 ⊢
  clear hl HN
  cases v with
  | false =>
   go_enter Tryd.func102, Tryd.ntmps102
   go_wp2_with (first | ((with_reducible refine gate_dst (N := 9) rfl ?_); refine Kd.R_lit (Kd.int .i64) _ 3 ?hg (N := 9) ?hd (xs := ([] : List Int)) (inner := []) (ok := fun _ => True) (okp := fun _ => True) ?hr ?hp (fun _ hk => hk) trivial (Below.refl _ _) (Nat.le_refl _) (by simp) ?_; (case hd => rfl); (case hg => rfl); (case hr => first | (go_simp; done) | (go_simp; rfl)); (case hp => exact (Reps.none _ _)); intro v8 w5 ho hb hg_ hnew_; clear hg_ hnew_; have HO := Q0_ (Kd.R_lower ho (below_size HB.out)); have n1_ := Q0_ (below_step HB.out hb); clear HB ho hb; have HB := n1_; clear n1_) | (go_at_call 75; ((with_reducible refine (impl_MelodyValid.calls k _ _ l0 false _ (Kd.C_below HR0.out HB.out) HC0.out A1.out).mono ?_); rintro e w4 ⟨rfl, hb⟩; have n0_ := Q0_ (Kd.R_below HO.out hb); have n1_ := Q0_ (below_step HB.out hb); clear HO HB hb; have HO := n0_; have HB := n1_; clear n0_ n1_)))
   go_ret
   exact ⟨_, rfl, HO.out, HB.out⟩
  | true =>
   go_enter Tryd.func102, Tryd.ntmps102
   go_wp2_with (first | ((with_reducible refine gate_dst (N := 9) rfl ?_); refine Kd.R_lit (Kd.int .i64) _ 3 ?hg (N := 9) ?hd (xs := ([] : List Int)) (inner := []) (ok := fun _ => True) (okp := fun _ => True) ?hr ?hp (fun _ hk => hk) trivial (Below.refl _ _) (Nat.le_refl _) (by simp) ?_; (case hd => rfl); (case hg => rfl); (case hr => first | (go_simp; done) | (go_simp; rfl)); (case hp => exact (Reps.none _ _)); intro v8 w5 ho hb hg_ hnew_; clear hg_ hnew_; have HO := Q0_ (Kd.R_lower ho (below_size HB.out)); have n1_ := Q0_ (below_step HB.out hb); clear HB ho hb; have HB := n1_; clear n1_) | (go_at_call 75; ((with_reducible refine (impl_MelodyValid.calls k _ _ l0 true _ (Kd.C_below HR0.out HB.out) HC0.out A1.out).mono ?_); rintro e w4 ⟨rfl, hb⟩; have n0_ := Q0_ (Kd.R_below HO.out hb); have n1_ := Q0_ (below_step HB.out hb); clear HO HB hb; have HO := n0_; have HB := n1_; clear n0_ n1_)))
   go_ret
   exact ⟨_, rfl, HO.out, HB.out⟩
 | cons t0 ts0 =>
  unfold dfAll at h
  obtain ⟨v, A10, H⟩ := Option.bind_eq_some_iff.mp h
  have A1 := Aside0.mk A10
  clear h A10
  have c3 : (((t0 :: ts0).length : Int) == 0) = false := beq_eq_false_iff_ne.mpr (by rw [List.length_cons]; omega)
  have HL0 : Aside0 ((t0 :: ts0).length = ts0.length + 1) := ⟨rfl⟩
  have HM0 : Aside0 ((t0 :: ts0).map pr = pr t0 :: ts0.map pr) := ⟨rfl⟩
  obtain ⟨l0, hl⟩ : ∃ l0 : List S25, l0 = t0 :: ts0 := ⟨_, rfl⟩
  rw [← hl] at HR0 HC0 A1 c3 HN HL0 HM0 ⊢
  clear hl
  cases v with
  | false =>
   rw [if_neg (show ¬ (false = true) by decide)] at H
   obtain rfl := Option.some.inj H
   clear H
   go_enter Tryd.func102, Tryd.ntmps102
   go_wp2_with (first | ((with_reducible refine gate_dst (N := 9) rfl ?_); refine Kd.R_lit (Kd.int .i64) _ 3 ?hg (N := 9) ?hd (xs := ([] : List Int)) (inner := []) (ok := fun _ => True) (okp := fun _ => True) ?hr ?hp (fun _ hk => hk) trivial (Below.refl _ _) (Nat.le_refl _) (by simp) ?_; (case hd => rfl); (case hg => rfl); (case hr => first | (go_simp; done) | (go_simp; rfl)); (case hp => exact (Reps.none _ _)); intro v8 w5 ho hb hg_ hnew_; clear hg_ hnew_; have HO := Q0_ (Kd.R_lower ho (below_size HB.out)); have n1_ := Q0_ (below_step HB.out hb); clear HB ho hb; have HB := n1_; clear n1_) | (go_at_call 75; ((with_reducible refine (impl_MelodyValid.calls k _ _ l0 false _ (Kd.C_below HR0.out HB.out) HC0.out A1.out).mono ?_); rintro e w4 ⟨rfl, hb⟩; have n0_ := Q0_ (Kd.R_below HO.out hb); have n1_ := Q0_ (below_step HB.out hb); clear HO HB hb; have HO := n0_; have HB := n1_; clear n0_ n1_)))
   go_ret
   exact ⟨_, rfl, HO.out, HB.out⟩
  | true =>
   rw [if_pos rfl] at H
   have HH := Aside0.mk H
   clear H
   go_enter Tryd.func102, Tryd.ntmps102
   go_wp2_with (first | ((with_reducible refine gate_dst (N := 9) rfl ?_); refine Kd.R_lit (Kd.int .i64) _ 3 ?hg (N := 9) ?hd (xs := ([] : List Int)) (inner := []) (ok := fun _ => True) (okp := fun _ => True) ?hr ?hp (fun _ hk => hk) trivial (Below.refl _ _) (Nat.le_refl _) (by simp) ?_; (case hd => rfl); (case hg => rfl); (case hr => first | (go_simp; done) | (go_simp; rfl)); (case hp => exact (Reps.none _ _)); intro v8 w5 ho hb hg_ hnew_; clear hg_ hnew_; have HO := Q0_ (Kd.R_lower ho (below_size HB.out)); have n1_ := Q0_ (below_step HB.out hb); clear HB ho hb; have HB := n1_; clear n1_) | (go_at_call 75; ((with_reducible refine (impl_MelodyValid.calls k _ _ l0 true _ (Kd.C_below HR0.out HB.out) HC0.out A1.out).mono ?_); rintro e w4 ⟨rfl, hb⟩; have n0_ := Q0_ (Kd.R_below HO.out hb); have n1_ := Q0_ (below_step HB.out hb); clear HO HB hb; have HO := n0_; have HB := n1_; clear n0_ n1_)))
   go_wp2_with (first | (go_at_call 115; (rw [show (l0.length) = (l0.map pr).length from (List.length_map _).symm]; (with_reducible refine (linked_calls A0 c0 (l0.map pr) _ (by rw [List.length_map]; exact HN.out) (chain_cells (Kd.C_below HR0.out HB.out))).mono ?_); rintro e w6 ⟨p, rfl, hch, hb⟩; have CH := Aside0.mk hch; have n0_ := Q0_ (Kd.R_below HO.out hb); have n1_ := Q0_ (below_step HB.out hb); clear HO HB hch hb; have HO := n0_; have HB := n1_; clear n0_ n1_)))
   have CH2 : Aside0 (Chain w6 p (pr t0 :: ts0.map pr)) := ⟨by rw [← HM0.out]; exact CH.out⟩
   clear CH HM0 A1 c3
   go_loopg [5, 6] ts0.length (fun kq v5 v6 w' => ∃ (acc : List Int) (t : S25) (rest : List S25) (p : Option Addr), v6 = .pointer p ∧ rest.length = kq ∧ acc.length + kq ≤ ts0.length ∧ Aside0 (dfGo F t rest acc = some r) ∧ Aside0 (Kd.R (Kd.int .i64) 3 w' w.heap.size (fun _ => True) v5 acc) ∧ Aside0 (Chain w' p (pr t :: rest.map pr)) ∧ Aside0 (Below w.heap.size w w'))
   case atStart => exact ⟨[], t0, ts0, _, rfl, rfl, by simp, HH, HO, CH2, HB⟩
   case round =>
    clear HH HO CH2 HB
    obtain ⟨acc, t, rest, p, rfl, HL, HW, HH, HO, CH, HB⟩ := hrel
    obtain ⟨g, q, rfl, hbk, hch⟩ := CH.out
    have BK := Aside0.mk hbk
    have CQ := Aside0.mk hch
    clear CH hbk hch
    have z2 : wr.cell? ⟨g, 2, none⟩ = some (.pointer q) := (blk_cell BK.out 2).trans rfl
    cases gk with
    | zero =>
     obtain rfl := List.eq_nil_of_length_eq_zero HL
     have E := HH.out
     clear HH
     simp only [dfGo, Option.some.injEq] at E
     subst E
     obtain rfl : q = none := CQ.out
     go_wp2
     go_ret
     exact ⟨_, rfl, HO.out, HB.out⟩
    | succ k1 =>
     obtain ⟨u, us, rfl⟩ : ∃ u us, rest = u :: us := by
      cases rest with
      | nil => simp at HL
      | cons u us => exact ⟨u, us, rfl⟩
     have HTS : Aside0 (us.length = k1) := ⟨by simpa using HL⟩
     have HAL : Aside0 (acc.length + (k1 + 1) ≤ ts0.length ∧ ts0.length + 1 ≤ 1000000) := ⟨HW, by rw [← HL0.out]; exact HN.out⟩
     clear HL HW
     obtain ⟨g2, q2, rfl, hbk2, hch2⟩ := CQ.out
     have BK2 := Aside0.mk hbk2
     clear hbk2 hch2
     have E := HH.out
     clear HH
     unfold dfGo at E
     obtain ⟨x, A20, E⟩ := Option.bind_eq_some_iff.mp E
     obtain ⟨d, ok⟩ := x
     have A2 := Aside0.mk A20
     clear A20
     simp only at E
     go_wp2
     have n0_ := Q0_ (Kd.R_drew HO.out)
     have n1_ := Q0_ (below_drew1 HB.out)
     have n2_ := Q0_ (blk_drew BK.out)
     have n3_ := Q0_ (blk_drew BK2.out)
     have n4_ := Q0_ (Chain.drew CQ.out)
     clear HO HB BK BK2 CQ
     have HO := n0_
     have HB := n1_
     have BK := n2_
     have BK2 := n3_
     have CQ := n4_
     clear n0_ n1_ n2_ n3_ n4_
     refine start_ (n := 18) (S := fun w' => w'.cell? ⟨g, 0, none⟩ = some (.int .i64 t.f0) ∧ w'.cell? ⟨g, 1, none⟩ = some (.bool t.f1) ∧ w'.cell? ⟨g, 2, none⟩ = some (.pointer (some ⟨g2, 0, none⟩)) ∧ w'.cell? ⟨g2, 0, none⟩ = some (.int .i64 u.f0) ∧ w'.cell? ⟨g2, 1, none⟩ = some (.bool u.f1)) (ds := []) #[ff,ff,ff,ff,ff,ff,ff,ff,ff,ff,ff,ff,ff,ff,ff,ff,ff,ff] (by kernel_rfl) rfl rfl ⟨(blk_cell BK.out 0).trans rfl, (blk_cell BK.out 1).trans rfl, (blk_cell BK.out 2).trans rfl, (blk_cell BK2.out 0).trans rfl, (blk_cell BK2.out 1).trans rfl⟩ (fun hHeld => ?_)
     refine with_tabW differences.tab7 differences.bits7 (fun HT_ HW_ => ?_)
     generalize wr.drew = w8 at HO HB BK BK2 CQ hHeld ⊢
     refine pQ HT_ 0 (some 31) #[tt,ff,ff,ff,ff,ff,ff,ff,ff,ff,ff,ff,ff,ff,ff,ff,ff,ff] rfl rfl ?_
     refine pQ HT_ 1 (some 32) #[tt,tt,ff,ff,ff,ff,ff,ff,ff,ff,ff,ff,ff,ff,ff,ff,ff,ff] rfl rfl ?_
     refine pQ HT_ 2 (some 33) #[tt,tt,tt,ff,ff,ff,ff,ff,ff,ff,ff,ff,ff,ff,ff,ff,ff,ff] rfl rfl ?_
     refine pQ HT_ 3 (some 34) #[tt,tt,tt,tt,ff,ff,ff,ff,ff,ff,ff,ff,ff,ff,ff,ff,ff,ff] rfl rfl ?_
     refine pQ HT_ 5 (some 36) #[tt,tt,tt,tt,ff,tt,ff,ff,ff,ff,ff,ff,ff,ff,ff,ff,ff,ff] rfl rfl ?_
     refine pQ HT_ 6 (some 37) #[tt,tt,tt,tt,ff,tt,tt,ff,ff,ff,ff,ff,ff,ff,ff,ff,ff,ff] rfl rfl ?_
     refine pQ HT_ 7 (some 38) #[tt,tt,tt,tt,ff,tt,tt,tt,ff,ff,ff,ff,ff,ff,ff,ff,ff,ff] rfl rfl ?_
     refine tQ HT_ HW_ 4 (some 35) #[tt,tt,tt,tt,tt,tt,tt,tt,ff,ff,ff,ff,ff,ff,ff,ff,ff,ff] rfl rfl hHeld (by rintro w' ⟨s0, s1, s2, s3, s4⟩; go_simp; with_reducible rfl) ?_
     refine tQ HT_ HW_ 8 (some 39) #[tt,tt,tt,tt,tt,tt,tt,tt,tt,ff,ff,ff,ff,ff,ff,ff,ff,ff] rfl rfl hHeld (by rintro w' ⟨s0, s1, s2, s3, s4⟩; go_simp; with_reducible rfl) ?_
     refine pQ HT_ 9 (some 40) #[tt,tt,tt,tt,tt,tt,tt,tt,tt,tt,ff,ff,ff,ff,ff,ff,ff,ff] rfl rfl ?_
     refine pQ HT_ 10 (some 41) #[tt,tt,tt,tt,tt,tt,tt,tt,tt,tt,tt,ff,ff,ff,ff,ff,ff,ff] rfl rfl ?_
     refine tQ HT_ HW_ 11 (some 42) #[tt,tt,tt,tt,tt,tt,tt,tt,tt,tt,tt,tt,ff,ff,ff,ff,ff,ff] rfl rfl hHeld (by rintro w' ⟨s0, s1, s2, s3, s4⟩; go_simp; with_reducible rfl) ?_
     refine one_ (i := 12) (N := some 43) #[tt,tt,tt,tt,tt,tt,tt,tt,tt,tt,tt,tt,tt,ff,ff,ff,ff,ff] rfl rfl (one_of HT_.out (by kernel_rfl)) (by decide) (fun K hK => ?_)
     refine goesF_ hfn hname hbody #[.agg #[.int .i64 t.f0, .bool t.f1], .agg #[.int .i64 u.f0, .bool u.f1]] (by rfl) rfl rfl rfl hM ?_
     with_reducible refine (hF t u (d, ok) _ (GOk.below HG.out HB.out) A2.out).mono ?_
     rintro e w9 ⟨rfl, hb⟩
     refine ⟨_, rfl, ?_⟩
     have n0_ := Q0_ (Kd.R_below HO.out hb)
     have n1_ := Q0_ (below_step HB.out hb)
     have n2_ := Q0_ (blk_below BK.out hb)
     have n3_ := Q0_ (blk_below BK2.out hb)
     have n4_ := Q0_ (Chain.below hb CQ.out)
     clear HO HB BK BK2 CQ hb
     have HO := n0_
     have HB := n1_
     have BK := n2_
     have BK2 := n3_
     have CQ := n4_
     clear n0_ n1_ n2_ n3_ n4_
     refine hK.out _ _ ⟨(blk_cell BK.out 0).trans rfl, (blk_cell BK.out 1).trans rfl, (blk_cell BK.out 2).trans rfl, (blk_cell BK2.out 0).trans rfl, (blk_cell BK2.out 1).trans rfl⟩ (fun hHeld => ?_)
     clear hK K
     refine norm_ (a' := ?_) ?_ ?_
     rotate_left
     ·show Act.put _ (some 43) _ = _
      simp only [Act.put, sI, s0, sS, i64_w, i32_w]
      rfl
     refine pQ HT_ 13 (some 30) #[tt,tt,tt,tt,tt,tt,tt,tt,tt,tt,tt,tt,tt,tt,ff,ff,ff,ff] rfl rfl ?_
     refine pQ HT_ 14 (some 44) #[tt,tt,tt,tt,tt,tt,tt,tt,tt,tt,tt,tt,tt,tt,tt,ff,ff,ff] rfl rfl ?_
     refine pQ HT_ 15 (some 45) #[tt,tt,tt,tt,tt,tt,tt,tt,tt,tt,tt,tt,tt,tt,tt,tt,ff,ff] rfl rfl ?_
     refine pQ HT_ 16 (some 7) #[tt,tt,tt,tt,tt,tt,tt,tt,tt,tt,tt,tt,tt,tt,tt,tt,tt,ff] rfl rfl ?_
     refine pQ HT_ 17 (some 8) #[tt,tt,tt,tt,tt,tt,tt,tt,tt,tt,tt,tt,tt,tt,tt,tt,tt,tt] rfl rfl ?_
     refine done_ (done_of HT_.out (by kernel_rfl)) ?_
     have y2 : w9.cell? ⟨g, 2, none⟩ = some (.pointer (some ⟨g2, 0, none⟩)) := (blk_cell BK.out 2).trans rfl
     cases ok with
     | false =>
      rw [if_neg (show ¬ (false = true) by decide)] at E
      have H3 : Aside0 (dfGo F u us acc = some r) := ⟨E⟩
      clear E
      try go_wp2
      go_roundg k1
      case measure => omega
      case rel => exact ⟨acc, u, us, some ⟨g2, 0, none⟩, rfl, HTS.out, by have h_ := HAL.out; omega, H3, HO, CQ, HB⟩
     | true =>
      rw [if_pos rfl] at E
      have H3 : Aside0 (dfGo F u us (acc ++ [d]) = some r) := ⟨E⟩
      clear E y2
      have HOX := HO
      have HBX := HB
      have BKX := BK
      have CQX := CQ
      clear HO HB BK BK2 CQ
      go_wp2_with (first | ((with_reducible refine gate_builtin (b := .append) (xs := #[.tmp 47, .tmp 49]) rfl ?_); at_builtin; refine Kd.R_append (Kd.int .i64) (w0 := w) w.heap.size rfl (.tmp 47) (.tmp 49) 47 3 (.int .i64 0) 8 rfl Tryd.underlying47 info3 rfl (by decide) (by omega) _ acc d [.int .i64 d] (fun _ => True) (fun _ => False) rfl rfl ?aP (fun _ hk => hk.elim) ?aF ?aO ?aB ?aS ?aL ?_; (case aP => exact rfl); (case aB => exact HBX.out); (case aF => exact (fun _ _ => trivial)); (case aO => exact HOX.out); (case aS => exact (below_size HBX.out)); (case aL => have h_ := HAL.out; have h2_ := HN.out; omega); intro v99 w26 ho hb hg hat; have n0_ := Q0_ (Kd.R_mono ho (fun _ _ => trivial)); have n1_ := Aside0.mk hb; have n2_ := Q0_ (blk_grown BKX.out hg (Kd.R_ne HOX.out BKX.out (by decide))); have n3_ := Q0_ (Chain.grown hg (fun g_ cs_ h_ => Kd.R_ne HOX.out h_ (by decide)) CQX.out); clear ho hb hg hat; have HO := n0_; have HB := n1_; have BK := n2_; have CQ := n3_; clear n0_ n1_ n2_ n3_; have y2 : w26.cell? ⟨g, 2, none⟩ = some (.pointer (some ⟨g2, 0, none⟩)) := (blk_cell BK.out 2).trans rfl))
      go_roundg k1
      case measure => omega
      case rel => exact ⟨acc ++ [d], u, us, some ⟨g2, 0, none⟩, rfl, HTS.out, by have h_ := HAL.out; rw [List.length_append]; simp only [List.length_cons, List.length_nil]; omega, H3, HO, CQ, HB⟩
def impl_MelodySemis.f (k : Nat) (l0 : List (S25)) : Option (List Int) := differences.f (fun t u => impl_ToneSemis.f k t.f0 t.f1 u.f0 u.f1) k l0
set_option maxHeartbeats 8000000 in
set_option maxRecDepth 100000 in
theorem impl_MelodySemis.calls (k : Nat) (A0 : Option Addr) (c0 : Nat) (l0 : List (S25)) (r : List Int) (w : World) (hr0 : Kd.C k25 w A0 l0.length l0) (hc0 : l0.length ≤ c0) (hG : GOk [1] w) (h : impl_MelodySemis.f k l0 = some r) :
  Calls Tryd.prog 85 #[.slice A0 l0.length c0] w fun e w' => ∃ v0_ : Value, e = .returned (v0_) ∧ Kd.R (Kd.int .i64) 3 w' w.heap.size (fun _ => True) v0_ r ∧ Below w.heap.size w w' := by
 unfold impl_MelodySemis.f at h
 have hD := fun w' hr hg => differences.calls (fun t u => impl_ToneSemis.f k t.f0 t.f1 u.f0 u.f1) 103 _ Tryd.func103 (by kernel_rfl) rfl (fun t u x w hG h => impl_ToneSemis.calls k t.f0 t.f1 u.f0 u.f1 x.1 x.2 w hG h) k A0 c0 l0 r w' hr hc0 hg h
 go_enter Tryd.func85, Tryd.ntmps85
 go_wp2_with (first | (go_at_call 102; ((with_reducible refine (hD _ hr0 hG).mono ?_); rintro e w4 ⟨v0, rfl, ho, hb⟩; have HO := Aside0.mk ho; have HB := Aside0.mk hb; clear ho hb)))
 go_ret
 exact ⟨_, rfl, HO.out, HB.out⟩
end Go.Proofs.YtdgmkfbmeaalpaaDoor.E
end
section
namespace Go.Proofs.YtdgmkfbmeaalpaaDoor.E
open Go.RowKit Go.Proofs.YtdgmkfbmeaalpaaDoorW.PrintWords Go.Proofs.YtdgmkfbmeaalpaaDoorW.PrintLast Go.Proofs.YtdgmkfbmeaalpaaDoorW.PrintMore
attribute [local go_sem] max2_int min2_int max_two min_two max_three min_three max_four min_four
set_option linter.unusedVariables false
set_option linter.unusedSimpArgs false
attribute [local go_sem] str_leq_ str_gtr_ str_geq_
def impl_ToneSteps.f (a0_0 : Int) (a0_1 : Bool) (a1_0 : Int) (a1_1 : Bool) : Option (Int × Bool) := (impl_Tone_valid.f a0_0 a0_1).bind fun t1155 => (if t1155 = true then ((impl_Tone_valid.f a1_0 a1_1).bind fun t1156 => (if t1156 = true then (some (wrap64 (a1_0 - a0_0), true)) else (some (0, false)))) else (some (0, false)))
set_option maxHeartbeats 8000000 in
set_option maxRecDepth 100000 in
theorem impl_ToneSteps.calls (a0_0 : Int) (a0_1 : Bool) (a1_0 : Int) (a1_1 : Bool) (r1 : Int) (r2 : Bool) (w : World) (h : impl_ToneSteps.f a0_0 a0_1 a1_0 a1_1 = some (r1, r2)) :
  Calls Tryd.prog 104 #[.agg #[.int .i64 a0_0, .bool a0_1], .agg #[.int .i64 a1_0, .bool a1_1]] w fun e w' => e = .returned (.tuple #[.int .i64 r1, .bool r2]) ∧ Below w.heap.size w w' := by
 have hu25 := Tryd.underlying25
 have HB := Q0_ (Below.refl w.heap.size w)
 have H : ((impl_Tone_valid.f a0_0 a0_1).bind fun t1155 => (if t1155 = true then ((impl_Tone_valid.f a1_0 a1_1).bind fun t1156 => (if t1156 = true then (some (wrap64 (a1_0 - a0_0), true)) else (some (0, false)))) else (some (0, false)))) = some (r1, r2) := h
 clear h
 obtain ⟨t1155, A30, H⟩ := Option.bind_eq_some_iff.mp H
 try dsimp only at H
 have A3 := Aside0.mk A30
 clear A30
 by_cases c4 : t1155 = true
 rotate_left
 ·replace c4 := Bool.eq_false_iff.mpr c4
  subst c4
  replace H := ifN ((show ¬ (false = true) by decide)) H
  simp only [Option.some.injEq, Prod.mk.injEq] at H
  obtain ⟨rfl, rfl⟩ := H
  go_enter Tryd.func104, Tryd.ntmps104
  go_wp2_with (first | ((with_reducible refine gate_dst (N := 2) rfl ?_); refine box_event ?hg (N := 2) ?hd (cs := #[.int .i64 a0_0, .bool a0_1]) (t := 25) ?hr ?_; (case hd => rfl); (case hg => rfl); (case hr => first | (go_simp; done) | (go_simp; rfl)); intro gb1153 hg w23 hbox hb; have n0_ := Q0_ (below_step (upB HB) hb); have n1_ := Q0_ (hbox); have n2_ := Q0_ ((by rw [hg]; exact (below_size (upB HB)) : w.heap.size ≤ gb1153)); have n3_ := Q0_ ((by rw [hg]; exact (below_size (upB HB)) : w.heap.size ≤ gb1153)); clear HB; revert n0_ n1_ n2_ n3_; intro HB BK1153 GW1153 GE1153; clear hb hbox hg) | ((with_reducible refine gate_dst (N := 3) rfl ?_); refine box_event ?hg (N := 3) ?hd (cs := #[.int .i64 a1_0, .bool a1_1]) (t := 25) ?hr ?_; (case hd => rfl); (case hg => rfl); (case hr => first | (go_simp; done) | (go_simp; rfl)); intro gb1154 hg w24 hbox hb; have n0_ := Q0_ (blk_below (upK BK1153) hb); have n1_ := Q0_ (below_step upH hb); have n2_ := Q0_ (hbox); have n3_ := Q0_ ((by rw [hg]; exact (below_size upH) : w.heap.size ≤ gb1154)); have n4_ := Q0_ ((by rw [hg]; exact (below_size upH) : w.heap.size ≤ gb1154)); have n5_ := Q0_ ((by rw [hg]; exact Nat.ne_of_lt (blk_lt (upK BK1153)) : gb1153 ≠ gb1154)); have n6_ := Q0_ ((by rw [hg]; exact Nat.ne_of_gt (blk_lt (upK BK1153)) : gb1154 ≠ gb1153)); clear BK1153 HB; revert n0_ n1_ n2_ n3_ n4_ n5_ n6_; intro BK1153 HB BK1154 GW1154 GE1154 NB1153_1154 NB1154_1153; clear hb hbox hg; have hnb25 := NB1153_1154.out; have hnc25 := NB1154_1153.out; have hcz26_0 : w24.cell? ⟨gb1153, 0, none⟩ = some (.int .i64 a0_0) := (blk_cell BK1153.out 0).trans rfl; have hcz26_1 : w24.cell? ⟨gb1153, 1, none⟩ = some (.bool a0_1) := (blk_cell BK1153.out 1).trans rfl; have hfz26_0 := blk_frozen BK1153.out 0; have hfz26_1 := blk_frozen BK1153.out 1) | ((with_reducible refine gate_callee (f := 65) rfl ?_); refine goesL_ (some 7) rfl rfl Tryd.func65 (by kernel_rfl) rfl #[.agg #[.int .i64 a0_0, .bool a0_1]] rfl hM ?_; (with_reducible refine (impl_Tone_valid.calls a0_0 a0_1 false _ A3.out).mono ?_); rintro e w27 ⟨rfl, hb⟩; refine ⟨_, rfl, ?_⟩; have n0_ := Q0_ (blk_below (upK BK1153) hb); have n1_ := Q0_ (blk_below (upK BK1154) hb); have n2_ := Q0_ (below_step upH hb); clear BK1153 BK1154 HB; revert n0_ n1_ n2_; intro BK1153 BK1154 HB; (try clear hb); (try clear hb2); (try clear hk); (try clear hi)))
  go_ret2
  exact ⟨by first | rfl | (simp [errW_none, errW_some] <;> rfl) | (simp [*, errW_none, errW_some] <;> rfl), by repeat (first | (with_reducible first | exact HB.out | apply below_alloc | apply pw_below_drewN | apply below_drew1 | refine below_set ?_ GE1153.out | refine below_set ?_ GE1154.out) | exact HB.out)⟩
 subst c4
 replace H := ifP (rfl) H
 obtain ⟨t1156, A50, H⟩ := Option.bind_eq_some_iff.mp H
 try dsimp only at H
 have A5 := Aside0.mk A50
 clear A50
 by_cases c6 : t1156 = true
 ·subst c6
  replace H := ifP (rfl) H
  simp only [Option.some.injEq, Prod.mk.injEq] at H
  obtain ⟨rfl, rfl⟩ := H
  go_enter Tryd.func104, Tryd.ntmps104
  go_wp2_with (first | ((with_reducible refine gate_dst (N := 2) rfl ?_); refine box_event ?hg (N := 2) ?hd (cs := #[.int .i64 a0_0, .bool a0_1]) (t := 25) ?hr ?_; (case hd => rfl); (case hg => rfl); (case hr => first | (go_simp; done) | (go_simp; rfl)); intro gb1153 hg w7 hbox hb; have n0_ := Q0_ (below_step (upB HB) hb); have n1_ := Q0_ (hbox); have n2_ := Q0_ ((by rw [hg]; exact (below_size (upB HB)) : w.heap.size ≤ gb1153)); have n3_ := Q0_ ((by rw [hg]; exact (below_size (upB HB)) : w.heap.size ≤ gb1153)); clear HB; revert n0_ n1_ n2_ n3_; intro HB BK1153 GW1153 GE1153; clear hb hbox hg) | ((with_reducible refine gate_dst (N := 3) rfl ?_); refine box_event ?hg (N := 3) ?hd (cs := #[.int .i64 a1_0, .bool a1_1]) (t := 25) ?hr ?_; (case hd => rfl); (case hg => rfl); (case hr => first | (go_simp; done) | (go_simp; rfl)); intro gb1154 hg w8 hbox hb; have n0_ := Q0_ (blk_below (upK BK1153) hb); have n1_ := Q0_ (below_step upH hb); have n2_ := Q0_ (hbox); have n3_ := Q0_ ((by rw [hg]; exact (below_size upH) : w.heap.size ≤ gb1154)); have n4_ := Q0_ ((by rw [hg]; exact (below_size upH) : w.heap.size ≤ gb1154)); have n5_ := Q0_ ((by rw [hg]; exact Nat.ne_of_lt (blk_lt (upK BK1153)) : gb1153 ≠ gb1154)); have n6_ := Q0_ ((by rw [hg]; exact Nat.ne_of_gt (blk_lt (upK BK1153)) : gb1154 ≠ gb1153)); clear BK1153 HB; revert n0_ n1_ n2_ n3_ n4_ n5_ n6_; intro BK1153 HB BK1154 GW1154 GE1154 NB1153_1154 NB1154_1153; clear hb hbox hg; have hnb9 := NB1153_1154.out; have hnc9 := NB1154_1153.out; have hcz10_0 : w8.cell? ⟨gb1153, 0, none⟩ = some (.int .i64 a0_0) := (blk_cell BK1153.out 0).trans rfl; have hcz10_1 : w8.cell? ⟨gb1153, 1, none⟩ = some (.bool a0_1) := (blk_cell BK1153.out 1).trans rfl; have hfz10_0 := blk_frozen BK1153.out 0; have hfz10_1 := blk_frozen BK1153.out 1) | ((with_reducible refine gate_callee (f := 65) rfl ?_); refine goesL_ (some 7) rfl rfl Tryd.func65 (by kernel_rfl) rfl #[.agg #[.int .i64 a0_0, .bool a0_1]] rfl hM ?_; (with_reducible refine (impl_Tone_valid.calls a0_0 a0_1 true _ A3.out).mono ?_); rintro e w11 ⟨rfl, hb⟩; refine ⟨_, rfl, ?_⟩; have n0_ := Q0_ (blk_below (upK BK1153) hb); have n1_ := Q0_ (blk_below (upK BK1154) hb); have n2_ := Q0_ (below_step upH hb); clear BK1153 BK1154 HB; revert n0_ n1_ n2_; intro BK1153 BK1154 HB; (try clear hb); (try clear hb2); (try clear hk); (try clear hi); have hcz12_0 : w11.cell? ⟨gb1154, 0, none⟩ = some (.int .i64 a1_0) := (blk_cell BK1154.out 0).trans rfl; have hcz12_1 : w11.cell? ⟨gb1154, 1, none⟩ = some (.bool a1_1) := (blk_cell BK1154.out 1).trans rfl; have hfz12_0 := blk_frozen BK1154.out 0; have hfz12_1 := blk_frozen BK1154.out 1) | (go_at_call 65; (with_reducible refine (impl_Tone_valid.calls a1_0 a1_1 true _ A5.out).mono ?_); rintro e w13 ⟨rfl, hb⟩; have n0_ := Q0_ (blk_below (upK BK1153) hb); have n1_ := Q0_ (blk_below (upK BK1154) hb); have n2_ := Q0_ (below_step upH hb); clear BK1153 BK1154 HB; revert n0_ n1_ n2_; intro BK1153 BK1154 HB; (try clear hb); (try clear hb2); (try clear hk); (try clear hi); have hcz14_0 : w13.cell? ⟨gb1154, 0, none⟩ = some (.int .i64 a1_0) := (blk_cell BK1154.out 0).trans rfl; have hcz14_1 : w13.cell? ⟨gb1154, 1, none⟩ = some (.bool a1_1) := (blk_cell BK1154.out 1).trans rfl; have hfz14_0 := blk_frozen BK1154.out 0; have hfz14_1 := blk_frozen BK1154.out 1; have hcz15_0 : w13.cell? ⟨gb1153, 0, none⟩ = some (.int .i64 a0_0) := (blk_cell BK1153.out 0).trans rfl; have hcz15_1 : w13.cell? ⟨gb1153, 1, none⟩ = some (.bool a0_1) := (blk_cell BK1153.out 1).trans rfl; have hfz15_0 := blk_frozen BK1153.out 0; have hfz15_1 := blk_frozen BK1153.out 1))
  go_ret2
  exact ⟨by first | rfl | (simp [errW_none, errW_some] <;> rfl) | (simp [*, errW_none, errW_some] <;> rfl), by repeat (first | (with_reducible first | exact HB.out | apply below_alloc | apply pw_below_drewN | apply below_drew1 | refine below_set ?_ GE1153.out | refine below_set ?_ GE1154.out) | exact HB.out)⟩
 replace c6 := Bool.eq_false_iff.mpr c6
 subst c6
 replace H := ifN ((show ¬ (false = true) by decide)) H
 simp only [Option.some.injEq, Prod.mk.injEq] at H
 obtain ⟨rfl, rfl⟩ := H
 go_enter Tryd.func104, Tryd.ntmps104
 go_wp2_with (first | ((with_reducible refine gate_dst (N := 2) rfl ?_); refine box_event ?hg (N := 2) ?hd (cs := #[.int .i64 a0_0, .bool a0_1]) (t := 25) ?hr ?_; (case hd => rfl); (case hg => rfl); (case hr => first | (go_simp; done) | (go_simp; rfl)); intro gb1153 hg w16 hbox hb; have n0_ := Q0_ (below_step (upB HB) hb); have n1_ := Q0_ (hbox); have n2_ := Q0_ ((by rw [hg]; exact (below_size (upB HB)) : w.heap.size ≤ gb1153)); have n3_ := Q0_ ((by rw [hg]; exact (below_size (upB HB)) : w.heap.size ≤ gb1153)); clear HB; revert n0_ n1_ n2_ n3_; intro HB BK1153 GW1153 GE1153; clear hb hbox hg) | ((with_reducible refine gate_dst (N := 3) rfl ?_); refine box_event ?hg (N := 3) ?hd (cs := #[.int .i64 a1_0, .bool a1_1]) (t := 25) ?hr ?_; (case hd => rfl); (case hg => rfl); (case hr => first | (go_simp; done) | (go_simp; rfl)); intro gb1154 hg w17 hbox hb; have n0_ := Q0_ (blk_below (upK BK1153) hb); have n1_ := Q0_ (below_step upH hb); have n2_ := Q0_ (hbox); have n3_ := Q0_ ((by rw [hg]; exact (below_size upH) : w.heap.size ≤ gb1154)); have n4_ := Q0_ ((by rw [hg]; exact (below_size upH) : w.heap.size ≤ gb1154)); have n5_ := Q0_ ((by rw [hg]; exact Nat.ne_of_lt (blk_lt (upK BK1153)) : gb1153 ≠ gb1154)); have n6_ := Q0_ ((by rw [hg]; exact Nat.ne_of_gt (blk_lt (upK BK1153)) : gb1154 ≠ gb1153)); clear BK1153 HB; revert n0_ n1_ n2_ n3_ n4_ n5_ n6_; intro BK1153 HB BK1154 GW1154 GE1154 NB1153_1154 NB1154_1153; clear hb hbox hg; have hnb18 := NB1153_1154.out; have hnc18 := NB1154_1153.out; have hcz19_0 : w17.cell? ⟨gb1153, 0, none⟩ = some (.int .i64 a0_0) := (blk_cell BK1153.out 0).trans rfl; have hcz19_1 : w17.cell? ⟨gb1153, 1, none⟩ = some (.bool a0_1) := (blk_cell BK1153.out 1).trans rfl; have hfz19_0 := blk_frozen BK1153.out 0; have hfz19_1 := blk_frozen BK1153.out 1) | ((with_reducible refine gate_callee (f := 65) rfl ?_); refine goesL_ (some 7) rfl rfl Tryd.func65 (by kernel_rfl) rfl #[.agg #[.int .i64 a0_0, .bool a0_1]] rfl hM ?_; (with_reducible refine (impl_Tone_valid.calls a0_0 a0_1 true _ A3.out).mono ?_); rintro e w20 ⟨rfl, hb⟩; refine ⟨_, rfl, ?_⟩; have n0_ := Q0_ (blk_below (upK BK1153) hb); have n1_ := Q0_ (blk_below (upK BK1154) hb); have n2_ := Q0_ (below_step upH hb); clear BK1153 BK1154 HB; revert n0_ n1_ n2_; intro BK1153 BK1154 HB; (try clear hb); (try clear hb2); (try clear hk); (try clear hi); have hcz21_0 : w20.cell? ⟨gb1154, 0, none⟩ = some (.int .i64 a1_0) := (blk_cell BK1154.out 0).trans rfl; have hcz21_1 : w20.cell? ⟨gb1154, 1, none⟩ = some (.bool a1_1) := (blk_cell BK1154.out 1).trans rfl; have hfz21_0 := blk_frozen BK1154.out 0; have hfz21_1 := blk_frozen BK1154.out 1) | (go_at_call 65; (with_reducible refine (impl_Tone_valid.calls a1_0 a1_1 false _ A5.out).mono ?_); rintro e w22 ⟨rfl, hb⟩; have n0_ := Q0_ (blk_below (upK BK1153) hb); have n1_ := Q0_ (blk_below (upK BK1154) hb); have n2_ := Q0_ (below_step upH hb); clear BK1153 BK1154 HB; revert n0_ n1_ n2_; intro BK1153 BK1154 HB; (try clear hb); (try clear hb2); (try clear hk); (try clear hi)))
 go_ret2
 exact ⟨by first | rfl | (simp [errW_none, errW_some] <;> rfl) | (simp [*, errW_none, errW_some] <;> rfl), by repeat (first | (with_reducible first | exact HB.out | apply below_alloc | apply pw_below_drewN | apply below_drew1 | refine below_set ?_ GE1153.out | refine below_set ?_ GE1154.out) | exact HB.out)⟩
def impl_MelodySteps.f (k : Nat) (l0 : List (S25)) : Option (List Int) := differences.f (fun t u => impl_ToneSteps.f t.f0 t.f1 u.f0 u.f1) k l0
set_option maxHeartbeats 8000000 in
set_option maxRecDepth 100000 in
theorem impl_MelodySteps.calls (k : Nat) (A0 : Option Addr) (c0 : Nat) (l0 : List (S25)) (r : List Int) (w : World) (hr0 : Kd.C k25 w A0 l0.length l0) (hc0 : l0.length ≤ c0) (hG : GOk [1] w) (h : impl_MelodySteps.f k l0 = some r) :
  Calls Tryd.prog 86 #[.slice A0 l0.length c0] w fun e w' => ∃ v0_ : Value, e = .returned (v0_) ∧ Kd.R (Kd.int .i64) 3 w' w.heap.size (fun _ => True) v0_ r ∧ Below w.heap.size w w' := by
 unfold impl_MelodySteps.f at h
 have hD := fun w' hr hg => differences.calls (fun t u => impl_ToneSteps.f t.f0 t.f1 u.f0 u.f1) 104 _ Tryd.func104 (by kernel_rfl) rfl (fun t u x w hG h => impl_ToneSteps.calls t.f0 t.f1 u.f0 u.f1 x.1 x.2 w h) k A0 c0 l0 r w' hr hc0 hg h
 go_enter Tryd.func86, Tryd.ntmps86
 go_wp2_with (first | (go_at_call 102; ((with_reducible refine (hD _ hr0 hG).mono ?_); rintro e w4 ⟨v0, rfl, ho, hb⟩; have HO := Aside0.mk ho; have HB := Aside0.mk hb; clear ho hb)))
 go_ret
 exact ⟨_, rfl, HO.out, HB.out⟩
end Go.Proofs.YtdgmkfbmeaalpaaDoor.E
end
