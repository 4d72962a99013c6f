/- Texts of this claim, joined by a program of this session's (wip/tools/pack.py). -/
import Derived.Test.YtlinjleahnccgaaDoorRowFnToneTextK0
section
namespace Go.Proofs.YtlinjleahnccgaaDoor.E
open Go.RowKit Go.Proofs.YtlinjleahnccgaaDoorW.PrintWords Go.Proofs.YtlinjleahnccgaaDoorW.PrintLast Go.Proofs.YtlinjleahnccgaaDoorW.PrintMore
attribute [local go_sem] max2_int min2_int max_two min_two max_three min_three max_four min_four
set_option linter.unusedVariables false
set_option linter.unusedSimpArgs false
attribute [local go_sem] str_leq_ str_gtr_ str_geq_
def spec_l91Tone.f (k : Nat) (s0_0 : List Int) (s0_1 : Int) : Option (Int × Bool × Int) := (spec_l6Rd_pick.f k s0_0 s0_1 40).bind fun bt183 => (if bt183.1 = 0 then ((some (([(-1), 21, 20, 0] : List Int) : List Int)).bind fun y185 => ((spec_l6Rd_pick.f k s0_0 bt183.2 4).bind fun bt188 => (if 0 ≤ bt188.1 then (if bt188.1 < (y185.length : Int) then (some (rd y185 bt188.1, false, bt188.2)) else (none)) else (none)))) else (if bt183.1 = 1 then ((spec_l6Rd_pick.f k s0_0 bt183.2 21).bind fun bt191 => (some (bt191.1, true, bt191.2))) else ((spec_l6Rd_pick.f k s0_0 bt183.2 11).bind fun bt193 => ((spec_l1Letter.f (wrap64 (3 + bt193.1))).bind fun t195 => (if t195 = 2 then ((spec_l6Rd_pick.f k s0_0 bt193.2 2).bind fun bt196 => (some (wrap64 (3 + bt193.1), (bt196.1 == 0), bt196.2))) else (some (wrap64 (3 + bt193.1), false, bt193.2)))))))
set_option maxHeartbeats 8000000 in
set_option maxRecDepth 100000 in
theorem spec_l91Tone.calls (k : Nat) (g : Nat) (s0_0 : List Int) (s0_1 : Int) (r1 : Int) (r2 : Bool) (r3 : Int) (w0 w : World) (hI : IsS80 w0 w g s0_0 s0_1) (hB : Below w0.heap.size w0 w) (h : spec_l91Tone.f k s0_0 s0_1 = some (r1, r2, r3)) :
  Calls Tryd.prog 44 #[.pointer (some ⟨g, 0, none⟩)] w fun e w' => e = .returned (.agg #[.int .i64 r1, .bool r2]) ∧ IsS80 w0 w' g s0_0 r3 ∧ Below w0.heap.size w0 w' ∧ KeepBut w w' g none := by
 have hu25 := Tryd.underlying25
 have HI0 := Aside0.mk hI
 have HK := Aside0.mk (KeepBut.refl w g none)
 have HL := Aside0.mk hB.size
 clear hI
 have HW0 := Aside0.mk hB.size
 have HB := Aside0.mk hB
 clear hB
 have H : ((spec_l6Rd_pick.f k s0_0 s0_1 40).bind fun bt183 => (if bt183.1 = 0 then ((some (([(-1), 21, 20, 0] : List Int) : List Int)).bind fun y185 => ((spec_l6Rd_pick.f k s0_0 bt183.2 4).bind fun bt188 => (if 0 ≤ bt188.1 then (if bt188.1 < (y185.length : Int) then (some (rd y185 bt188.1, false, bt188.2)) else (none)) else (none)))) else (if bt183.1 = 1 then ((spec_l6Rd_pick.f k s0_0 bt183.2 21).bind fun bt191 => (some (bt191.1, true, bt191.2))) else ((spec_l6Rd_pick.f k s0_0 bt183.2 11).bind fun bt193 => ((spec_l1Letter.f (wrap64 (3 + bt193.1))).bind fun t195 => (if t195 = 2 then ((spec_l6Rd_pick.f k s0_0 bt193.2 2).bind fun bt196 => (some (wrap64 (3 + bt193.1), (bt196.1 == 0), bt196.2))) else (some (wrap64 (3 + bt193.1), false, bt193.2)))))))) = some (r1, r2, r3) := h
 clear h
 replace H := Option.bind_eq_some_iff.mp H
 obtain ⟨⟨t183, t184⟩, A20, H⟩ := H
 replace H : (if t183 = 0 then ((some (([(-1), 21, 20, 0] : List Int) : List Int)).bind fun y185 => ((spec_l6Rd_pick.f k s0_0 t184 4).bind fun bt188 => (if 0 ≤ bt188.1 then (if bt188.1 < (y185.length : Int) then (some (rd y185 bt188.1, false, bt188.2)) else (none)) else (none)))) else (if t183 = 1 then ((spec_l6Rd_pick.f k s0_0 t184 21).bind fun bt191 => (some (bt191.1, true, bt191.2))) else ((spec_l6Rd_pick.f k s0_0 t184 11).bind fun bt193 => ((spec_l1Letter.f (wrap64 (3 + bt193.1))).bind fun t195 => (if t195 = 2 then ((spec_l6Rd_pick.f k s0_0 bt193.2 2).bind fun bt196 => (some (wrap64 (3 + bt193.1), (bt196.1 == 0), bt196.2))) else (some (wrap64 (3 + bt193.1), false, bt193.2))))))) = some (r1, r2, r3) := H
 have A2 := Aside0.mk A20
 clear A20
 by_cases c3 : t183 = 0
 ·rw [if_pos c3] at H
  have c3b0 : (t183 == 0) = true := beq_iff_eq.mpr c3
  have c3b1 : (t183 != 0) = false := bne_eq_false_iff_eq.mpr c3
  clear c3
  obtain ⟨y185, hy185⟩ : ∃ y_ : List Int, y_ = (([(-1), 21, 20, 0] : List Int)) := ⟨_, rfl⟩
  replace H : ((spec_l6Rd_pick.f k s0_0 t184 4).bind fun bt188 => (if 0 ≤ bt188.1 then (if bt188.1 < (y185.length : Int) then (some (rd y185 bt188.1, false, bt188.2)) else (none)) else (none))) = some (r1, r2, r3) := by first | (rw [hy185]; with_reducible exact H) | (have H2_ := (Option.bind_some _ _).symm.trans H; rw [hy185]; with_reducible exact H2_) | (have H2_ := (Option.bind_some _ _).symm.trans H; with_reducible exact H2_) | with_reducible exact H | (rw [hy185]; exact H) | exact H
  have Ny185 := Aside0.mk hy185
  clear hy185
  replace H := Option.bind_eq_some_iff.mp H
  obtain ⟨⟨t188, t189⟩, A40, H⟩ := H
  replace H : (if 0 ≤ t188 then (if t188 < (y185.length : Int) then (some (rd y185 t188, false, t189)) else (none)) else (none)) = some (r1, r2, r3) := H
  have A4 := Aside0.mk A40
  clear A40
  by_cases c5 : 0 ≤ t188
  rotate_left
  ·rw [if_neg c5] at H
   exact absurd H (by simp)
  rw [if_pos c5] at H
  have c5b0 : decide (0 ≤ t188) = true := decide_eq_true c5
  clear c5
  by_cases c6 : t188 < (y185.length : Int)
  rotate_left
  ·rw [if_neg c6] at H
   exact absurd H (by simp)
  rw [if_pos c6] at H
  have c6b0 : decide (t188 < (y185.length : Int)) = true := decide_eq_true c6
  clear c6
  simp only [Option.some.injEq, Prod.mk.injEq] at H
  obtain ⟨rfl, rfl, rfl⟩ := H
  go_enter Tryd.func44, Tryd.ntmps44
  go_wp2_with (first | ((with_reducible refine gate_dst (N := 2) rfl ?_); refine box_event ?hg (N := 2) ?hd (cs := #[.int .i64 0, .bool false]) (t := 25) ?hr ?_; (case hd => rfl); (case hg => rfl); (case hr => first | (go_simp; done) | (go_simp; rfl)); intro gb182 hg w7 hbox hb; have n0_ := Aside0.mk (IsS80.below (by repeat (first | (with_reducible first | exact HI0.out | apply IsS80.alloc | apply IsS80.drewN | apply IsS80.drew | apply IsS80.set_1) | exact HI0.out)) hb); have n1_ := Aside0.mk (KeepBut.trans (by repeat (first | (with_reducible first | exact HK.out | apply KeepBut.set_ | apply keep_drewN | apply keep_drew | apply keep_alloc) | exact HK.out)) (KeepBut.of_below hb g none) (.inl rfl)); have n2_ := Aside0.mk (below_step (by repeat (first | (with_reducible first | exact HB.out | apply below_alloc | apply pw_below_drewN | apply below_drew1 | refine below_set ?_ (IsS80.ge HI0.out)) | exact HB.out)) hb); have n3_ := Aside0.mk (hbox); have n4_ := Aside0.mk ((by rw [hg]; exact (keep_size (w := w) (g := g) (row := none) (by repeat (first | (with_reducible first | exact HK.out | apply KeepBut.set_ | apply keep_drewN | apply keep_drew | apply keep_alloc) | exact HK.out))) : w.heap.size ≤ gb182)); have n5_ := Aside0.mk ((Nat.le_trans HW0.out (by rw [hg]; exact (keep_size (w := w) (g := g) (row := none) (by repeat (first | (with_reducible first | exact HK.out | apply KeepBut.set_ | apply keep_drewN | apply keep_drew | apply keep_alloc) | exact HK.out))) : w.heap.size ≤ gb182) : w0.heap.size ≤ gb182)); have n6_ := Aside0.mk ((by rw [hg]; exact Nat.ne_of_lt (IsS80.lt (show IsS80 w0 _ g s0_0 s0_1 from by repeat (first | (with_reducible first | exact HI0.out | apply IsS80.alloc | apply IsS80.drewN | apply IsS80.drew | apply IsS80.set_1) | exact HI0.out))) : g ≠ gb182)); have n7_ := Aside0.mk ((by rw [hg]; exact Nat.ne_of_gt (IsS80.lt (show IsS80 w0 _ g s0_0 s0_1 from by repeat (first | (with_reducible first | exact HI0.out | apply IsS80.alloc | apply IsS80.drewN | apply IsS80.drew | apply IsS80.set_1) | exact HI0.out))) : gb182 ≠ g)); clear HI0; clear HK; clear HB; have HI0 := n0_; have HK := n1_; have HB := n2_; have BK182 := n3_; have GW182 := n4_; have GE182 := n5_; have NB0_182 := n6_; have NB182_0 := n7_; clear n0_ n1_ n2_ n3_ n4_ n5_ n6_ n7_; clear hb hbox hg) | ((with_reducible refine gate_callee (f := 46) rfl ?_); refine goesL_ (some 5) rfl rfl Tryd.func46 (by kernel_rfl) rfl #[.pointer (some ⟨g, 0, none⟩), .int .i64 40] rfl (by (try simp only [List.map_toArray, List.map_cons, List.map_nil]); first | done | rfl | (simp only [List.length_drop, List.length_take]; rfl)) ?_; (with_reducible refine (spec_l6Rd_pick.calls k g s0_0 s0_1 40 t183 t184 w0 _ ?side1 ?side2 A2.out).mono ?_); (case side1 => repeat (first | (with_reducible first | exact HI0.out | apply IsS80.alloc | apply IsS80.drewN | apply IsS80.drew | apply IsS80.set_1 | refine IsS80.far ?_ NB0_182.out _) | exact HI0.out)); (case side2 => repeat (first | (with_reducible first | exact HB.out | apply below_alloc | apply pw_below_drewN | apply below_drew1 | refine below_set ?_ (IsS80.ge HI0.out) | refine below_set ?_ GE182.out) | exact HB.out)); rintro e w8 ⟨rfl, hi, hb, hk⟩; refine ⟨_, rfl, ?_⟩; have n0_ := Aside0.mk (KeepBut.blk hk (g' := gb182) (o := .cells #[.int .i64 0, .bool false] 25 (0, 0)) (by (with_reducible repeat (first | refine blk_drewN ?_ _ | refine blk_drew ?_ | refine blk_alloc ?_ _)); exact BK182.out) NB182_0.out (by simp)); have n1_ := Aside0.mk (KeepBut.trans (by repeat (first | (with_reducible first | exact HK.out | apply KeepBut.set_ | apply keep_drewN | apply keep_drew | apply keep_alloc | refine keep_far ?_ GW182.out _) | exact HK.out)) hk (.inl rfl)); have n2_ := Aside0.mk (hb); have n3_ := Aside0.mk (hi); clear BK182; clear HK; clear HB; clear HI0; have BK182 := n0_; have HK := n1_; have HB := n2_; have HI0 := n3_; clear n0_ n1_ n2_ n3_; (try clear hb); (try clear hb2); (try clear hk); (try clear hi)) | ((with_reducible refine gate_dst (N := 8) rfl ?_); refine Kd.R_lit (Kd.int .i64) _ 3 ?hg (N := 8) ?hd (xs := ([(-1), 21, 20, 0] : List Int)) (inner := [.int .i64 (-1), .int .i64 21, .int .i64 20, .int .i64 0]) (ok := fun _ => True) (okp := fun _ => True) ?hr ?hp (fun _ hk => hk) trivial (Below.refl _ _) (Nat.le_refl _) (by simp) ?_; (case hd => rfl); (case hg => rfl); (case hr => first | (go_simp; done) | (go_simp; rfl)); (case hp => exact (Reps.one (show Kd.M (Kd.int .i64) _ _ _ (-1) [.int .i64 (-1)] from rfl) (Reps.one (show Kd.M (Kd.int .i64) _ _ _ 21 [.int .i64 21] from rfl) (Reps.one (show Kd.M (Kd.int .i64) _ _ _ 20 [.int .i64 20] from rfl) (Reps.one (show Kd.M (Kd.int .i64) _ _ _ 0 [.int .i64 0] from rfl) (Reps.none _ _)))))); intro v186 w9 ho10 hb hg_ hnew_; clear hg_ hnew_; (first | rw [← Ny185.out] at ho10 | (simp only [Int.reduceToNat] at ho10; rw [← Ny185.out] at ho10)); have n0_ := Aside0.mk (Kd.R_lower ho10 (keep_size (w := w) (g := g) (row := none) (by repeat (first | (with_reducible first | exact HK.out | apply KeepBut.set_ | apply keep_drewN | apply keep_drew | apply keep_alloc | refine keep_far ?_ GW182.out _) | exact HK.out)))); have n1_ := Aside0.mk (IsS80.below (by repeat (first | (with_reducible first | exact HI0.out | apply IsS80.alloc | apply IsS80.drewN | apply IsS80.drew | apply IsS80.set_1 | refine IsS80.far ?_ NB0_182.out _) | exact HI0.out)) hb); have n2_ := Aside0.mk (blk_below (g := gb182) (o := .cells #[.int .i64 0, .bool false] 25 (0, 0)) (by (with_reducible repeat (first | refine blk_drewN ?_ _ | refine blk_drew ?_ | refine blk_alloc ?_ _)); exact BK182.out) hb); have n3_ := Aside0.mk (KeepBut.trans (by repeat (first | (with_reducible first | exact HK.out | apply KeepBut.set_ | apply keep_drewN | apply keep_drew | apply keep_alloc | refine keep_far ?_ GW182.out _) | exact HK.out)) (KeepBut.of_below hb g none) (.inl rfl)); have n4_ := Aside0.mk (below_step (by repeat (first | (with_reducible first | exact HB.out | apply below_alloc | apply pw_below_drewN | apply below_drew1 | refine below_set ?_ (IsS80.ge HI0.out) | refine below_set ?_ GE182.out) | exact HB.out)) hb); clear HI0; clear BK182; clear HK; clear HB; have HO187 := n0_; have HI0 := n1_; have BK182 := n2_; have HK := n3_; have HB := n4_; clear n0_ n1_ n2_ n3_ n4_; clear hb ho10) | ((with_reducible refine gate_callee (f := 46) rfl ?_); refine goesL_ (some 10) rfl rfl Tryd.func46 (by kernel_rfl) rfl #[.pointer (some ⟨g, 0, none⟩), .int .i64 4] rfl (by (try simp only [List.map_toArray, List.map_cons, List.map_nil]); first | done | rfl | (simp only [List.length_drop, List.length_take]; rfl)) ?_; (with_reducible refine (spec_l6Rd_pick.calls k g s0_0 t184 4 t188 t189 w0 _ ?side1 ?side2 A4.out).mono ?_); (case side1 => repeat (first | (with_reducible first | exact HI0.out | apply IsS80.alloc | apply IsS80.drewN | apply IsS80.drew | apply IsS80.set_1 | refine IsS80.far ?_ NB0_182.out _) | exact HI0.out)); (case side2 => repeat (first | (with_reducible first | exact HB.out | apply below_alloc | apply pw_below_drewN | apply below_drew1 | refine below_set ?_ (IsS80.ge HI0.out) | refine below_set ?_ GE182.out) | exact HB.out)); rintro e w11 ⟨rfl, hi, hb, hk⟩; refine ⟨_, rfl, ?_⟩; have n0_ := Aside0.mk (KeepBut.blk hk (g' := gb182) (o := .cells #[.int .i64 0, .bool false] 25 (0, 0)) (by (with_reducible repeat (first | refine blk_drewN ?_ _ | refine blk_drew ?_ | refine blk_alloc ?_ _)); exact BK182.out) NB182_0.out (by simp)); have n1_ := Aside0.mk (Kd.R_mono (Kd.R_keep (IsS80.apart (show IsS80 w0 _ g s0_0 t184 from by repeat (first | (with_reducible first | exact HI0.out | apply IsS80.alloc | apply IsS80.drewN | apply IsS80.drew | apply IsS80.set_1 | refine IsS80.far ?_ NB0_182.out _) | exact HI0.out)) (by (with_reducible repeat (first | apply Kd.R_alloc | apply Kd.R_drewN | apply Kd.R_drew)); exact HO187.out) (by decide)) hk (fun _ h => h.2)) (fun _ h => h.1)); have n2_ := Aside0.mk (KeepBut.trans (by repeat (first | (with_reducible first | exact HK.out | apply KeepBut.set_ | apply keep_drewN | apply keep_drew | apply keep_alloc | refine keep_far ?_ GW182.out _) | exact HK.out)) hk (.inl rfl)); have n3_ := Aside0.mk (hb); have n4_ := Aside0.mk (hi); clear BK182; clear HO187; clear HK; clear HB; clear HI0; have BK182 := n0_; have HO187 := n1_; have HK := n2_; have HB := n3_; have HI0 := n4_; clear n0_ n1_ n2_ n3_ n4_; (try clear hb); (try clear hb2); (try clear hk); (try clear hi); obtain ⟨Ao12, co12, eo12⟩ := Kd.R_slice HO187.out; subst eo12; have p190 : 0 ≤ (t188 : Int) := of_decide_eq_true (by first | (with_reducible assumption) | assumption); have q190 : t188 < (y185.length : Int) := of_decide_eq_true (by first | (with_reducible assumption) | assumption); obtain ⟨ad190, e190, hx190_0⟩ := Kd.at_int (Kd.R_reads' HO187.out).2.2 t188 p190 q190; cases e190; replace p190 := eq_true p190; replace q190 := eq_true q190; have hnb13 := NB182_0.out; have hnc13 := NB0_182.out; have hcz14_0 : w11.cell? ⟨gb182, 0, none⟩ = some (.int .i64 0) := (blk_cell BK182.out 0).trans rfl; have hcz14_1 : w11.cell? ⟨gb182, 1, none⟩ = some (.bool false) := (blk_cell BK182.out 1).trans rfl; have hfz14_0 := blk_frozen BK182.out 0; have hfz14_1 := blk_frozen BK182.out 1))
  refine bodyPost_ret (results_cell_row rfl _ _ gb182 25 #[.int .i64 (rd y185 t188), .bool false] (0, 0) _ rfl (by (with_reducible repeat (first | refine blk_drewN ?_ _ | refine blk_drew ?_ | refine blk_alloc ?_ _)); refine blk_put (cs := #[.int .i64 (rd y185 t188), .bool false]) ?_ 1 _ rfl; (with_reducible repeat (first | refine blk_drewN ?_ _ | refine blk_drew ?_ | refine blk_alloc ?_ _)); refine blk_put (cs := #[.int .i64 0, .bool false]) ?_ 0 _ rfl; (with_reducible repeat (first | refine blk_drewN ?_ _ | refine blk_drew ?_ | refine blk_alloc ?_ _)); exact BK182.out) Tryd.underlying25 rfl (by kernel_rfl)) rfl ?_
  exact ⟨by first | rfl | (simp [errW_none, errW_some] <;> rfl) | (simp [*, errW_none, errW_some] <;> rfl), by repeat (first | (with_reducible first | exact HI0.out | apply IsS80.alloc | apply IsS80.drewN | apply IsS80.drew | apply IsS80.set_1 | refine IsS80.far ?_ NB0_182.out _) | exact HI0.out), by repeat (first | (with_reducible first | exact HB.out | apply below_alloc | apply pw_below_drewN | apply below_drew1 | refine below_set ?_ (IsS80.ge HI0.out) | refine below_set ?_ GE182.out) | exact HB.out), by repeat (first | (with_reducible first | exact HK.out | apply KeepBut.set_ | apply keep_drewN | apply keep_drew | apply keep_alloc | refine keep_far ?_ GW182.out _) | exact HK.out)⟩
 rw [if_neg c3] at H
 have c3b0 : (t183 == 0) = false := beq_eq_false_iff_ne.mpr c3
 have c3b1 : (t183 != 0) = true := bne_iff_ne.mpr c3
 by_cases c15 : t183 = 1
 ·rw [if_pos c15] at H
  have c15b0 : (t183 == 1) = true := beq_iff_eq.mpr c15
  have c15b1 : (t183 != 1) = false := bne_eq_false_iff_eq.mpr c15
  clear c15
  replace H := Option.bind_eq_some_iff.mp H
  obtain ⟨⟨t191, t192⟩, A160, H⟩ := H
  replace H : (some (t191, true, t192)) = some (r1, r2, r3) := H
  have A16 := Aside0.mk A160
  clear A160
  simp only [Option.some.injEq, Prod.mk.injEq] at H
  obtain ⟨rfl, rfl, rfl⟩ := H
  go_enter Tryd.func44, Tryd.ntmps44
  go_wp2_with (first | ((with_reducible refine gate_dst (N := 2) rfl ?_); refine box_event ?hg (N := 2) ?hd (cs := #[.int .i64 0, .bool false]) (t := 25) ?hr ?_; (case hd => rfl); (case hg => rfl); (case hr => first | (go_simp; done) | (go_simp; rfl)); intro gb182 hg w17 hbox hb; have n0_ := Aside0.mk (IsS80.below (by repeat (first | (with_reducible first | exact HI0.out | apply IsS80.alloc | apply IsS80.drewN | apply IsS80.drew | apply IsS80.set_1) | exact HI0.out)) hb); have n1_ := Aside0.mk (KeepBut.trans (by repeat (first | (with_reducible first | exact HK.out | apply KeepBut.set_ | apply keep_drewN | apply keep_drew | apply keep_alloc) | exact HK.out)) (KeepBut.of_below hb g none) (.inl rfl)); have n2_ := Aside0.mk (below_step (by repeat (first | (with_reducible first | exact HB.out | apply below_alloc | apply pw_below_drewN | apply below_drew1 | refine below_set ?_ (IsS80.ge HI0.out)) | exact HB.out)) hb); have n3_ := Aside0.mk (hbox); have n4_ := Aside0.mk ((by rw [hg]; exact (keep_size (w := w) (g := g) (row := none) (by repeat (first | (with_reducible first | exact HK.out | apply KeepBut.set_ | apply keep_drewN | apply keep_drew | apply keep_alloc) | exact HK.out))) : w.heap.size ≤ gb182)); have n5_ := Aside0.mk ((Nat.le_trans HW0.out (by rw [hg]; exact (keep_size (w := w) (g := g) (row := none) (by repeat (first | (with_reducible first | exact HK.out | apply KeepBut.set_ | apply keep_drewN | apply keep_drew | apply keep_alloc) | exact HK.out))) : w.heap.size ≤ gb182) : w0.heap.size ≤ gb182)); have n6_ := Aside0.mk ((by rw [hg]; exact Nat.ne_of_lt (IsS80.lt (show IsS80 w0 _ g s0_0 s0_1 from by repeat (first | (with_reducible first | exact HI0.out | apply IsS80.alloc | apply IsS80.drewN | apply IsS80.drew | apply IsS80.set_1) | exact HI0.out))) : g ≠ gb182)); have n7_ := Aside0.mk ((by rw [hg]; exact Nat.ne_of_gt (IsS80.lt (show IsS80 w0 _ g s0_0 s0_1 from by repeat (first | (with_reducible first | exact HI0.out | apply IsS80.alloc | apply IsS80.drewN | apply IsS80.drew | apply IsS80.set_1) | exact HI0.out))) : gb182 ≠ g)); clear HI0; clear HK; clear HB; have HI0 := n0_; have HK := n1_; have HB := n2_; have BK182 := n3_; have GW182 := n4_; have GE182 := n5_; have NB0_182 := n6_; have NB182_0 := n7_; clear n0_ n1_ n2_ n3_ n4_ n5_ n6_ n7_; clear hb hbox hg) | ((with_reducible refine gate_callee (f := 46) rfl ?_); refine goesL_ (some 5) rfl rfl Tryd.func46 (by kernel_rfl) rfl #[.pointer (some ⟨g, 0, none⟩), .int .i64 40] rfl (by (try simp only [List.map_toArray, List.map_cons, List.map_nil]); first | done | rfl | (simp only [List.length_drop, List.length_take]; rfl)) ?_; (with_reducible refine (spec_l6Rd_pick.calls k g s0_0 s0_1 40 t183 t184 w0 _ ?side1 ?side2 A2.out).mono ?_); (case side1 => repeat (first | (with_reducible first | exact HI0.out | apply IsS80.alloc | apply IsS80.drewN | apply IsS80.drew | apply IsS80.set_1 | refine IsS80.far ?_ NB0_182.out _) | exact HI0.out)); (case side2 => repeat (first | (with_reducible first | exact HB.out | apply below_alloc | apply pw_below_drewN | apply below_drew1 | refine below_set ?_ (IsS80.ge HI0.out) | refine below_set ?_ GE182.out) | exact HB.out)); rintro e w18 ⟨rfl, hi, hb, hk⟩; refine ⟨_, rfl, ?_⟩; have n0_ := Aside0.mk (KeepBut.blk hk (g' := gb182) (o := .cells #[.int .i64 0, .bool false] 25 (0, 0)) (by (with_reducible repeat (first | refine blk_drewN ?_ _ | refine blk_drew ?_ | refine blk_alloc ?_ _)); exact BK182.out) NB182_0.out (by simp)); have n1_ := Aside0.mk (KeepBut.trans (by repeat (first | (with_reducible first | exact HK.out | apply KeepBut.set_ | apply keep_drewN | apply keep_drew | apply keep_alloc | refine keep_far ?_ GW182.out _) | exact HK.out)) hk (.inl rfl)); have n2_ := Aside0.mk (hb); have n3_ := Aside0.mk (hi); clear BK182; clear HK; clear HB; clear HI0; have BK182 := n0_; have HK := n1_; have HB := n2_; have HI0 := n3_; clear n0_ n1_ n2_ n3_; (try clear hb); (try clear hb2); (try clear hk); (try clear hi)) | ((with_reducible refine gate_callee (f := 46) rfl ?_); refine goesL_ (some 17) rfl rfl Tryd.func46 (by kernel_rfl) rfl #[.pointer (some ⟨g, 0, none⟩), .int .i64 21] rfl (by (try simp only [List.map_toArray, List.map_cons, List.map_nil]); first | done | rfl | (simp only [List.length_drop, List.length_take]; rfl)) ?_; (with_reducible refine (spec_l6Rd_pick.calls k g s0_0 t184 21 t191 t192 w0 _ ?side1 ?side2 A16.out).mono ?_); (case side1 => repeat (first | (with_reducible first | exact HI0.out | apply IsS80.alloc | apply IsS80.drewN | apply IsS80.drew | apply IsS80.set_1 | refine IsS80.far ?_ NB0_182.out _) | exact HI0.out)); (case side2 => repeat (first | (with_reducible first | exact HB.out | apply below_alloc | apply pw_below_drewN | apply below_drew1 | refine below_set ?_ (IsS80.ge HI0.out) | refine below_set ?_ GE182.out) | exact HB.out)); rintro e w19 ⟨rfl, hi, hb, hk⟩; refine ⟨_, rfl, ?_⟩; have n0_ := Aside0.mk (KeepBut.blk hk (g' := gb182) (o := .cells #[.int .i64 0, .bool false] 25 (0, 0)) (by (with_reducible repeat (first | refine blk_drewN ?_ _ | refine blk_drew ?_ | refine blk_alloc ?_ _)); exact BK182.out) NB182_0.out (by simp)); have n1_ := Aside0.mk (KeepBut.trans (by repeat (first | (with_reducible first | exact HK.out | apply KeepBut.set_ | apply keep_drewN | apply keep_drew | apply keep_alloc | refine keep_far ?_ GW182.out _) | exact HK.out)) hk (.inl rfl)); have n2_ := Aside0.mk (hb); have n3_ := Aside0.mk (hi); clear BK182; clear HK; clear HB; clear HI0; have BK182 := n0_; have HK := n1_; have HB := n2_; have HI0 := n3_; clear n0_ n1_ n2_ n3_; (try clear hb); (try clear hb2); (try clear hk); (try clear hi); have hnb20 := NB182_0.out; have hnc20 := NB0_182.out; have hcz21_0 : w19.cell? ⟨gb182, 0, none⟩ = some (.int .i64 0) := (blk_cell BK182.out 0).trans rfl; have hcz21_1 : w19.cell? ⟨gb182, 1, none⟩ = some (.bool false) := (blk_cell BK182.out 1).trans rfl; have hfz21_0 := blk_frozen BK182.out 0; have hfz21_1 := blk_frozen BK182.out 1))
  refine bodyPost_ret (results_cell_row rfl _ _ gb182 25 #[.int .i64 t191, .bool true] (0, 0) _ rfl (by (with_reducible repeat (first | refine blk_drewN ?_ _ | refine blk_drew ?_ | refine blk_alloc ?_ _)); refine blk_put (cs := #[.int .i64 t191, .bool false]) ?_ 1 _ rfl; (with_reducible repeat (first | refine blk_drewN ?_ _ | refine blk_drew ?_ | refine blk_alloc ?_ _)); refine blk_put (cs := #[.int .i64 0, .bool false]) ?_ 0 _ rfl; (with_reducible repeat (first | refine blk_drewN ?_ _ | refine blk_drew ?_ | refine blk_alloc ?_ _)); exact BK182.out) Tryd.underlying25 rfl (by kernel_rfl)) rfl ?_
  exact ⟨by first | rfl | (simp [errW_none, errW_some] <;> rfl) | (simp [*, errW_none, errW_some] <;> rfl), by repeat (first | (with_reducible first | exact HI0.out | apply IsS80.alloc | apply IsS80.drewN | apply IsS80.drew | apply IsS80.set_1 | refine IsS80.far ?_ NB0_182.out _) | exact HI0.out), by repeat (first | (with_reducible first | exact HB.out | apply below_alloc | apply pw_below_drewN | apply below_drew1 | refine below_set ?_ (IsS80.ge HI0.out) | refine below_set ?_ GE182.out) | exact HB.out), by repeat (first | (with_reducible first | exact HK.out | apply KeepBut.set_ | apply keep_drewN | apply keep_drew | apply keep_alloc | refine keep_far ?_ GW182.out _) | exact HK.out)⟩
 rw [if_neg c15] at H
 have c15b0 : (t183 == 1) = false := beq_eq_false_iff_ne.mpr c15
 have c15b1 : (t183 != 1) = true := bne_iff_ne.mpr c15
 replace H := Option.bind_eq_some_iff.mp H
 obtain ⟨⟨t193, t194⟩, A220, H⟩ := H
 replace H : ((spec_l1Letter.f (wrap64 (3 + t193))).bind fun t195 => (if t195 = 2 then ((spec_l6Rd_pick.f k s0_0 t194 2).bind fun bt196 => (some (wrap64 (3 + t193), (bt196.1 == 0), bt196.2))) else (some (wrap64 (3 + t193), false, t194)))) = some (r1, r2, r3) := H
 have A22 := Aside0.mk A220
 clear A220
 replace H := Option.bind_eq_some_iff.mp H
 obtain ⟨t195, A230, H⟩ := H
 replace H : (if t195 = 2 then ((spec_l6Rd_pick.f k s0_0 t194 2).bind fun bt196 => (some (wrap64 (3 + t193), (bt196.1 == 0), bt196.2))) else (some (wrap64 (3 + t193), false, t194))) = some (r1, r2, r3) := H
 have A23 := Aside0.mk A230
 clear A230
 by_cases c24 : t195 = 2
 rotate_left
 ·rw [if_neg c24] at H
  have c24b0 : (t195 == 2) = false := beq_eq_false_iff_ne.mpr c24
  have c24b1 : (t195 != 2) = true := bne_iff_ne.mpr c24
  simp only [Option.some.injEq, Prod.mk.injEq] at H
  obtain ⟨rfl, rfl, rfl⟩ := H
  go_enter Tryd.func44, Tryd.ntmps44
  go_wp2_with (first | ((with_reducible refine gate_dst (N := 2) rfl ?_); refine box_event ?hg (N := 2) ?hd (cs := #[.int .i64 0, .bool false]) (t := 25) ?hr ?_; (case hd => rfl); (case hg => rfl); (case hr => first | (go_simp; done) | (go_simp; rfl)); intro gb182 hg w32 hbox hb; have n0_ := Aside0.mk (IsS80.below (by repeat (first | (with_reducible first | exact HI0.out | apply IsS80.alloc | apply IsS80.drewN | apply IsS80.drew | apply IsS80.set_1) | exact HI0.out)) hb); have n1_ := Aside0.mk (KeepBut.trans (by repeat (first | (with_reducible first | exact HK.out | apply KeepBut.set_ | apply keep_drewN | apply keep_drew | apply keep_alloc) | exact HK.out)) (KeepBut.of_below hb g none) (.inl rfl)); have n2_ := Aside0.mk (below_step (by repeat (first | (with_reducible first | exact HB.out | apply below_alloc | apply pw_below_drewN | apply below_drew1 | refine below_set ?_ (IsS80.ge HI0.out)) | exact HB.out)) hb); have n3_ := Aside0.mk (hbox); have n4_ := Aside0.mk ((by rw [hg]; exact (keep_size (w := w) (g := g) (row := none) (by repeat (first | (with_reducible first | exact HK.out | apply KeepBut.set_ | apply keep_drewN | apply keep_drew | apply keep_alloc) | exact HK.out))) : w.heap.size ≤ gb182)); have n5_ := Aside0.mk ((Nat.le_trans HW0.out (by rw [hg]; exact (keep_size (w := w) (g := g) (row := none) (by repeat (first | (with_reducible first | exact HK.out | apply KeepBut.set_ | apply keep_drewN | apply keep_drew | apply keep_alloc) | exact HK.out))) : w.heap.size ≤ gb182) : w0.heap.size ≤ gb182)); have n6_ := Aside0.mk ((by rw [hg]; exact Nat.ne_of_lt (IsS80.lt (show IsS80 w0 _ g s0_0 s0_1 from by repeat (first | (with_reducible first | exact HI0.out | apply IsS80.alloc | apply IsS80.drewN | apply IsS80.drew | apply IsS80.set_1) | exact HI0.out))) : g ≠ gb182)); have n7_ := Aside0.mk ((by rw [hg]; exact Nat.ne_of_gt (IsS80.lt (show IsS80 w0 _ g s0_0 s0_1 from by repeat (first | (with_reducible first | exact HI0.out | apply IsS80.alloc | apply IsS80.drewN | apply IsS80.drew | apply IsS80.set_1) | exact HI0.out))) : gb182 ≠ g)); clear HI0; clear HK; clear HB; have HI0 := n0_; have HK := n1_; have HB := n2_; have BK182 := n3_; have GW182 := n4_; have GE182 := n5_; have NB0_182 := n6_; have NB182_0 := n7_; clear n0_ n1_ n2_ n3_ n4_ n5_ n6_ n7_; clear hb hbox hg) | ((with_reducible refine gate_callee (f := 46) rfl ?_); refine goesL_ (some 5) rfl rfl Tryd.func46 (by kernel_rfl) rfl #[.pointer (some ⟨g, 0, none⟩), .int .i64 40] rfl (by (try simp only [List.map_toArray, List.map_cons, List.map_nil]); first | done | rfl | (simp only [List.length_drop, List.length_take]; rfl)) ?_; (with_reducible refine (spec_l6Rd_pick.calls k g s0_0 s0_1 40 t183 t184 w0 _ ?side1 ?side2 A2.out).mono ?_); (case side1 => repeat (first | (with_reducible first | exact HI0.out | apply IsS80.alloc | apply IsS80.drewN | apply IsS80.drew | apply IsS80.set_1 | refine IsS80.far ?_ NB0_182.out _) | exact HI0.out)); (case side2 => repeat (first | (with_reducible first | exact HB.out | apply below_alloc | apply pw_below_drewN | apply below_drew1 | refine below_set ?_ (IsS80.ge HI0.out) | refine below_set ?_ GE182.out) | exact HB.out)); rintro e w33 ⟨rfl, hi, hb, hk⟩; refine ⟨_, rfl, ?_⟩; have n0_ := Aside0.mk (KeepBut.blk hk (g' := gb182) (o := .cells #[.int .i64 0, .bool false] 25 (0, 0)) (by (with_reducible repeat (first | refine blk_drewN ?_ _ | refine blk_drew ?_ | refine blk_alloc ?_ _)); exact BK182.out) NB182_0.out (by simp)); have n1_ := Aside0.mk (KeepBut.trans (by repeat (first | (with_reducible first | exact HK.out | apply KeepBut.set_ | apply keep_drewN | apply keep_drew | apply keep_alloc | refine keep_far ?_ GW182.out _) | exact HK.out)) hk (.inl rfl)); have n2_ := Aside0.mk (hb); have n3_ := Aside0.mk (hi); clear BK182; clear HK; clear HB; clear HI0; have BK182 := n0_; have HK := n1_; have HB := n2_; have HI0 := n3_; clear n0_ n1_ n2_ n3_; (try clear hb); (try clear hb2); (try clear hk); (try clear hi)) | ((with_reducible refine gate_callee (f := 46) rfl ?_); refine goesL_ (some 20) rfl rfl Tryd.func46 (by kernel_rfl) rfl #[.pointer (some ⟨g, 0, none⟩), .int .i64 11] rfl (by (try simp only [List.map_toArray, List.map_cons, List.map_nil]); first | done | rfl | (simp only [List.length_drop, List.length_take]; rfl)) ?_; (with_reducible refine (spec_l6Rd_pick.calls k g s0_0 t184 11 t193 t194 w0 _ ?side1 ?side2 A22.out).mono ?_); (case side1 => repeat (first | (with_reducible first | exact HI0.out | apply IsS80.alloc | apply IsS80.drewN | apply IsS80.drew | apply IsS80.set_1 | refine IsS80.far ?_ NB0_182.out _) | exact HI0.out)); (case side2 => repeat (first | (with_reducible first | exact HB.out | apply below_alloc | apply pw_below_drewN | apply below_drew1 | refine below_set ?_ (IsS80.ge HI0.out) | refine below_set ?_ GE182.out) | exact HB.out)); rintro e w34 ⟨rfl, hi, hb, hk⟩; refine ⟨_, rfl, ?_⟩; have n0_ := Aside0.mk (KeepBut.blk hk (g' := gb182) (o := .cells #[.int .i64 0, .bool false] 25 (0, 0)) (by (with_reducible repeat (first | refine blk_drewN ?_ _ | refine blk_drew ?_ | refine blk_alloc ?_ _)); exact BK182.out) NB182_0.out (by simp)); have n1_ := Aside0.mk (KeepBut.trans (by repeat (first | (with_reducible first | exact HK.out | apply KeepBut.set_ | apply keep_drewN | apply keep_drew | apply keep_alloc | refine keep_far ?_ GW182.out _) | exact HK.out)) hk (.inl rfl)); have n2_ := Aside0.mk (hb); have n3_ := Aside0.mk (hi); clear BK182; clear HK; clear HB; clear HI0; have BK182 := n0_; have HK := n1_; have HB := n2_; have HI0 := n3_; clear n0_ n1_ n2_ n3_; (try clear hb); (try clear hb2); (try clear hk); (try clear hi)) | ((with_reducible refine gate_callee (f := 38) rfl ?_); refine goesL_ (some 24) rfl rfl Tryd.func38 (by kernel_rfl) rfl #[.int .i64 (wrap64 (3 + t193))] rfl (by (try simp only [List.map_toArray, List.map_cons, List.map_nil]); first | done | rfl | (simp only [List.length_drop, List.length_take]; rfl)) ?_; (with_reducible refine (spec_l1Letter.calls (wrap64 (3 + t193)) t195 _ A23.out).mono ?_); rintro e w' ⟨rfl, ⟨nd, rfl⟩⟩; refine ⟨_, rfl, ?_⟩; (try (rw [drewN_self w34]; generalize hq_ : World.drewN w34 _ = w34; have n0_ : Aside0 (w34.heap[gb182]? = some (.cells #[.int .i64 0, .bool false] 25 (0, 0))) := ⟨by rw [← hq_]; exact (by (with_reducible repeat (first | refine blk_drewN ?_ _ | refine blk_drew ?_ | refine blk_alloc ?_ _)); exact BK182.out)⟩; have n1_ : Aside0 (IsS80 w0 w34 g s0_0 t194) := ⟨by rw [← hq_]; exact (by repeat (first | (with_reducible first | exact HI0.out | apply IsS80.alloc | apply IsS80.drewN | apply IsS80.drew | apply IsS80.set_1 | refine IsS80.far ?_ NB0_182.out _) | exact HI0.out))⟩; have n2_ : Aside0 (KeepBut w w34 g none) := ⟨by rw [← hq_]; exact (by repeat (first | (with_reducible first | exact HK.out | apply KeepBut.set_ | apply keep_drewN | apply keep_drew | apply keep_alloc | refine keep_far ?_ GW182.out _) | exact HK.out))⟩; have n3_ : Aside0 (Below w0.heap.size w0 w34) := ⟨by rw [← hq_]; exact (by repeat (first | (with_reducible first | exact HB.out | apply below_alloc | apply pw_below_drewN | apply below_drew1 | refine below_set ?_ (IsS80.ge HI0.out) | refine below_set ?_ GE182.out) | exact HB.out))⟩; clear BK182 HI0 HK HB hq_; have BK182 := n0_; have HI0 := n1_; have HK := n2_; have HB := n3_; clear n0_ n1_ n2_ n3_)); have hnb35 := NB182_0.out; have hnc35 := NB0_182.out; have hcz36_0 : w34.cell? ⟨gb182, 0, none⟩ = some (.int .i64 0) := (blk_cell BK182.out 0).trans rfl; have hcz36_1 : w34.cell? ⟨gb182, 1, none⟩ = some (.bool false) := (blk_cell BK182.out 1).trans rfl; have hfz36_0 := blk_frozen BK182.out 0; have hfz36_1 := blk_frozen BK182.out 1))
  refine bodyPost_ret (results_cell_row rfl _ _ gb182 25 #[.int .i64 (wrap64 (3 + t193)), .bool false] (0, 0) _ rfl (by (with_reducible repeat (first | refine blk_drewN ?_ _ | refine blk_drew ?_ | refine blk_alloc ?_ _)); refine blk_put (cs := #[.int .i64 (wrap64 (3 + t193)), .bool false]) ?_ 1 _ rfl; (with_reducible repeat (first | refine blk_drewN ?_ _ | refine blk_drew ?_ | refine blk_alloc ?_ _)); refine blk_put (cs := #[.int .i64 0, .bool false]) ?_ 0 _ rfl; (with_reducible repeat (first | refine blk_drewN ?_ _ | refine blk_drew ?_ | refine blk_alloc ?_ _)); exact BK182.out) Tryd.underlying25 rfl (by kernel_rfl)) rfl ?_
  exact ⟨by first | rfl | (simp [errW_none, errW_some] <;> rfl) | (simp [*, errW_none, errW_some] <;> rfl), by repeat (first | (with_reducible first | exact HI0.out | apply IsS80.alloc | apply IsS80.drewN | apply IsS80.drew | apply IsS80.set_1 | refine IsS80.far ?_ NB0_182.out _) | exact HI0.out), by repeat (first | (with_reducible first | exact HB.out | apply below_alloc | apply pw_below_drewN | apply below_drew1 | refine below_set ?_ (IsS80.ge HI0.out) | refine below_set ?_ GE182.out) | exact HB.out), by repeat (first | (with_reducible first | exact HK.out | apply KeepBut.set_ | apply keep_drewN | apply keep_drew | apply keep_alloc | refine keep_far ?_ GW182.out _) | exact HK.out)⟩
 rw [if_pos c24] at H
 have c24b0 : (t195 == 2) = true := beq_iff_eq.mpr c24
 have c24b1 : (t195 != 2) = false := bne_eq_false_iff_eq.mpr c24
 clear c24
 replace H := Option.bind_eq_some_iff.mp H
 obtain ⟨⟨t196, t197⟩, A250, H⟩ := H
 replace H : (some (wrap64 (3 + t193), (t196 == 0), t197)) = some (r1, r2, r3) := H
 have A25 := Aside0.mk A250
 clear A250
 simp only [Option.some.injEq, Prod.mk.injEq] at H
 obtain ⟨rfl, rfl, rfl⟩ := H
 go_enter Tryd.func44, Tryd.ntmps44
 go_wp2_with (first | ((with_reducible refine gate_dst (N := 2) rfl ?_); refine box_event ?hg (N := 2) ?hd (cs := #[.int .i64 0, .bool false]) (t := 25) ?hr ?_; (case hd => rfl); (case hg => rfl); (case hr => first | (go_simp; done) | (go_simp; rfl)); intro gb182 hg w26 hbox hb; have n0_ := Aside0.mk (IsS80.below (by repeat (first | (with_reducible first | exact HI0.out | apply IsS80.alloc | apply IsS80.drewN | apply IsS80.drew | apply IsS80.set_1) | exact HI0.out)) hb); have n1_ := Aside0.mk (KeepBut.trans (by repeat (first | (with_reducible first | exact HK.out | apply KeepBut.set_ | apply keep_drewN | apply keep_drew | apply keep_alloc) | exact HK.out)) (KeepBut.of_below hb g none) (.inl rfl)); have n2_ := Aside0.mk (below_step (by repeat (first | (with_reducible first | exact HB.out | apply below_alloc | apply pw_below_drewN | apply below_drew1 | refine below_set ?_ (IsS80.ge HI0.out)) | exact HB.out)) hb); have n3_ := Aside0.mk (hbox); have n4_ := Aside0.mk ((by rw [hg]; exact (keep_size (w := w) (g := g) (row := none) (by repeat (first | (with_reducible first | exact HK.out | apply KeepBut.set_ | apply keep_drewN | apply keep_drew | apply keep_alloc) | exact HK.out))) : w.heap.size ≤ gb182)); have n5_ := Aside0.mk ((Nat.le_trans HW0.out (by rw [hg]; exact (keep_size (w := w) (g := g) (row := none) (by repeat (first | (with_reducible first | exact HK.out | apply KeepBut.set_ | apply keep_drewN | apply keep_drew | apply keep_alloc) | exact HK.out))) : w.heap.size ≤ gb182) : w0.heap.size ≤ gb182)); have n6_ := Aside0.mk ((by rw [hg]; exact Nat.ne_of_lt (IsS80.lt (show IsS80 w0 _ g s0_0 s0_1 from by repeat (first | (with_reducible first | exact HI0.out | apply IsS80.alloc | apply IsS80.drewN | apply IsS80.drew | apply IsS80.set_1) | exact HI0.out))) : g ≠ gb182)); have n7_ := Aside0.mk ((by rw [hg]; exact Nat.ne_of_gt (IsS80.lt (show IsS80 w0 _ g s0_0 s0_1 from by repeat (first | (with_reducible first | exact HI0.out | apply IsS80.alloc | apply IsS80.drewN | apply IsS80.drew | apply IsS80.set_1) | exact HI0.out))) : gb182 ≠ g)); clear HI0; clear HK; clear HB; have HI0 := n0_; have HK := n1_; have HB := n2_; have BK182 := n3_; have GW182 := n4_; have GE182 := n5_; have NB0_182 := n6_; have NB182_0 := n7_; clear n0_ n1_ n2_ n3_ n4_ n5_ n6_ n7_; clear hb hbox hg) | ((with_reducible refine gate_callee (f := 46) rfl ?_); refine goesL_ (some 5) rfl rfl Tryd.func46 (by kernel_rfl) rfl #[.pointer (some ⟨g, 0, none⟩), .int .i64 40] rfl (by (try simp only [List.map_toArray, List.map_cons, List.map_nil]); first | done | rfl | (simp only [List.length_drop, List.length_take]; rfl)) ?_; (with_reducible refine (spec_l6Rd_pick.calls k g s0_0 s0_1 40 t183 t184 w0 _ ?side1 ?side2 A2.out).mono ?_); (case side1 => repeat (first | (with_reducible first | exact HI0.out | apply IsS80.alloc | apply IsS80.drewN | apply IsS80.drew | apply IsS80.set_1 | refine IsS80.far ?_ NB0_182.out _) | exact HI0.out)); (case side2 => repeat (first | (with_reducible first | exact HB.out | apply below_alloc | apply pw_below_drewN | apply below_drew1 | refine below_set ?_ (IsS80.ge HI0.out) | refine below_set ?_ GE182.out) | exact HB.out)); rintro e w27 ⟨rfl, hi, hb, hk⟩; refine ⟨_, rfl, ?_⟩; have n0_ := Aside0.mk (KeepBut.blk hk (g' := gb182) (o := .cells #[.int .i64 0, .bool false] 25 (0, 0)) (by (with_reducible repeat (first | refine blk_drewN ?_ _ | refine blk_drew ?_ | refine blk_alloc ?_ _)); exact BK182.out) NB182_0.out (by simp)); have n1_ := Aside0.mk (KeepBut.trans (by repeat (first | (with_reducible first | exact HK.out | apply KeepBut.set_ | apply keep_drewN | apply keep_drew | apply keep_alloc | refine keep_far ?_ GW182.out _) | exact HK.out)) hk (.inl rfl)); have n2_ := Aside0.mk (hb); have n3_ := Aside0.mk (hi); clear BK182; clear HK; clear HB; clear HI0; have BK182 := n0_; have HK := n1_; have HB := n2_; have HI0 := n3_; clear n0_ n1_ n2_ n3_; (try clear hb); (try clear hb2); (try clear hk); (try clear hi)) | ((with_reducible refine gate_callee (f := 46) rfl ?_); refine goesL_ (some 20) rfl rfl Tryd.func46 (by kernel_rfl) rfl #[.pointer (some ⟨g, 0, none⟩), .int .i64 11] rfl (by (try simp only [List.map_toArray, List.map_cons, List.map_nil]); first | done | rfl | (simp only [List.length_drop, List.length_take]; rfl)) ?_; (with_reducible refine (spec_l6Rd_pick.calls k g s0_0 t184 11 t193 t194 w0 _ ?side1 ?side2 A22.out).mono ?_); (case side1 => repeat (first | (with_reducible first | exact HI0.out | apply IsS80.alloc | apply IsS80.drewN | apply IsS80.drew | apply IsS80.set_1 | refine IsS80.far ?_ NB0_182.out _) | exact HI0.out)); (case side2 => repeat (first | (with_reducible first | exact HB.out | apply below_alloc | apply pw_below_drewN | apply below_drew1 | refine below_set ?_ (IsS80.ge HI0.out) | refine below_set ?_ GE182.out) | exact HB.out)); rintro e w28 ⟨rfl, hi, hb, hk⟩; refine ⟨_, rfl, ?_⟩; have n0_ := Aside0.mk (KeepBut.blk hk (g' := gb182) (o := .cells #[.int .i64 0, .bool false] 25 (0, 0)) (by (with_reducible repeat (first | refine blk_drewN ?_ _ | refine blk_drew ?_ | refine blk_alloc ?_ _)); exact BK182.out) NB182_0.out (by simp)); have n1_ := Aside0.mk (KeepBut.trans (by repeat (first | (with_reducible first | exact HK.out | apply KeepBut.set_ | apply keep_drewN | apply keep_drew | apply keep_alloc | refine keep_far ?_ GW182.out _) | exact HK.out)) hk (.inl rfl)); have n2_ := Aside0.mk (hb); have n3_ := Aside0.mk (hi); clear BK182; clear HK; clear HB; clear HI0; have BK182 := n0_; have HK := n1_; have HB := n2_; have HI0 := n3_; clear n0_ n1_ n2_ n3_; (try clear hb); (try clear hb2); (try clear hk); (try clear hi)) | ((with_reducible refine gate_callee (f := 38) rfl ?_); refine goesL_ (some 24) rfl rfl Tryd.func38 (by kernel_rfl) rfl #[.int .i64 (wrap64 (3 + t193))] rfl (by (try simp only [List.map_toArray, List.map_cons, List.map_nil]); first | done | rfl | (simp only [List.length_drop, List.length_take]; rfl)) ?_; (with_reducible refine (spec_l1Letter.calls (wrap64 (3 + t193)) t195 _ A23.out).mono ?_); rintro e w' ⟨rfl, ⟨nd, rfl⟩⟩; refine ⟨_, rfl, ?_⟩; (try (rw [drewN_self w28]; generalize hq_ : World.drewN w28 _ = w28; have n0_ : Aside0 (w28.heap[gb182]? = some (.cells #[.int .i64 0, .bool false] 25 (0, 0))) := ⟨by rw [← hq_]; exact (by (with_reducible repeat (first | refine blk_drewN ?_ _ | refine blk_drew ?_ | refine blk_alloc ?_ _)); exact BK182.out)⟩; have n1_ : Aside0 (IsS80 w0 w28 g s0_0 t194) := ⟨by rw [← hq_]; exact (by repeat (first | (with_reducible first | exact HI0.out | apply IsS80.alloc | apply IsS80.drewN | apply IsS80.drew | apply IsS80.set_1 | refine IsS80.far ?_ NB0_182.out _) | exact HI0.out))⟩; have n2_ : Aside0 (KeepBut w w28 g none) := ⟨by rw [← hq_]; exact (by repeat (first | (with_reducible first | exact HK.out | apply KeepBut.set_ | apply keep_drewN | apply keep_drew | apply keep_alloc | refine keep_far ?_ GW182.out _) | exact HK.out))⟩; have n3_ : Aside0 (Below w0.heap.size w0 w28) := ⟨by rw [← hq_]; exact (by repeat (first | (with_reducible first | exact HB.out | apply below_alloc | apply pw_below_drewN | apply below_drew1 | refine below_set ?_ (IsS80.ge HI0.out) | refine below_set ?_ GE182.out) | exact HB.out))⟩; clear BK182 HI0 HK HB hq_; have BK182 := n0_; have HI0 := n1_; have HK := n2_; have HB := n3_; clear n0_ n1_ n2_ n3_))) | (go_at_call 46; (with_reducible refine (spec_l6Rd_pick.calls k g s0_0 t194 2 t196 t197 w0 _ ?side1 ?side2 A25.out).mono ?_); (case side1 => repeat (first | (with_reducible first | exact HI0.out | apply IsS80.alloc | apply IsS80.drewN | apply IsS80.drew | apply IsS80.set_1 | refine IsS80.far ?_ NB0_182.out _) | exact HI0.out)); (case side2 => repeat (first | (with_reducible first | exact HB.out | apply below_alloc | apply pw_below_drewN | apply below_drew1 | refine below_set ?_ (IsS80.ge HI0.out) | refine below_set ?_ GE182.out) | exact HB.out)); rintro e w29 ⟨rfl, hi, hb, hk⟩; have n0_ := Aside0.mk (KeepBut.blk hk (g' := gb182) (o := .cells #[.int .i64 0, .bool false] 25 (0, 0)) (by (with_reducible repeat (first | refine blk_drewN ?_ _ | refine blk_drew ?_ | refine blk_alloc ?_ _)); exact BK182.out) NB182_0.out (by simp)); have n1_ := Aside0.mk (KeepBut.trans (by repeat (first | (with_reducible first | exact HK.out | apply KeepBut.set_ | apply keep_drewN | apply keep_drew | apply keep_alloc | refine keep_far ?_ GW182.out _) | exact HK.out)) hk (.inl rfl)); have n2_ := Aside0.mk (hb); have n3_ := Aside0.mk (hi); clear BK182; clear HK; clear HB; clear HI0; have BK182 := n0_; have HK := n1_; have HB := n2_; have HI0 := n3_; clear n0_ n1_ n2_ n3_; (try clear hb); (try clear hb2); (try clear hk); (try clear hi); have hnb30 := NB182_0.out; have hnc30 := NB0_182.out; have hcz31_0 : w29.cell? ⟨gb182, 0, none⟩ = some (.int .i64 0) := (blk_cell BK182.out 0).trans rfl; have hcz31_1 : w29.cell? ⟨gb182, 1, none⟩ = some (.bool false) := (blk_cell BK182.out 1).trans rfl; have hfz31_0 := blk_frozen BK182.out 0; have hfz31_1 := blk_frozen BK182.out 1))
 refine bodyPost_ret (results_cell_row rfl _ _ gb182 25 #[.int .i64 (wrap64 (3 + t193)), .bool (t196 == 0)] (0, 0) _ rfl (by (with_reducible repeat (first | refine blk_drewN ?_ _ | refine blk_drew ?_ | refine blk_alloc ?_ _)); refine blk_put (cs := #[.int .i64 (wrap64 (3 + t193)), .bool false]) ?_ 1 _ rfl; (with_reducible repeat (first | refine blk_drewN ?_ _ | refine blk_drew ?_ | refine blk_alloc ?_ _)); refine blk_put (cs := #[.int .i64 0, .bool false]) ?_ 0 _ rfl; (with_reducible repeat (first | refine blk_drewN ?_ _ | refine blk_drew ?_ | refine blk_alloc ?_ _)); exact BK182.out) Tryd.underlying25 rfl (by kernel_rfl)) rfl ?_
 exact ⟨by first | rfl | (simp [errW_none, errW_some] <;> rfl) | (simp [*, errW_none, errW_some] <;> rfl), by repeat (first | (with_reducible first | exact HI0.out | apply IsS80.alloc | apply IsS80.drewN | apply IsS80.drew | apply IsS80.set_1 | refine IsS80.far ?_ NB0_182.out _) | exact HI0.out), by repeat (first | (with_reducible first | exact HB.out | apply below_alloc | apply pw_below_drewN | apply below_drew1 | refine below_set ?_ (IsS80.ge HI0.out) | refine below_set ?_ GE182.out) | exact HB.out), by repeat (first | (with_reducible first | exact HK.out | apply KeepBut.set_ | apply keep_drewN | apply keep_drew | apply keep_alloc | refine keep_far ?_ GW182.out _) | exact HK.out)⟩
end Go.Proofs.YtlinjleahnccgaaDoor.E
end
section
namespace Go.Proofs.YtlinjleahnccgaaDoor.E
open Go.RowKit Go.Proofs.YtlinjleahnccgaaDoorW.PrintWords Go.Proofs.YtlinjleahnccgaaDoorW.PrintLast Go.Proofs.YtlinjleahnccgaaDoorW.PrintMore
attribute [local go_sem] max2_int min2_int max_two min_two max_three min_three max_four min_four
set_option linter.unusedVariables false
set_option linter.unusedSimpArgs false
attribute [local go_sem] str_leq_ str_gtr_ str_geq_
def spec_l6Open.f (l0 : List Int) : Option (List Int × Int) := if (l0.length : Int) > 2000 then (if 2000 ≤ (l0.length : Int) then (some (l0.take 2000, 0)) else (none)) else (some (l0, 0))
set_option maxHeartbeats 8000000 in
set_option maxRecDepth 100000 in
theorem spec_l6Open.calls (A0 : Option Addr) (c0 : Nat) (l0 : List Int) (r1 : List Int) (r2 : Int) (w0 w : World) (hB : Below w0.heap.size w0 w) (hr0 : Kd.C (Kd.int .u8) w0 A0 l0.length l0) (hc0 : l0.length ≤ c0) (h : spec_l6Open.f l0 = some (r1, r2)) :
  Calls Tryd.prog 45 #[.slice A0 l0.length c0] w fun e w' => ∃ g_ : Nat, e = .returned (.pointer (some ⟨g_, 0, none⟩)) ∧ IsS80 w0 w' g_ r1 r2 ∧ Below w0.heap.size w0 w' ∧ Below w.heap.size w w' := by
 have hu80 := Tryd.underlying80
 have HR0 := Aside0.mk hr0
 have HC0 := Aside0.mk hc0
 clear hr0 hc0
 have HBW := Aside0.mk (Below.refl w.heap.size w)
 have HW0 := Aside0.mk hB.size
 have HB := Aside0.mk hB
 clear hB
 have H : (if (l0.length : Int) > 2000 then (if 2000 ≤ (l0.length : Int) then (some (l0.take 2000, 0)) else (none)) else (some (l0, 0))) = some (r1, r2) := h
 clear h
 by_cases c2 : (l0.length : Int) > 2000
 rotate_left
 ·rw [if_neg c2] at H
  have c2b0 : decide (2000 < (l0.length : Int)) = false := decide_eq_false c2
  have c2b1 : decide (2000 < l0.length) = false := decide_eq_false (by omega)
  clear c2
  simp only [Option.some.injEq, Prod.mk.injEq] at H
  obtain ⟨rfl, rfl⟩ := H
  go_enter Tryd.func45, Tryd.ntmps45
  go_wp2_with (first | ((with_reducible refine gate_dst (N := 10) rfl ?_); refine box_event ?hg (N := 10) ?hd (cs := #[.slice A0 l0.length c0, .int .i64 0]) (t := 80) ?hr ?_; (case hd => rfl); (case hg => rfl); (case hr => first | (go_simp; done) | (go_simp; rfl)); intro gb200 hg w6 hbox hb; have n0_ := Aside0.mk (below_step HBW.out hb); have n1_ := Aside0.mk (below_step (by repeat (first | (with_reducible first | exact HB.out | apply below_alloc | apply pw_below_drewN | apply below_drew1) | exact HB.out)) hb); have n2_ := Aside0.mk (hbox); have n3_ := Aside0.mk ((by rw [hg]; exact (below_size (by repeat (first | (with_reducible first | exact HBW.out | apply below_alloc | apply pw_below_drewN | apply below_drew1) | exact HBW.out))) : w.heap.size ≤ gb200)); have n4_ := Aside0.mk ((Nat.le_trans HW0.out (by rw [hg]; exact (below_size (by repeat (first | (with_reducible first | exact HBW.out | apply below_alloc | apply pw_below_drewN | apply below_drew1) | exact HBW.out))) : w.heap.size ≤ gb200) : w0.heap.size ≤ gb200)); clear HBW; clear HB; have HBW := n0_; have HB := n1_; have BK200 := n2_; have GW200 := n3_; have GE200 := n4_; clear n0_ n1_ n2_ n3_ n4_; clear hb hbox hg))
  go_ret
  exact ⟨_, rfl, (show IsS80 w0 _ gb200 l0 0 from ⟨_, _, by (with_reducible repeat (first | refine blk_drewN ?_ _ | refine blk_drew ?_ | refine blk_alloc ?_ _)); exact BK200.out, GE200.out, HR0.out⟩), by repeat (first | (with_reducible first | exact HB.out | apply below_alloc | apply pw_below_drewN | apply below_drew1 | refine below_set ?_ GE200.out) | exact HB.out), by repeat (first | (with_reducible first | exact HBW.out | apply below_alloc | apply pw_below_drewN | apply below_drew1 | refine below_set ?_ GW200.out) | exact HBW.out)⟩
 rw [if_pos c2] at H
 have c2b0 : decide (2000 < (l0.length : Int)) = true := decide_eq_true c2
 have c2b1 : decide (2000 < l0.length) = true := decide_eq_true (by omega)
 clear c2
 by_cases c3 : 2000 ≤ (l0.length : Int)
 rotate_left
 ·rw [if_neg c3] at H
  exact absurd H (by simp)
 rw [if_pos c3] at H
 have c3b0 := eq_true c3
 have c3b1 : decide (2000 ≤ (l0.length : Int)) = true := decide_eq_true c3
 clear c3
 simp only [Option.some.injEq, Prod.mk.injEq] at H
 obtain ⟨rfl, rfl⟩ := H
 obtain ⟨i04, hi04, _, hsz4, _⟩ := info_parts info5
 obtain ⟨hcut4, hA4, hC4⟩ := print_take_of (P := Tryd.prog) (Value.int .u8) 0 32 5 .i64 Tryd.underlying32 hi04 hsz4 A0 c0 l0 2000 (by omega) (of_decide_eq_true (by first | (with_reducible assumption) | assumption)) HC0.out
 have HR198 := Aside0.mk (Kd.C_of_reads (h1 := fun _ => rfl) (hA4 _ (Kd.reads_of_C HR0.out)))
 have HC198 := Aside0.mk hC4
 clear hA4 hC4 hi04 hsz4
 go_enter Tryd.func45, Tryd.ntmps45
 go_wp2_with (first | ((with_reducible refine gate_dst (N := 10) rfl ?_); refine box_event ?hg (N := 10) ?hd (cs := #[.slice A0 (l0.take 2000).length c0, .int .i64 0]) (t := 80) ?hr ?_; (case hd => rfl); (case hg => rfl); (case hr => first | (go_simp; done) | (go_simp; rfl)); intro gb199 hg w5 hbox hb; have n0_ := Aside0.mk (below_step HBW.out hb); have n1_ := Aside0.mk (below_step (by repeat (first | (with_reducible first | exact HB.out | apply below_alloc | apply pw_below_drewN | apply below_drew1) | exact HB.out)) hb); have n2_ := Aside0.mk (hbox); have n3_ := Aside0.mk ((by rw [hg]; exact (below_size (by repeat (first | (with_reducible first | exact HBW.out | apply below_alloc | apply pw_below_drewN | apply below_drew1) | exact HBW.out))) : w.heap.size ≤ gb199)); have n4_ := Aside0.mk ((Nat.le_trans HW0.out (by rw [hg]; exact (below_size (by repeat (first | (with_reducible first | exact HBW.out | apply below_alloc | apply pw_below_drewN | apply below_drew1) | exact HBW.out))) : w.heap.size ≤ gb199) : w0.heap.size ≤ gb199)); clear HBW; clear HB; have HBW := n0_; have HB := n1_; have BK199 := n2_; have GW199 := n3_; have GE199 := n4_; clear n0_ n1_ n2_ n3_ n4_; clear hb hbox hg))
 go_ret
 exact ⟨_, rfl, (show IsS80 w0 _ gb199 (l0.take 2000) 0 from ⟨_, _, by (with_reducible repeat (first | refine blk_drewN ?_ _ | refine blk_drew ?_ | refine blk_alloc ?_ _)); exact BK199.out, GE199.out, HR198.out⟩), by repeat (first | (with_reducible first | exact HB.out | apply below_alloc | apply pw_below_drewN | apply below_drew1 | refine below_set ?_ GE199.out) | exact HB.out), by repeat (first | (with_reducible first | exact HBW.out | apply below_alloc | apply pw_below_drewN | apply below_drew1 | refine below_set ?_ GW199.out) | exact HBW.out)⟩
end Go.Proofs.YtlinjleahnccgaaDoor.E
end
section
namespace Go.Proofs.YtlinjleahnccgaaDoor.E
open Go.RowKit Go.Proofs.YtlinjleahnccgaaDoorW.PrintWords Go.Proofs.YtlinjleahnccgaaDoorW.PrintLast Go.Proofs.YtlinjleahnccgaaDoorW.PrintMore
attribute [local go_sem] max2_int min2_int max_two min_two max_three min_three max_four min_four
set_option linter.unusedVariables false
set_option linter.unusedSimpArgs false
attribute [local go_sem] str_leq_ str_gtr_ str_geq_
def spec_DrawToneText.f (k : Nat) (l0 : List Int) : Option (Int × Bool) := (spec_l6Open.f l0).bind fun bt202 => ((spec_l91Tone.f k bt202.1 bt202.2).bind fun bt205 => (some (bt205.1, bt205.2.1)))
set_option maxHeartbeats 8000000 in
set_option maxRecDepth 100000 in
theorem spec_DrawToneText.calls (k : Nat) (A0 : Option Addr) (c0 : Nat) (l0 : List Int) (r1 : Int) (r2 : Bool) (w : World) (hr0 : Kd.C (Kd.int .u8) w A0 l0.length l0) (hc0 : l0.length ≤ c0) (h : spec_DrawToneText.f k l0 = some (r1, r2)) :
  Calls Tryd.prog 19 #[.slice A0 l0.length c0] w fun e w' => e = .returned (.agg #[.int .i64 r1, .bool r2]) ∧ Below w.heap.size w w' := by
 have hu25 := Tryd.underlying25
 have HR0 := Aside0.mk hr0
 have HC0 := Aside0.mk hc0
 clear hr0 hc0
 have HB := Aside0.mk (Below.refl w.heap.size w)
 have H : ((spec_l6Open.f l0).bind fun bt202 => ((spec_l91Tone.f k bt202.1 bt202.2).bind fun bt205 => (some (bt205.1, bt205.2.1)))) = some (r1, r2) := h
 clear h
 replace H := Option.bind_eq_some_iff.mp H
 obtain ⟨⟨t202, t203⟩, A20, H⟩ := H
 replace H : ((spec_l91Tone.f k t202 t203).bind fun bt205 => (some (bt205.1, bt205.2.1))) = some (r1, r2) := H
 have A2 := Aside0.mk A20
 clear A20
 replace H := Option.bind_eq_some_iff.mp H
 obtain ⟨⟨t205, t206, t207⟩, A30, H⟩ := H
 replace H : (some (t205, t206)) = some (r1, r2) := H
 have A3 := Aside0.mk A30
 clear A30
 simp only [Option.some.injEq, Prod.mk.injEq] at H
 obtain ⟨rfl, rfl⟩ := H
 go_enter Tryd.func19, Tryd.ntmps19
 go_wp2_with (first | ((with_reducible refine gate_dst (N := 2) rfl ?_); refine box_event ?hg (N := 2) ?hd (cs := #[.int .i64 0, .bool false]) (t := 25) ?hr ?_; (case hd => rfl); (case hg => rfl); (case hr => first | (go_simp; done) | (go_simp; rfl)); intro gb201 hg w4 hbox hb; have n0_ := Aside0.mk (below_step (by repeat (first | (with_reducible first | exact HB.out | apply below_alloc | apply pw_below_drewN | apply below_drew1) | exact HB.out)) hb); have n1_ := Aside0.mk (hbox); have n2_ := Aside0.mk ((by rw [hg]; exact (below_size (by repeat (first | (with_reducible first | exact HB.out | apply below_alloc | apply pw_below_drewN | apply below_drew1) | exact HB.out))) : w.heap.size ≤ gb201)); have n3_ := Aside0.mk ((by rw [hg]; exact (below_size (by repeat (first | (with_reducible first | exact HB.out | apply below_alloc | apply pw_below_drewN | apply below_drew1) | exact HB.out))) : w.heap.size ≤ gb201)); clear HB; have HB := n0_; have BK201 := n1_; have GW201 := n2_; have GE201 := n3_; clear n0_ n1_ n2_ n3_; clear hb hbox hg) | ((with_reducible refine gate_callee (f := 45) rfl ?_); refine goesL_ (some 4) rfl rfl Tryd.func45 (by kernel_rfl) rfl #[.slice A0 l0.length c0] rfl (by (try simp only [List.map_toArray, List.map_cons, List.map_nil]); first | done | rfl | (simp only [List.length_drop, List.length_take]; rfl)) ?_; (with_reducible refine (spec_l6Open.calls _ _ l0 t202 t203 w _ ?side1 ?side2 ?side3 A2.out).mono ?_); (case side1 => repeat (first | (with_reducible first | exact HB.out | apply below_alloc | apply pw_below_drewN | apply below_drew1 | refine below_set ?_ GE201.out) | exact HB.out)); (case side2 => exact HR0.out); (case side3 => exact HC0.out); rintro e w5 ⟨g204, rfl, hi, hb, hb2⟩; refine ⟨_, rfl, ?_⟩; have n0_ := Aside0.mk (blk_below (g := gb201) (o := .cells #[.int .i64 0, .bool false] 25 (0, 0)) (by (with_reducible repeat (first | refine blk_drewN ?_ _ | refine blk_drew ?_ | refine blk_alloc ?_ _)); exact BK201.out) hb2); have n1_ := Aside0.mk (hb); have n2_ := Aside0.mk (hi); have n3_ := Aside0.mk (IsS80.ne_blk hi (blk_below (g := gb201) (o := .cells #[.int .i64 0, .bool false] 25 (0, 0)) (by (with_reducible repeat (first | refine blk_drewN ?_ _ | refine blk_drew ?_ | refine blk_alloc ?_ _)); exact BK201.out) hb2) (by decide)); have n4_ := Aside0.mk (Ne.symm (IsS80.ne_blk hi (blk_below (g := gb201) (o := .cells #[.int .i64 0, .bool false] 25 (0, 0)) (by (with_reducible repeat (first | refine blk_drewN ?_ _ | refine blk_drew ?_ | refine blk_alloc ?_ _)); exact BK201.out) hb2) (by decide))); clear BK201; clear HB; have BK201 := n0_; have HB := n1_; have HI204 := n2_; have NB204_201 := n3_; have NB201_204 := n4_; clear n0_ n1_ n2_ n3_ n4_; (try clear hb); (try clear hb2); (try clear hk); (try clear hi)) | ((with_reducible refine gate_callee (f := 44) rfl ?_); refine goesL_ (some 5) rfl rfl Tryd.func44 (by kernel_rfl) rfl #[.pointer (some ⟨g204, 0, none⟩)] rfl (by (try simp only [List.map_toArray, List.map_cons, List.map_nil]); first | done | rfl | (simp only [List.length_drop, List.length_take]; rfl)) ?_; (with_reducible refine (spec_l91Tone.calls k g204 t202 t203 t205 t206 t207 w _ ?side1 ?side2 A3.out).mono ?_); (case side1 => repeat (first | (with_reducible first | exact HI204.out | apply IsS80.alloc | apply IsS80.drewN | apply IsS80.drew | apply IsS80.set_1 | refine IsS80.far ?_ NB204_201.out _) | exact HI204.out)); (case side2 => repeat (first | (with_reducible first | exact HB.out | apply below_alloc | apply pw_below_drewN | apply below_drew1 | refine below_set ?_ (IsS80.ge HI204.out) | refine below_set ?_ GE201.out) | exact HB.out)); rintro e w6 ⟨rfl, hi, hb, hk⟩; refine ⟨_, rfl, ?_⟩; have n0_ := Aside0.mk (KeepBut.blk hk (g' := gb201) (o := .cells #[.int .i64 0, .bool false] 25 (0, 0)) (by (with_reducible repeat (first | refine blk_drewN ?_ _ | refine blk_drew ?_ | refine blk_alloc ?_ _)); exact BK201.out) NB201_204.out (by simp)); have n1_ := Aside0.mk (hb); have n2_ := Aside0.mk (hi); clear BK201; clear HB; clear HI204; have BK201 := n0_; have HB := n1_; have HI204 := n2_; clear n0_ n1_ n2_; (try clear hb); (try clear hb2); (try clear hk); (try clear hi); have hnb7 := NB201_204.out; have hnc7 := NB204_201.out; have hcz8_0 : w6.cell? ⟨gb201, 0, none⟩ = some (.int .i64 0) := (blk_cell BK201.out 0).trans rfl; have hcz8_1 : w6.cell? ⟨gb201, 1, none⟩ = some (.bool false) := (blk_cell BK201.out 1).trans rfl; have hfz8_0 := blk_frozen BK201.out 0; have hfz8_1 := blk_frozen BK201.out 1))
 refine bodyPost_ret (results_cell_row rfl _ _ gb201 25 #[.int .i64 t205, .bool t206] (0, 0) _ rfl (by (with_reducible repeat (first | refine blk_drewN ?_ _ | refine blk_drew ?_ | refine blk_alloc ?_ _)); refine blk_put (cs := #[.int .i64 t205, .bool false]) ?_ 1 _ rfl; (with_reducible repeat (first | refine blk_drewN ?_ _ | refine blk_drew ?_ | refine blk_alloc ?_ _)); refine blk_put (cs := #[.int .i64 0, .bool false]) ?_ 0 _ rfl; (with_reducible repeat (first | refine blk_drewN ?_ _ | refine blk_drew ?_ | refine blk_alloc ?_ _)); exact BK201.out) Tryd.underlying25 rfl (by kernel_rfl)) rfl ?_
 exact ⟨by first | rfl | (simp [errW_none, errW_some] <;> rfl) | (simp [*, errW_none, errW_some] <;> rfl), by repeat (first | (with_reducible first | exact HB.out | apply below_alloc | apply pw_below_drewN | apply below_drew1 | refine below_set ?_ (IsS80.ge HI204.out) | refine below_set ?_ GE201.out) | exact HB.out)⟩
end Go.Proofs.YtlinjleahnccgaaDoor.E
end
section
namespace Go.Proofs.YtlinjleahnccgaaDoor.E
open Go.RowKit Go.Proofs.YtlinjleahnccgaaDoorW.PrintWords Go.Proofs.YtlinjleahnccgaaDoorW.PrintLast Go.Proofs.YtlinjleahnccgaaDoorW.PrintMore
attribute [local go_sem] max2_int min2_int max_two min_two max_three min_three max_four min_four
set_option linter.unusedVariables false
set_option linter.unusedSimpArgs false
attribute [local go_sem] str_leq_ str_gtr_ str_geq_
def impl_ToneAbove.j0 : Nat → Int → Bool → Bool → Int → Bool → Option (Int × Bool × Bool)
 | 0, _, _, _, _, _ => none
 | k + 1, x1, x2, x19, x209000, x209001 => if x19 = true then (some (0, false, false)) else ((impl_Tone_valid.f (wrap64 (x209000 + x1)) x2).bind fun t212 => (if t212 = true then (some (wrap64 (x209000 + x1), x2, true)) else (some (0, false, false))))
def impl_ToneAbove.f (k : Nat) (a0_0 : Int) (a0_1 : Bool) (a1 : Int) (a2 : Bool) : Option (Int × Bool × Bool) := (impl_Tone_valid.f a0_0 a0_1).bind fun t210 => (if t210 = true then (if a1 < (-20) then (impl_ToneAbove.j0 k a1 a2 true a0_0 a0_1) else (impl_ToneAbove.j0 k a1 a2 (decide (a1 > 20)) a0_0 a0_1)) else (impl_ToneAbove.j0 k a1 a2 true a0_0 a0_1))
set_option maxHeartbeats 8000000 in
set_option maxRecDepth 100000 in
theorem impl_ToneAbove.calls (k : Nat) (a0_0 : Int) (a0_1 : Bool) (a1 : Int) (a2 : Bool) (r1 : Int) (r2 : Bool) (r3 : Bool) (w : World) (h : impl_ToneAbove.f k a0_0 a0_1 a1 a2 = some (r1, r2, r3)) :
  Calls Tryd.prog 20 #[.agg #[.int .i64 a0_0, .bool a0_1], .int .i64 a1, .bool a2] w fun e w' => e = .returned (.tuple #[.agg #[.int .i64 r1, .bool r2], .bool r3]) ∧ Below w.heap.size w w' := by
 have hu25 := Tryd.underlying25
 have HB := Aside0.mk (Below.refl w.heap.size w)
 have H : ((impl_Tone_valid.f a0_0 a0_1).bind fun t210 => (if t210 = true then (if a1 < (-20) then (impl_ToneAbove.j0 k a1 a2 true a0_0 a0_1) else (impl_ToneAbove.j0 k a1 a2 (decide (a1 > 20)) a0_0 a0_1)) else (impl_ToneAbove.j0 k a1 a2 true a0_0 a0_1))) = some (r1, r2, r3) := h
 clear h
 have HC4 := Aside0.mk H
 clear H
 go_enter Tryd.func20, Tryd.ntmps20
 go_upto_region 1 with (first | ((with_reducible refine gate_dst (N := 3) rfl ?_); refine box_event ?hg (N := 3) ?hd (cs := #[.int .i64 a0_0, .bool a0_1]) (t := 25) ?hr ?_; (case hd => rfl); (case hg => rfl); (case hr => first | (go_simp; done) | (go_simp; rfl)); intro gb208 hg w5 hbox hb; have n0_ := Aside0.mk (below_step (by repeat (first | (with_reducible first | exact HB.out | apply below_alloc | apply pw_below_drewN | apply below_drew1) | exact HB.out)) hb); have n1_ := Aside0.mk (hbox); have n2_ := Aside0.mk ((by rw [hg]; exact (below_size (by repeat (first | (with_reducible first | exact HB.out | apply below_alloc | apply pw_below_drewN | apply below_drew1) | exact HB.out))) : w.heap.size ≤ gb208)); have n3_ := Aside0.mk ((by rw [hg]; exact (below_size (by repeat (first | (with_reducible first | exact HB.out | apply below_alloc | apply pw_below_drewN | apply below_drew1) | exact HB.out))) : w.heap.size ≤ gb208)); clear HB; have HB := n0_; have BK208 := n1_; have GW208 := n2_; have GE208 := n3_; clear n0_ n1_ n2_ n3_; clear hb hbox hg) | ((with_reducible refine gate_dst (N := 6) rfl ?_); refine box_event ?hg (N := 6) ?hd (cs := #[.int .i64 0, .bool false]) (t := 25) ?hr ?_; (case hd => rfl); (case hg => rfl); (case hr => first | (go_simp; done) | (go_simp; rfl)); intro gb209 hg w6 hbox hb; have n0_ := Aside0.mk (blk_below (g := gb208) (o := .cells #[.int .i64 a0_0, .bool a0_1] 25 (0, 0)) (by (with_reducible repeat (first | refine blk_drewN ?_ _ | refine blk_drew ?_ | refine blk_alloc ?_ _)); exact BK208.out) hb); have n1_ := Aside0.mk (below_step (by repeat (first | (with_reducible first | exact HB.out | apply below_alloc | apply pw_below_drewN | apply below_drew1 | refine below_set ?_ GE208.out) | exact HB.out)) hb); have n2_ := Aside0.mk (hbox); have n3_ := Aside0.mk ((by rw [hg]; exact (below_size (by repeat (first | (with_reducible first | exact HB.out | apply below_alloc | apply pw_below_drewN | apply below_drew1 | refine below_set ?_ GE208.out) | exact HB.out))) : w.heap.size ≤ gb209)); have n4_ := Aside0.mk ((by rw [hg]; exact (below_size (by repeat (first | (with_reducible first | exact HB.out | apply below_alloc | apply pw_below_drewN | apply below_drew1 | refine below_set ?_ GE208.out) | exact HB.out))) : w.heap.size ≤ gb209)); have n5_ := Aside0.mk ((by rw [hg]; exact Nat.ne_of_lt (blk_lt (g := gb208) (o := .cells #[.int .i64 a0_0, .bool a0_1] 25 (0, 0)) (by (with_reducible repeat (first | refine blk_drewN ?_ _ | refine blk_drew ?_ | refine blk_alloc ?_ _)); exact BK208.out)) : gb208 ≠ gb209)); have n6_ := Aside0.mk ((by rw [hg]; exact Nat.ne_of_gt (blk_lt (g := gb208) (o := .cells #[.int .i64 a0_0, .bool a0_1] 25 (0, 0)) (by (with_reducible repeat (first | refine blk_drewN ?_ _ | refine blk_drew ?_ | refine blk_alloc ?_ _)); exact BK208.out)) : gb209 ≠ gb208)); clear BK208; clear HB; have BK208 := n0_; have HB := n1_; have BK209 := n2_; have GW209 := n3_; have GE209 := n4_; have NB208_209 := n5_; have NB209_208 := n6_; clear n0_ n1_ n2_ n3_ n4_ n5_ n6_; clear hb hbox hg))
 (try simp only [Act.put, List.setIfInBounds_toArray, List.set_cons_zero, List.set_cons_succ])
 go_cut [19] (fun v19 wc => ∃ (kq : Nat) (x19_3 : Bool), v19 = .bool x19_3 ∧ Aside0 (impl_ToneAbove.j0 kq a1 a2 x19_3 a0_0 a0_1 = some (r1, r2, r3)) ∧ Aside0 (kq ≤ k) ∧ Aside0 (wc.heap[gb208]? = some (.cells #[.int .i64 a0_0, .bool a0_1] 25 (0, 0))) ∧ Aside0 (wc.heap[gb209]? = some (.cells #[.int .i64 0, .bool false] 25 (0, 0))) ∧ Aside0 (Below w.heap.size w wc))
 case first =>
  have H := HC4.out
  clear HC4
  replace H := Option.bind_eq_some_iff.mp H
  obtain ⟨t210, A70, H⟩ := H
  replace H : (if t210 = true then (if a1 < (-20) then (impl_ToneAbove.j0 k a1 a2 true a0_0 a0_1) else (impl_ToneAbove.j0 k a1 a2 (decide (a1 > 20)) a0_0 a0_1)) else (impl_ToneAbove.j0 k a1 a2 true a0_0 a0_1)) = some (r1, r2, r3) := H
  have A7 := Aside0.mk A70
  clear A70
  by_cases c8 : t210 = true
  rotate_left
  ·replace c8 := Bool.eq_false_iff.mpr c8
   subst c8
   have H1 : (impl_ToneAbove.j0 k a1 a2 true a0_0 a0_1) = some (r1, r2, r3) := by rw [if_neg (show ¬ (false = true) by decide)] at H; exact H
   clear H
   have H := H1
   clear H1
   have H' := Aside0.mk H
   clear H
   have hnb16 := NB208_209.out
   have hnc16 := NB209_208.out
   have hcz17_0 : w6.cell? ⟨gb208, 0, none⟩ = some (.int .i64 a0_0) := (blk_cell BK208.out 0).trans rfl
   have hcz17_1 : w6.cell? ⟨gb208, 1, none⟩ = some (.bool a0_1) := (blk_cell BK208.out 1).trans rfl
   have hfz17_0 := blk_frozen BK208.out 0
   have hfz17_1 := blk_frozen BK208.out 1
   go_wp2_with (first | ((with_reducible refine gate_callee (f := 39) rfl ?_); refine goesL_ (some 10) rfl rfl Tryd.func39 (by kernel_rfl) rfl #[.agg #[.int .i64 a0_0, .bool a0_1]] rfl (by (try simp only [List.map_toArray, List.map_cons, List.map_nil]); first | done | rfl | (simp only [List.length_drop, List.length_take]; rfl)) ?_; (with_reducible refine (impl_Tone_valid.calls a0_0 a0_1 false _ A7.out).mono ?_); rintro e w18 ⟨rfl, hb⟩; refine ⟨_, rfl, ?_⟩; have n0_ := Aside0.mk (blk_below (g := gb208) (o := .cells #[.int .i64 a0_0, .bool a0_1] 25 (0, 0)) (by (with_reducible repeat (first | refine blk_drewN ?_ _ | refine blk_drew ?_ | refine blk_alloc ?_ _)); exact BK208.out) hb); have n1_ := Aside0.mk (blk_below (g := gb209) (o := .cells #[.int .i64 0, .bool false] 25 (0, 0)) (by (with_reducible repeat (first | refine blk_drewN ?_ _ | refine blk_drew ?_ | refine blk_alloc ?_ _)); exact BK209.out) hb); have n2_ := Aside0.mk (below_step (by repeat (first | (with_reducible first | exact HB.out | apply below_alloc | apply pw_below_drewN | apply below_drew1 | refine below_set ?_ GE208.out | refine below_set ?_ GE209.out) | exact HB.out)) hb); clear BK208; clear BK209; clear HB; have BK208 := n0_; have BK209 := n1_; have HB := n2_; clear n0_ n1_ n2_; (try clear hb); (try clear hb2); (try clear hk); (try clear hi)))
   go_meet
   case rel => exact ⟨_, (true), (by first | rfl | (simp; done) | (simp [*]; done)), H', ⟨by first | omega | exact Nat.le_refl _⟩, ⟨by (with_reducible repeat (first | refine blk_drewN ?_ _ | refine blk_drew ?_ | refine blk_alloc ?_ _)); exact BK208.out⟩, ⟨by (with_reducible repeat (first | refine blk_drewN ?_ _ | refine blk_drew ?_ | refine blk_alloc ?_ _)); exact BK209.out⟩, ⟨by repeat (first | (with_reducible first | exact HB.out | apply below_alloc | apply pw_below_drewN | apply below_drew1 | refine below_set ?_ GE208.out | refine below_set ?_ GE209.out) | exact HB.out)⟩⟩
  subst c8
  have H1 : (if a1 < (-20) then (impl_ToneAbove.j0 k a1 a2 true a0_0 a0_1) else (impl_ToneAbove.j0 k a1 a2 (decide (a1 > 20)) a0_0 a0_1)) = some (r1, r2, r3) := by rw [if_pos rfl] at H; exact H
  clear H
  have H := H1
  clear H1
  by_cases c9 : a1 < (-20)
  rotate_left
  ·rw [if_neg c9] at H
   have c9b0 : decide (a1 < (-20)) = false := decide_eq_false c9
   clear c9
   (first | rw [c9b0] | (simp only [i64_w, i32_w]; rw [c9b0]) | skip)
   have H' := Aside0.mk H
   clear H
   have hnb13 := NB208_209.out
   have hnc13 := NB209_208.out
   have hcz14_0 : w6.cell? ⟨gb208, 0, none⟩ = some (.int .i64 a0_0) := (blk_cell BK208.out 0).trans rfl
   have hcz14_1 : w6.cell? ⟨gb208, 1, none⟩ = some (.bool a0_1) := (blk_cell BK208.out 1).trans rfl
   have hfz14_0 := blk_frozen BK208.out 0
   have hfz14_1 := blk_frozen BK208.out 1
   go_wp2_with (first | ((with_reducible refine gate_callee (f := 39) rfl ?_); refine goesL_ (some 10) rfl rfl Tryd.func39 (by kernel_rfl) rfl #[.agg #[.int .i64 a0_0, .bool a0_1]] rfl (by (try simp only [List.map_toArray, List.map_cons, List.map_nil]); first | done | rfl | (simp only [List.length_drop, List.length_take]; rfl)) ?_; (with_reducible refine (impl_Tone_valid.calls a0_0 a0_1 true _ A7.out).mono ?_); rintro e w15 ⟨rfl, hb⟩; refine ⟨_, rfl, ?_⟩; have n0_ := Aside0.mk (blk_below (g := gb208) (o := .cells #[.int .i64 a0_0, .bool a0_1] 25 (0, 0)) (by (with_reducible repeat (first | refine blk_drewN ?_ _ | refine blk_drew ?_ | refine blk_alloc ?_ _)); exact BK208.out) hb); have n1_ := Aside0.mk (blk_below (g := gb209) (o := .cells #[.int .i64 0, .bool false] 25 (0, 0)) (by (with_reducible repeat (first | refine blk_drewN ?_ _ | refine blk_drew ?_ | refine blk_alloc ?_ _)); exact BK209.out) hb); have n2_ := Aside0.mk (below_step (by repeat (first | (with_reducible first | exact HB.out | apply below_alloc | apply pw_below_drewN | apply below_drew1 | refine below_set ?_ GE208.out | refine below_set ?_ GE209.out) | exact HB.out)) hb); clear BK208; clear BK209; clear HB; have BK208 := n0_; have BK209 := n1_; have HB := n2_; clear n0_ n1_ n2_; (try clear hb); (try clear hb2); (try clear hk); (try clear hi)))
   go_meet
   case rel => exact ⟨_, (decide (a1 > 20)), (by first | rfl | (simp; done) | (simp [*]; done)), H', ⟨by first | omega | exact Nat.le_refl _⟩, ⟨by (with_reducible repeat (first | refine blk_drewN ?_ _ | refine blk_drew ?_ | refine blk_alloc ?_ _)); exact BK208.out⟩, ⟨by (with_reducible repeat (first | refine blk_drewN ?_ _ | refine blk_drew ?_ | refine blk_alloc ?_ _)); exact BK209.out⟩, ⟨by repeat (first | (with_reducible first | exact HB.out | apply below_alloc | apply pw_below_drewN | apply below_drew1 | refine below_set ?_ GE208.out | refine below_set ?_ GE209.out) | exact HB.out)⟩⟩
  rw [if_pos c9] at H
  have c9b0 : decide (a1 < (-20)) = true := decide_eq_true c9
  clear c9
  (first | rw [c9b0] | (simp only [i64_w, i32_w]; rw [c9b0]) | skip)
  have H' := Aside0.mk H
  clear H
  have hnb10 := NB208_209.out
  have hnc10 := NB209_208.out
  have hcz11_0 : w6.cell? ⟨gb208, 0, none⟩ = some (.int .i64 a0_0) := (blk_cell BK208.out 0).trans rfl
  have hcz11_1 : w6.cell? ⟨gb208, 1, none⟩ = some (.bool a0_1) := (blk_cell BK208.out 1).trans rfl
  have hfz11_0 := blk_frozen BK208.out 0
  have hfz11_1 := blk_frozen BK208.out 1
  go_wp2_with (first | ((with_reducible refine gate_callee (f := 39) rfl ?_); refine goesL_ (some 10) rfl rfl Tryd.func39 (by kernel_rfl) rfl #[.agg #[.int .i64 a0_0, .bool a0_1]] rfl (by (try simp only [List.map_toArray, List.map_cons, List.map_nil]); first | done | rfl | (simp only [List.length_drop, List.length_take]; rfl)) ?_; (with_reducible refine (impl_Tone_valid.calls a0_0 a0_1 true _ A7.out).mono ?_); rintro e w12 ⟨rfl, hb⟩; refine ⟨_, rfl, ?_⟩; have n0_ := Aside0.mk (blk_below (g := gb208) (o := .cells #[.int .i64 a0_0, .bool a0_1] 25 (0, 0)) (by (with_reducible repeat (first | refine blk_drewN ?_ _ | refine blk_drew ?_ | refine blk_alloc ?_ _)); exact BK208.out) hb); have n1_ := Aside0.mk (blk_below (g := gb209) (o := .cells #[.int .i64 0, .bool false] 25 (0, 0)) (by (with_reducible repeat (first | refine blk_drewN ?_ _ | refine blk_drew ?_ | refine blk_alloc ?_ _)); exact BK209.out) hb); have n2_ := Aside0.mk (below_step (by repeat (first | (with_reducible first | exact HB.out | apply below_alloc | apply pw_below_drewN | apply below_drew1 | refine below_set ?_ GE208.out | refine below_set ?_ GE209.out) | exact HB.out)) hb); clear BK208; clear BK209; clear HB; have BK208 := n0_; have BK209 := n1_; have HB := n2_; clear n0_ n1_ n2_; (try clear hb); (try clear hb2); (try clear hk); (try clear hi)))
  go_meet
  case rel => exact ⟨_, (true), (by first | rfl | (simp; done) | (simp [*]; done)), H', ⟨by first | omega | exact Nat.le_refl _⟩, ⟨by (with_reducible repeat (first | refine blk_drewN ?_ _ | refine blk_drew ?_ | refine blk_alloc ?_ _)); exact BK208.out⟩, ⟨by (with_reducible repeat (first | refine blk_drewN ?_ _ | refine blk_drew ?_ | refine blk_alloc ?_ _)); exact BK209.out⟩, ⟨by repeat (first | (with_reducible first | exact HB.out | apply below_alloc | apply pw_below_drewN | apply below_drew1 | refine below_set ?_ GE208.out | refine below_set ?_ GE209.out) | exact HB.out)⟩⟩
 case rest =>
  clear HC4
  try clear c1
  try clear c2
  try clear p2
  try clear c3
  try clear c8
  try clear c9
  try clear c9b0
  try clear c10
  try clear c13
  try clear c16
  try clear hcz11_0
  try clear hcz11_1
  try clear hcz14_0
  try clear hcz14_1
  try clear hcz17_0
  try clear hcz17_1
  try clear hfz11_0
  try clear hfz11_1
  try clear hfz14_0
  try clear hfz14_1
  try clear hfz17_0
  try clear hfz17_1
  obtain ⟨kq, x19_3, rfl, HA, HJ3, BK208, BK209, HB⟩ := hcut
  cases kq with
  | zero => exact absurd HA.out (by simp [impl_ToneAbove.j0])
  | succ kj3 =>
   have H := HA.out
   clear HA
   simp only [impl_ToneAbove.j0] at H
   by_cases c19 : x19_3 = true
   ·subst c19
    have H1 : (some (0, false, false)) = some (r1, r2, r3) := by rw [if_pos rfl] at H; exact H
    clear H
    have H := H1
    clear H1
    simp only [Option.some.injEq, Prod.mk.injEq] at H
    obtain ⟨rfl, rfl, rfl⟩ := H
    have hnb20 := NB209_208.out
    have hnc20 := NB208_209.out
    have hcz21_0 : wc.cell? ⟨gb209, 0, none⟩ = some (.int .i64 0) := (blk_cell BK209.out 0).trans rfl
    have hcz21_1 : wc.cell? ⟨gb209, 1, none⟩ = some (.bool false) := (blk_cell BK209.out 1).trans rfl
    have hfz21_0 := blk_frozen BK209.out 0
    have hfz21_1 := blk_frozen BK209.out 1
    go_wp2
    refine bodyPost_ret (results_ct rfl _ _ gb209 25 #[.int .i64 0, .bool false] (0, 0) _ rfl (by (with_reducible repeat (first | refine blk_drewN ?_ _ | refine blk_drew ?_ | refine blk_alloc ?_ _)); refine blk_put (cs := #[.int .i64 0, .bool false]) ?_ 1 _ rfl; (with_reducible repeat (first | refine blk_drewN ?_ _ | refine blk_drew ?_ | refine blk_alloc ?_ _)); refine blk_put (cs := #[.int .i64 0, .bool false]) ?_ 0 _ rfl; (with_reducible repeat (first | refine blk_drewN ?_ _ | refine blk_drew ?_ | refine blk_alloc ?_ _)); exact BK209.out) Tryd.underlying25 rfl (by kernel_rfl)) rfl ?_
    exact ⟨by first | rfl | (simp [errW_none, errW_some] <;> rfl) | (simp [*, errW_none, errW_some] <;> rfl), by repeat (first | (with_reducible first | exact HB.out | apply below_alloc | apply pw_below_drewN | apply below_drew1 | refine below_set ?_ GE208.out | refine below_set ?_ GE209.out) | exact HB.out)⟩
   replace c19 := Bool.eq_false_iff.mpr c19
   subst c19
   have H1 : ((impl_Tone_valid.f (wrap64 (a0_0 + a1)) a2).bind fun t212 => (if t212 = true then (some (wrap64 (a0_0 + a1), a2, true)) else (some (0, false, false)))) = some (r1, r2, r3) := by rw [if_neg (show ¬ (false = true) by decide)] at H; exact H
   clear H
   have H := H1
   clear H1
   replace H := Option.bind_eq_some_iff.mp H
   obtain ⟨t212, A220, H⟩ := H
   replace H : (if t212 = true then (some (wrap64 (a0_0 + a1), a2, true)) else (some (0, false, false))) = some (r1, r2, r3) := H
   have A22 := Aside0.mk A220
   clear A220
   by_cases c23 : t212 = true
   ·subst c23
    have H1 : (some (wrap64 (a0_0 + a1), a2, true)) = some (r1, r2, r3) := by rw [if_pos rfl] at H; exact H
    clear H
    have H := H1
    clear H1
    simp only [Option.some.injEq, Prod.mk.injEq] at H
    obtain ⟨rfl, rfl, rfl⟩ := H
    have hnb24 := NB208_209.out
    have hnc24 := NB209_208.out
    have hcz25_0 : wc.cell? ⟨gb208, 0, none⟩ = some (.int .i64 a0_0) := (blk_cell BK208.out 0).trans rfl
    have hcz25_1 : wc.cell? ⟨gb208, 1, none⟩ = some (.bool a0_1) := (blk_cell BK208.out 1).trans rfl
    have hfz25_0 := blk_frozen BK208.out 0
    have hfz25_1 := blk_frozen BK208.out 1
    go_wp2_with (first | ((with_reducible refine gate_dst (N := 8) rfl ?_); refine box_event ?hg (N := 8) ?hd (cs := #[.int .i64 0, .bool false]) (t := 25) ?hr ?_; (case hd => rfl); (case hg => rfl); (case hr => first | (go_simp; done) | (go_simp; rfl)); intro gb211 hg w26 hbox hb; have n0_ := Aside0.mk (blk_below (g := gb208) (o := .cells #[.int .i64 a0_0, .bool a0_1] 25 (0, 0)) (by (with_reducible repeat (first | refine blk_drewN ?_ _ | refine blk_drew ?_ | refine blk_alloc ?_ _)); exact BK208.out) hb); have n1_ := Aside0.mk (blk_below (g := gb209) (o := .cells #[.int .i64 0, .bool false] 25 (0, 0)) (by (with_reducible repeat (first | refine blk_drewN ?_ _ | refine blk_drew ?_ | refine blk_alloc ?_ _)); exact BK209.out) hb); have n2_ := Aside0.mk (below_step (by repeat (first | (with_reducible first | exact HB.out | apply below_alloc | apply pw_below_drewN | apply below_drew1 | refine below_set ?_ GE208.out | refine below_set ?_ GE209.out) | exact HB.out)) hb); have n3_ := Aside0.mk (hbox); have n4_ := Aside0.mk ((by rw [hg]; exact (below_size (by repeat (first | (with_reducible first | exact HB.out | apply below_alloc | apply pw_below_drewN | apply below_drew1 | refine below_set ?_ GE208.out | refine below_set ?_ GE209.out) | exact HB.out))) : w.heap.size ≤ gb211)); have n5_ := Aside0.mk ((by rw [hg]; exact (below_size (by repeat (first | (with_reducible first | exact HB.out | apply below_alloc | apply pw_below_drewN | apply below_drew1 | refine below_set ?_ GE208.out | refine below_set ?_ GE209.out) | exact HB.out))) : w.heap.size ≤ gb211)); have n6_ := Aside0.mk ((by rw [hg]; exact Nat.ne_of_lt (blk_lt (g := gb208) (o := .cells #[.int .i64 a0_0, .bool a0_1] 25 (0, 0)) (by (with_reducible repeat (first | refine blk_drewN ?_ _ | refine blk_drew ?_ | refine blk_alloc ?_ _)); exact BK208.out)) : gb208 ≠ gb211)); have n7_ := Aside0.mk ((by rw [hg]; exact Nat.ne_of_gt (blk_lt (g := gb208) (o := .cells #[.int .i64 a0_0, .bool a0_1] 25 (0, 0)) (by (with_reducible repeat (first | refine blk_drewN ?_ _ | refine blk_drew ?_ | refine blk_alloc ?_ _)); exact BK208.out)) : gb211 ≠ gb208)); have n8_ := Aside0.mk ((by rw [hg]; exact Nat.ne_of_lt (blk_lt (g := gb209) (o := .cells #[.int .i64 0, .bool false] 25 (0, 0)) (by (with_reducible repeat (first | refine blk_drewN ?_ _ | refine blk_drew ?_ | refine blk_alloc ?_ _)); exact BK209.out)) : gb209 ≠ gb211)); have n9_ := Aside0.mk ((by rw [hg]; exact Nat.ne_of_gt (blk_lt (g := gb209) (o := .cells #[.int .i64 0, .bool false] 25 (0, 0)) (by (with_reducible repeat (first | refine blk_drewN ?_ _ | refine blk_drew ?_ | refine blk_alloc ?_ _)); exact BK209.out)) : gb211 ≠ gb209)); clear BK208; clear BK209; clear HB; have BK208 := n0_; have BK209 := n1_; have HB := n2_; have BK211 := n3_; have GW211 := n4_; have GE211 := n5_; have NB208_211 := n6_; have NB211_208 := n7_; have NB209_211 := n8_; have NB211_209 := n9_; clear n0_ n1_ n2_ n3_ n4_ n5_ n6_ n7_ n8_ n9_; clear hb hbox hg; have hnb27 := NB211_208.out; have hnc27 := NB208_211.out; have hnb28 := NB211_209.out; have hnc28 := NB209_211.out; have hcz29_0 : w26.cell? ⟨gb211, 0, none⟩ = some (.int .i64 0) := (blk_cell BK211.out 0).trans rfl; have hcz29_1 : w26.cell? ⟨gb211, 1, none⟩ = some (.bool false) := (blk_cell BK211.out 1).trans rfl; have hfz29_0 := blk_frozen BK211.out 0; have hfz29_1 := blk_frozen BK211.out 1) | ((with_reducible refine gate_callee (f := 39) rfl ?_); refine goesL_ (some 28) rfl rfl Tryd.func39 (by kernel_rfl) rfl #[.agg #[.int .i64 (wrap64 (a0_0 + a1)), .bool a2]] rfl (by (try simp only [List.map_toArray, List.map_cons, List.map_nil]); first | done | rfl | (simp only [List.length_drop, List.length_take]; rfl)) ?_; (with_reducible refine (impl_Tone_valid.calls (wrap64 (a0_0 + a1)) a2 true _ A22.out).mono ?_); rintro e w30 ⟨rfl, hb⟩; refine ⟨_, rfl, ?_⟩; have n0_ := Aside0.mk (blk_below (g := gb208) (o := .cells #[.int .i64 a0_0, .bool a0_1] 25 (0, 0)) (by (with_reducible repeat (first | refine blk_drewN ?_ _ | refine blk_drew ?_ | refine blk_alloc ?_ _)); refine blk_far ?_ NB208_211.out _; (with_reducible repeat (first | refine blk_drewN ?_ _ | refine blk_drew ?_ | refine blk_alloc ?_ _)); refine blk_far ?_ NB208_211.out _; (with_reducible repeat (first | refine blk_drewN ?_ _ | refine blk_drew ?_ | refine blk_alloc ?_ _)); exact BK208.out) hb); have n1_ := Aside0.mk (blk_below (g := gb209) (o := .cells #[.int .i64 0, .bool false] 25 (0, 0)) (by (with_reducible repeat (first | refine blk_drewN ?_ _ | refine blk_drew ?_ | refine blk_alloc ?_ _)); refine blk_far ?_ NB209_211.out _; (with_reducible repeat (first | refine blk_drewN ?_ _ | refine blk_drew ?_ | refine blk_alloc ?_ _)); refine blk_far ?_ NB209_211.out _; (with_reducible repeat (first | refine blk_drewN ?_ _ | refine blk_drew ?_ | refine blk_alloc ?_ _)); exact BK209.out) hb); have n2_ := Aside0.mk (blk_below (g := gb211) (o := .cells #[.int .i64 (wrap64 (a0_0 + a1)), .bool a2] 25 (0, 0)) (by (with_reducible repeat (first | refine blk_drewN ?_ _ | refine blk_drew ?_ | refine blk_alloc ?_ _)); refine blk_put (cs := #[.int .i64 (wrap64 (a0_0 + a1)), .bool false]) ?_ 1 _ rfl; (with_reducible repeat (first | refine blk_drewN ?_ _ | refine blk_drew ?_ | refine blk_alloc ?_ _)); refine blk_put (cs := #[.int .i64 0, .bool false]) ?_ 0 _ rfl; (with_reducible repeat (first | refine blk_drewN ?_ _ | refine blk_drew ?_ | refine blk_alloc ?_ _)); exact BK211.out) hb); have n3_ := Aside0.mk (below_step (by repeat (first | (with_reducible first | exact HB.out | apply below_alloc | apply pw_below_drewN | apply below_drew1 | refine below_set ?_ GE208.out | refine below_set ?_ GE209.out | refine below_set ?_ GE211.out) | exact HB.out)) hb); clear BK208; clear BK209; clear BK211; clear HB; have BK208 := n0_; have BK209 := n1_; have BK211 := n2_; have HB := n3_; clear n0_ n1_ n2_ n3_; (try clear hb); (try clear hb2); (try clear hk); (try clear hi); have hcz31_0 : w30.cell? ⟨gb211, 0, none⟩ = some (.int .i64 (wrap64 (a0_0 + a1))) := (blk_cell BK211.out 0).trans rfl; have hcz31_1 : w30.cell? ⟨gb211, 1, none⟩ = some (.bool a2) := (blk_cell BK211.out 1).trans rfl; have hfz31_0 := blk_frozen BK211.out 0; have hfz31_1 := blk_frozen BK211.out 1; have hcz32_0 : w30.cell? ⟨gb209, 0, none⟩ = some (.int .i64 0) := (blk_cell BK209.out 0).trans rfl; have hcz32_1 : w30.cell? ⟨gb209, 1, none⟩ = some (.bool false) := (blk_cell BK209.out 1).trans rfl; have hfz32_0 := blk_frozen BK209.out 0; have hfz32_1 := blk_frozen BK209.out 1))
    refine bodyPost_ret (results_ct rfl _ _ gb209 25 #[.int .i64 (wrap64 (a0_0 + a1)), .bool a2] (0, 0) _ rfl (by (with_reducible repeat (first | refine blk_drewN ?_ _ | refine blk_drew ?_ | refine blk_alloc ?_ _)); refine blk_put (cs := #[.int .i64 (wrap64 (a0_0 + a1)), .bool false]) ?_ 1 _ rfl; (with_reducible repeat (first | refine blk_drewN ?_ _ | refine blk_drew ?_ | refine blk_alloc ?_ _)); refine blk_put (cs := #[.int .i64 0, .bool false]) ?_ 0 _ rfl; (with_reducible repeat (first | refine blk_drewN ?_ _ | refine blk_drew ?_ | refine blk_alloc ?_ _)); exact BK209.out) Tryd.underlying25 rfl (by kernel_rfl)) rfl ?_
    exact ⟨by first | rfl | (simp [errW_none, errW_some] <;> rfl) | (simp [*, errW_none, errW_some] <;> rfl), by repeat (first | (with_reducible first | exact HB.out | apply below_alloc | apply pw_below_drewN | apply below_drew1 | refine below_set ?_ GE208.out | refine below_set ?_ GE209.out | refine below_set ?_ GE211.out) | exact HB.out)⟩
   replace c23 := Bool.eq_false_iff.mpr c23
   subst c23
   have H1 : (some (0, false, false)) = some (r1, r2, r3) := by rw [if_neg (show ¬ (false = true) by decide)] at H; exact H
   clear H
   have H := H1
   clear H1
   simp only [Option.some.injEq, Prod.mk.injEq] at H
   obtain ⟨rfl, rfl, rfl⟩ := H
   have hnb33 := NB208_209.out
   have hnc33 := NB209_208.out
   have hcz34_0 : wc.cell? ⟨gb208, 0, none⟩ = some (.int .i64 a0_0) := (blk_cell BK208.out 0).trans rfl
   have hcz34_1 : wc.cell? ⟨gb208, 1, none⟩ = some (.bool a0_1) := (blk_cell BK208.out 1).trans rfl
   have hfz34_0 := blk_frozen BK208.out 0
   have hfz34_1 := blk_frozen BK208.out 1
   go_wp2_with (first | ((with_reducible refine gate_dst (N := 8) rfl ?_); refine box_event ?hg (N := 8) ?hd (cs := #[.int .i64 0, .bool false]) (t := 25) ?hr ?_; (case hd => rfl); (case hg => rfl); (case hr => first | (go_simp; done) | (go_simp; rfl)); intro gb211 hg w35 hbox hb; have n0_ := Aside0.mk (blk_below (g := gb208) (o := .cells #[.int .i64 a0_0, .bool a0_1] 25 (0, 0)) (by (with_reducible repeat (first | refine blk_drewN ?_ _ | refine blk_drew ?_ | refine blk_alloc ?_ _)); exact BK208.out) hb); have n1_ := Aside0.mk (blk_below (g := gb209) (o := .cells #[.int .i64 0, .bool false] 25 (0, 0)) (by (with_reducible repeat (first | refine blk_drewN ?_ _ | refine blk_drew ?_ | refine blk_alloc ?_ _)); exact BK209.out) hb); have n2_ := Aside0.mk (below_step (by repeat (first | (with_reducible first | exact HB.out | apply below_alloc | apply pw_below_drewN | apply below_drew1 | refine below_set ?_ GE208.out | refine below_set ?_ GE209.out) | exact HB.out)) hb); have n3_ := Aside0.mk (hbox); have n4_ := Aside0.mk ((by rw [hg]; exact (below_size (by repeat (first | (with_reducible first | exact HB.out | apply below_alloc | apply pw_below_drewN | apply below_drew1 | refine below_set ?_ GE208.out | refine below_set ?_ GE209.out) | exact HB.out))) : w.heap.size ≤ gb211)); have n5_ := Aside0.mk ((by rw [hg]; exact (below_size (by repeat (first | (with_reducible first | exact HB.out | apply below_alloc | apply pw_below_drewN | apply below_drew1 | refine below_set ?_ GE208.out | refine below_set ?_ GE209.out) | exact HB.out))) : w.heap.size ≤ gb211)); have n6_ := Aside0.mk ((by rw [hg]; exact Nat.ne_of_lt (blk_lt (g := gb208) (o := .cells #[.int .i64 a0_0, .bool a0_1] 25 (0, 0)) (by (with_reducible repeat (first | refine blk_drewN ?_ _ | refine blk_drew ?_ | refine blk_alloc ?_ _)); exact BK208.out)) : gb208 ≠ gb211)); have n7_ := Aside0.mk ((by rw [hg]; exact Nat.ne_of_gt (blk_lt (g := gb208) (o := .cells #[.int .i64 a0_0, .bool a0_1] 25 (0, 0)) (by (with_reducible repeat (first | refine blk_drewN ?_ _ | refine blk_drew ?_ | refine blk_alloc ?_ _)); exact BK208.out)) : gb211 ≠ gb208)); have n8_ := Aside0.mk ((by rw [hg]; exact Nat.ne_of_lt (blk_lt (g := gb209) (o := .cells #[.int .i64 0, .bool false] 25 (0, 0)) (by (with_reducible repeat (first | refine blk_drewN ?_ _ | refine blk_drew ?_ | refine blk_alloc ?_ _)); exact BK209.out)) : gb209 ≠ gb211)); have n9_ := Aside0.mk ((by rw [hg]; exact Nat.ne_of_gt (blk_lt (g := gb209) (o := .cells #[.int .i64 0, .bool false] 25 (0, 0)) (by (with_reducible repeat (first | refine blk_drewN ?_ _ | refine blk_drew ?_ | refine blk_alloc ?_ _)); exact BK209.out)) : gb211 ≠ gb209)); clear BK208; clear BK209; clear HB; have BK208 := n0_; have BK209 := n1_; have HB := n2_; have BK211 := n3_; have GW211 := n4_; have GE211 := n5_; have NB208_211 := n6_; have NB211_208 := n7_; have NB209_211 := n8_; have NB211_209 := n9_; clear n0_ n1_ n2_ n3_ n4_ n5_ n6_ n7_ n8_ n9_; clear hb hbox hg; have hnb36 := NB211_208.out; have hnc36 := NB208_211.out; have hnb37 := NB211_209.out; have hnc37 := NB209_211.out; have hcz38_0 : w35.cell? ⟨gb211, 0, none⟩ = some (.int .i64 0) := (blk_cell BK211.out 0).trans rfl; have hcz38_1 : w35.cell? ⟨gb211, 1, none⟩ = some (.bool false) := (blk_cell BK211.out 1).trans rfl; have hfz38_0 := blk_frozen BK211.out 0; have hfz38_1 := blk_frozen BK211.out 1) | ((with_reducible refine gate_callee (f := 39) rfl ?_); refine goesL_ (some 28) rfl rfl Tryd.func39 (by kernel_rfl) rfl #[.agg #[.int .i64 (wrap64 (a0_0 + a1)), .bool a2]] rfl (by (try simp only [List.map_toArray, List.map_cons, List.map_nil]); first | done | rfl | (simp only [List.length_drop, List.length_take]; rfl)) ?_; (with_reducible refine (impl_Tone_valid.calls (wrap64 (a0_0 + a1)) a2 false _ A22.out).mono ?_); rintro e w39 ⟨rfl, hb⟩; refine ⟨_, rfl, ?_⟩; have n0_ := Aside0.mk (blk_below (g := gb208) (o := .cells #[.int .i64 a0_0, .bool a0_1] 25 (0, 0)) (by (with_reducible repeat (first | refine blk_drewN ?_ _ | refine blk_drew ?_ | refine blk_alloc ?_ _)); refine blk_far ?_ NB208_211.out _; (with_reducible repeat (first | refine blk_drewN ?_ _ | refine blk_drew ?_ | refine blk_alloc ?_ _)); refine blk_far ?_ NB208_211.out _; (with_reducible repeat (first | refine blk_drewN ?_ _ | refine blk_drew ?_ | refine blk_alloc ?_ _)); exact BK208.out) hb); have n1_ := Aside0.mk (blk_below (g := gb209) (o := .cells #[.int .i64 0, .bool false] 25 (0, 0)) (by (with_reducible repeat (first | refine blk_drewN ?_ _ | refine blk_drew ?_ | refine blk_alloc ?_ _)); refine blk_far ?_ NB209_211.out _; (with_reducible repeat (first | refine blk_drewN ?_ _ | refine blk_drew ?_ | refine blk_alloc ?_ _)); refine blk_far ?_ NB209_211.out _; (with_reducible repeat (first | refine blk_drewN ?_ _ | refine blk_drew ?_ | refine blk_alloc ?_ _)); exact BK209.out) hb); have n2_ := Aside0.mk (blk_below (g := gb211) (o := .cells #[.int .i64 (wrap64 (a0_0 + a1)), .bool a2] 25 (0, 0)) (by (with_reducible repeat (first | refine blk_drewN ?_ _ | refine blk_drew ?_ | refine blk_alloc ?_ _)); refine blk_put (cs := #[.int .i64 (wrap64 (a0_0 + a1)), .bool false]) ?_ 1 _ rfl; (with_reducible repeat (first | refine blk_drewN ?_ _ | refine blk_drew ?_ | refine blk_alloc ?_ _)); refine blk_put (cs := #[.int .i64 0, .bool false]) ?_ 0 _ rfl; (with_reducible repeat (first | refine blk_drewN ?_ _ | refine blk_drew ?_ | refine blk_alloc ?_ _)); exact BK211.out) hb); have n3_ := Aside0.mk (below_step (by repeat (first | (with_reducible first | exact HB.out | apply below_alloc | apply pw_below_drewN | apply below_drew1 | refine below_set ?_ GE208.out | refine below_set ?_ GE209.out | refine below_set ?_ GE211.out) | exact HB.out)) hb); clear BK208; clear BK209; clear BK211; clear HB; have BK208 := n0_; have BK209 := n1_; have BK211 := n2_; have HB := n3_; clear n0_ n1_ n2_ n3_; (try clear hb); (try clear hb2); (try clear hk); (try clear hi); have hcz40_0 : w39.cell? ⟨gb209, 0, none⟩ = some (.int .i64 0) := (blk_cell BK209.out 0).trans rfl; have hcz40_1 : w39.cell? ⟨gb209, 1, none⟩ = some (.bool false) := (blk_cell BK209.out 1).trans rfl; have hfz40_0 := blk_frozen BK209.out 0; have hfz40_1 := blk_frozen BK209.out 1))
   refine bodyPost_ret (results_ct rfl _ _ gb209 25 #[.int .i64 0, .bool false] (0, 0) _ rfl (by (with_reducible repeat (first | refine blk_drewN ?_ _ | refine blk_drew ?_ | refine blk_alloc ?_ _)); refine blk_put (cs := #[.int .i64 0, .bool false]) ?_ 1 _ rfl; (with_reducible repeat (first | refine blk_drewN ?_ _ | refine blk_drew ?_ | refine blk_alloc ?_ _)); refine blk_put (cs := #[.int .i64 0, .bool false]) ?_ 0 _ rfl; (with_reducible repeat (first | refine blk_drewN ?_ _ | refine blk_drew ?_ | refine blk_alloc ?_ _)); exact BK209.out) Tryd.underlying25 rfl (by kernel_rfl)) rfl ?_
   exact ⟨by first | rfl | (simp [errW_none, errW_some] <;> rfl) | (simp [*, errW_none, errW_some] <;> rfl), by repeat (first | (with_reducible first | exact HB.out | apply below_alloc | apply pw_below_drewN | apply below_drew1 | refine below_set ?_ GE208.out | refine below_set ?_ GE209.out | refine below_set ?_ GE211.out) | exact HB.out)⟩
end Go.Proofs.YtlinjleahnccgaaDoor.E
end
section
namespace Go.Proofs.YtlinjleahnccgaaDoor.E
open Go.RowKit Go.Proofs.YtlinjleahnccgaaDoorW.PrintWords Go.Proofs.YtlinjleahnccgaaDoorW.PrintLast Go.Proofs.YtlinjleahnccgaaDoorW.PrintMore
attribute [local go_sem] max2_int min2_int max_two min_two max_three min_three max_four min_four
set_option linter.unusedVariables false
set_option linter.unusedSimpArgs false
attribute [local go_sem] str_leq_ str_gtr_ str_geq_
def laws_FnToneText.j0 : Nat → ByteArray → ByteArray → Bool → Int → Bool → Option (Bool)
 | 0, _, _, _, _, _ => none
 | k + 1, x4, x5, x27, x216000, x216001 => if x27 = true then (some (x4.toList == x5.toList)) else ((impl_ToneFrom.f x4).bind fun bt218 => ((impl_ToneAbove.f k x216000 x216001 7 x216001).bind fun bt222 => ((impl_ToneLetter.f x216000 x216001).bind fun t226 => (if x216001 = true then ((impl_ToneText.f bt222.1 bt222.2.1).bind fun t227 => (if bt218.2.2 = true then (if bt218.1 = x216000 then (if bt218.2.1 = x216001 then (if (x4.size : Int) = 2 then (if 0 ≤ 1 then (if 1 ≤ (x4.size : Int) then (if (x4.extract 0 1).toList = ([98] : List UInt8) then (if bt222.2.2 = true then (if 1 ≤ (t227.size : Int) then (if (t227.extract 0 1).toList = ([98] : List UInt8) then (if 1 < (t227.size : Int) then (if 1 < (x4.size : Int) then (some ((bt t227 1) == (((bt x4 1) + 1) % 256))) else (none)) else (none)) else (none)) else (none)) else (some true)) else (none)) else (none)) else (none)) else (none)) else (none)) else (none)) else (none))) else ((impl_ToneText.f bt222.1 bt222.2.1).bind fun t228 => (if bt218.2.2 = true then (if bt218.1 = x216000 then (if bt218.2.1 = x216001 then (if (x4.size : Int) = 2 then (if 0 ≤ 1 then (if 1 ≤ (x4.size : Int) then (if (x4.extract 0 1).toList = t226.toList then (if bt222.2.2 = true then (if 1 ≤ (t228.size : Int) then (if (t228.extract 0 1).toList = t226.toList then (if 1 < (t228.size : Int) then (if 1 < (x4.size : Int) then (some ((bt t228 1) == (((bt x4 1) + 1) % 256))) else (none)) else (none)) else (none)) else (none)) else (some true)) else (none)) else (none)) else (none)) else (none)) else (none)) else (none)) else (none)))))))
def laws_FnToneText.f (k : Nat) (l0 : List Int) : Option (Bool) := if (l0.length : Int) > 1048576 then (some true) else ((spec_DrawToneText.f k l0).bind fun bt213 => ((impl_ToneText.f bt213.1 bt213.2).bind fun t216 => ((spec_ToneText.f k bt213.1 bt213.2).bind fun t217 => (if t216.toList = t217.toList then (laws_FnToneText.j0 k t216 t217 (t216.toList == ([] : List UInt8)) bt213.1 bt213.2) else (laws_FnToneText.j0 k t216 t217 true bt213.1 bt213.2)))))
set_option maxHeartbeats 8000000 in
set_option maxRecDepth 100000 in
theorem laws_FnToneText.calls (k : Nat) (A0 : Option Addr) (c0 : Nat) (l0 : List Int) (r : Bool) (w : World) (hr0 : Kd.C (Kd.int .u8) w A0 l0.length l0) (hc0 : l0.length ≤ c0) (hG : GOk [0] w) (h : laws_FnToneText.f k l0 = some r) :
  Calls Tryd.prog 6 #[.slice A0 l0.length c0] w fun e w' => e = .returned (.bool r) ∧ Below w.heap.size w w' := by
 have hu25 := Tryd.underlying25
 have HR0 := Aside0.mk hr0
 have HC0 := Aside0.mk hc0
 clear hr0 hc0
 have HB := Q0_ (Below.refl w.heap.size w)
 have HG := Aside0.mk hG
 clear hG
 have H : (if (l0.length : Int) > 1048576 then (some true) else ((spec_DrawToneText.f k l0).bind fun bt213 => ((impl_ToneText.f bt213.1 bt213.2).bind fun t216 => ((spec_ToneText.f k bt213.1 bt213.2).bind fun t217 => (if t216.toList = t217.toList then (laws_FnToneText.j0 k t216 t217 (t216.toList == ([] : List UInt8)) bt213.1 bt213.2) else (laws_FnToneText.j0 k t216 t217 true bt213.1 bt213.2)))))) = some r := h
 clear h
 by_cases c2 : (l0.length : Int) > 1048576
 ·rw [if_pos c2] at H
  have c2b0 : decide (1048576 < (l0.length : Int)) = true := decide_eq_true c2
  have c2b1 : decide (1048576 < l0.length) = true := decide_eq_true (by omega)
  clear c2
  obtain rfl := Option.some.inj H
  go_enter Tryd.func6, Tryd.ntmps6
  go_wp2
  repeat (go_quiet (fail); try go_wp2)
  go_ret
  exact ⟨by first | rfl | (simp [errW_none, errW_some] <;> rfl) | (simp [*, errW_none, errW_some] <;> rfl), by repeat (first | (with_reducible first | exact HB.out | apply below_alloc | apply pw_below_drewN | apply below_drew1) | exact HB.out)⟩
 rw [if_neg c2] at H
 have c2b0 : decide (1048576 < (l0.length : Int)) = false := decide_eq_false c2
 have c2b1 : decide (1048576 < l0.length) = false := decide_eq_false (by omega)
 clear c2
 obtain ⟨⟨t213, t214⟩, A30, H⟩ := Option.bind_eq_some_iff.mp H
 try dsimp only at H
 have A3 := Aside0.mk A30
 clear A30
 obtain ⟨t216, A40, H⟩ := Option.bind_eq_some_iff.mp H
 try dsimp only at H
 have A4 := Aside0.mk A40
 clear A40
 obtain ⟨t217, A50, H⟩ := Option.bind_eq_some_iff.mp H
 try dsimp only at H
 have A5 := Aside0.mk A50
 clear A50
 have HC6 := Aside0.mk H
 clear H
 go_enter Tryd.func6, Tryd.ntmps6
 go_upto_region 6 with (first | (go_at_call 19; (with_reducible refine (spec_DrawToneText.calls k _ _ l0 t213 t214 _ ?side1 ?side2 A3.out).mono ?_); (case side1 => repeat (first | exact HR0.out | (with_reducible refine Kd.C_alloc ?_ _) | (with_reducible refine Kd.C_drewN ?_ _) | (with_reducible refine Kd.C_drew ?_))); (case side2 => exact HC0.out); rintro e w7 ⟨rfl, hb⟩; have n0_ := Q0_ (below_step (upB HB) hb); clear HB; revert n0_; intro HB; (try clear hb); (try clear hb2); (try clear hk); (try clear hi)) | ((with_reducible refine gate_dst (N := 3) rfl ?_); (try (refine gate_guard (by rfl) ?_; dsimp only)); refine box_event ?hg (N := 3) ?hd (cs := #[.int .i64 0, .bool false]) (t := 25) ?hr ?_; (case hd => rfl); (case hg => rfl); (case hr => first | (go_simp; done) | (go_simp; rfl)); intro gb215 hg w8 hbox hb; have n0_ := Q0_ (below_step (upB HB) hb); have n1_ := Q0_ (hbox); have n2_ := Q0_ ((by rw [hg]; exact (below_size (upB HB)) : w.heap.size ≤ gb215)); have n3_ := Q0_ ((by rw [hg]; exact (below_size (upB HB)) : w.heap.size ≤ gb215)); clear HB; revert n0_ n1_ n2_ n3_; intro HB BK215 GW215 GE215; clear hb hbox hg; have hcz9_0 : w8.cell? ⟨gb215, 0, none⟩ = some (.int .i64 0) := (blk_cell BK215.out 0).trans rfl; have hcz9_1 : w8.cell? ⟨gb215, 1, none⟩ = some (.bool false) := (blk_cell BK215.out 1).trans rfl; have hfz9_0 := blk_frozen BK215.out 0; have hfz9_1 := blk_frozen BK215.out 1) | (go_at_call 15; (with_reducible refine (impl_ToneText.calls t213 t214 t216 _ ?side1 A4.out).mono ?_); (case side1 => exact GOk.sub (GOk.below HG.out upH) (by decide)); rintro e w10 ⟨rfl, hb⟩; have n0_ := Q0_ (blk_below (g := gb215) (o := .cells #[.int .i64 t213, .bool t214] 25 (0, 0)) (by (with_reducible repeat (first | refine blk_drewN ?_ _ | refine blk_drew ?_ | refine blk_alloc ?_ _)); refine blk_put (cs := #[.int .i64 t213, .bool false]) ?_ 1 _ rfl; (with_reducible repeat (first | refine blk_drewN ?_ _ | refine blk_drew ?_ | refine blk_alloc ?_ _)); refine blk_put (cs := #[.int .i64 0, .bool false]) ?_ 0 _ rfl; (with_reducible repeat (first | refine blk_drewN ?_ _ | refine blk_drew ?_ | refine blk_alloc ?_ _)); exact BK215.out) hb); have n1_ := Q0_ (below_step upH hb); clear BK215 HB; revert n0_ n1_; intro BK215 HB; (try clear hb); (try clear hb2); (try clear hk); (try clear hi); have hcz11_0 : w10.cell? ⟨gb215, 0, none⟩ = some (.int .i64 t213) := (blk_cell BK215.out 0).trans rfl; have hcz11_1 : w10.cell? ⟨gb215, 1, none⟩ = some (.bool t214) := (blk_cell BK215.out 1).trans rfl; have hfz11_0 := blk_frozen BK215.out 0; have hfz11_1 := blk_frozen BK215.out 1) | (go_at_call 14; (with_reducible refine (spec_ToneText.calls k t213 t214 t217 _ A5.out).mono ?_); rintro e w12 ⟨rfl, hb⟩; have n0_ := Q0_ (blk_below (upK BK215) hb); have n1_ := Q0_ (below_step upH hb); clear BK215 HB; revert n0_ n1_; intro BK215 HB; (try clear hb); (try clear hb2); (try clear hk); (try clear hi)))
 repeat (go_quiet (first | (go_at_call 19; (with_reducible refine (spec_DrawToneText.calls k _ _ l0 t213 t214 _ ?side1 ?side2 A3.out).mono ?_); (case side1 => repeat (first | exact HR0.out | (with_reducible refine Kd.C_alloc ?_ _) | (with_reducible refine Kd.C_drewN ?_ _) | (with_reducible refine Kd.C_drew ?_))); (case side2 => exact HC0.out); rintro e w7 ⟨rfl, hb⟩; have n0_ := Q0_ (below_step (upB HB) hb); clear HB; revert n0_; intro HB; (try clear hb); (try clear hb2); (try clear hk); (try clear hi)) | ((with_reducible refine gate_dst (N := 3) rfl ?_); (try (refine gate_guard (by rfl) ?_; dsimp only)); refine box_event ?hg (N := 3) ?hd (cs := #[.int .i64 0, .bool false]) (t := 25) ?hr ?_; (case hd => rfl); (case hg => rfl); (case hr => first | (go_simp; done) | (go_simp; rfl)); intro gb215 hg w8 hbox hb; have n0_ := Q0_ (below_step (upB HB) hb); have n1_ := Q0_ (hbox); have n2_ := Q0_ ((by rw [hg]; exact (below_size (upB HB)) : w.heap.size ≤ gb215)); have n3_ := Q0_ ((by rw [hg]; exact (below_size (upB HB)) : w.heap.size ≤ gb215)); clear HB; revert n0_ n1_ n2_ n3_; intro HB BK215 GW215 GE215; clear hb hbox hg; have hcz9_0 : w8.cell? ⟨gb215, 0, none⟩ = some (.int .i64 0) := (blk_cell BK215.out 0).trans rfl; have hcz9_1 : w8.cell? ⟨gb215, 1, none⟩ = some (.bool false) := (blk_cell BK215.out 1).trans rfl; have hfz9_0 := blk_frozen BK215.out 0; have hfz9_1 := blk_frozen BK215.out 1) | (go_at_call 15; (with_reducible refine (impl_ToneText.calls t213 t214 t216 _ ?side1 A4.out).mono ?_); (case side1 => exact GOk.sub (GOk.below HG.out upH) (by decide)); rintro e w10 ⟨rfl, hb⟩; have n0_ := Q0_ (blk_below (g := gb215) (o := .cells #[.int .i64 t213, .bool t214] 25 (0, 0)) (by (with_reducible repeat (first | refine blk_drewN ?_ _ | refine blk_drew ?_ | refine blk_alloc ?_ _)); refine blk_put (cs := #[.int .i64 t213, .bool false]) ?_ 1 _ rfl; (with_reducible repeat (first | refine blk_drewN ?_ _ | refine blk_drew ?_ | refine blk_alloc ?_ _)); refine blk_put (cs := #[.int .i64 0, .bool false]) ?_ 0 _ rfl; (with_reducible repeat (first | refine blk_drewN ?_ _ | refine blk_drew ?_ | refine blk_alloc ?_ _)); exact BK215.out) hb); have n1_ := Q0_ (below_step upH hb); clear BK215 HB; revert n0_ n1_; intro BK215 HB; (try clear hb); (try clear hb2); (try clear hk); (try clear hi); have hcz11_0 : w10.cell? ⟨gb215, 0, none⟩ = some (.int .i64 t213) := (blk_cell BK215.out 0).trans rfl; have hcz11_1 : w10.cell? ⟨gb215, 1, none⟩ = some (.bool t214) := (blk_cell BK215.out 1).trans rfl; have hfz11_0 := blk_frozen BK215.out 0; have hfz11_1 := blk_frozen BK215.out 1) | (go_at_call 14; (with_reducible refine (spec_ToneText.calls k t213 t214 t217 _ A5.out).mono ?_); rintro e w12 ⟨rfl, hb⟩; have n0_ := Q0_ (blk_below (upK BK215) hb); have n1_ := Q0_ (below_step upH hb); clear BK215 HB; revert n0_ n1_; intro BK215 HB; (try clear hb); (try clear hb2); (try clear hk); (try clear hi))); go_upto_region 6 with (first | (go_at_call 19; (with_reducible refine (spec_DrawToneText.calls k _ _ l0 t213 t214 _ ?side1 ?side2 A3.out).mono ?_); (case side1 => repeat (first | exact HR0.out | (with_reducible refine Kd.C_alloc ?_ _) | (with_reducible refine Kd.C_drewN ?_ _) | (with_reducible refine Kd.C_drew ?_))); (case side2 => exact HC0.out); rintro e w7 ⟨rfl, hb⟩; have n0_ := Q0_ (below_step (upB HB) hb); clear HB; revert n0_; intro HB; (try clear hb); (try clear hb2); (try clear hk); (try clear hi)) | ((with_reducible refine gate_dst (N := 3) rfl ?_); (try (refine gate_guard (by rfl) ?_; dsimp only)); refine box_event ?hg (N := 3) ?hd (cs := #[.int .i64 0, .bool false]) (t := 25) ?hr ?_; (case hd => rfl); (case hg => rfl); (case hr => first | (go_simp; done) | (go_simp; rfl)); intro gb215 hg w8 hbox hb; have n0_ := Q0_ (below_step (upB HB) hb); have n1_ := Q0_ (hbox); have n2_ := Q0_ ((by rw [hg]; exact (below_size (upB HB)) : w.heap.size ≤ gb215)); have n3_ := Q0_ ((by rw [hg]; exact (below_size (upB HB)) : w.heap.size ≤ gb215)); clear HB; revert n0_ n1_ n2_ n3_; intro HB BK215 GW215 GE215; clear hb hbox hg; have hcz9_0 : w8.cell? ⟨gb215, 0, none⟩ = some (.int .i64 0) := (blk_cell BK215.out 0).trans rfl; have hcz9_1 : w8.cell? ⟨gb215, 1, none⟩ = some (.bool false) := (blk_cell BK215.out 1).trans rfl; have hfz9_0 := blk_frozen BK215.out 0; have hfz9_1 := blk_frozen BK215.out 1) | (go_at_call 15; (with_reducible refine (impl_ToneText.calls t213 t214 t216 _ ?side1 A4.out).mono ?_); (case side1 => exact GOk.sub (GOk.below HG.out upH) (by decide)); rintro e w10 ⟨rfl, hb⟩; have n0_ := Q0_ (blk_below (g := gb215) (o := .cells #[.int .i64 t213, .bool t214] 25 (0, 0)) (by (with_reducible repeat (first | refine blk_drewN ?_ _ | refine blk_drew ?_ | refine blk_alloc ?_ _)); refine blk_put (cs := #[.int .i64 t213, .bool false]) ?_ 1 _ rfl; (with_reducible repeat (first | refine blk_drewN ?_ _ | refine blk_drew ?_ | refine blk_alloc ?_ _)); refine blk_put (cs := #[.int .i64 0, .bool false]) ?_ 0 _ rfl; (with_reducible repeat (first | refine blk_drewN ?_ _ | refine blk_drew ?_ | refine blk_alloc ?_ _)); exact BK215.out) hb); have n1_ := Q0_ (below_step upH hb); clear BK215 HB; revert n0_ n1_; intro BK215 HB; (try clear hb); (try clear hb2); (try clear hk); (try clear hi); have hcz11_0 : w10.cell? ⟨gb215, 0, none⟩ = some (.int .i64 t213) := (blk_cell BK215.out 0).trans rfl; have hcz11_1 : w10.cell? ⟨gb215, 1, none⟩ = some (.bool t214) := (blk_cell BK215.out 1).trans rfl; have hfz11_0 := blk_frozen BK215.out 0; have hfz11_1 := blk_frozen BK215.out 1) | (go_at_call 14; (with_reducible refine (spec_ToneText.calls k t213 t214 t217 _ A5.out).mono ?_); rintro e w12 ⟨rfl, hb⟩; have n0_ := Q0_ (blk_below (upK BK215) hb); have n1_ := Q0_ (below_step upH hb); clear BK215 HB; revert n0_ n1_; intro BK215 HB; (try clear hb); (try clear hb2); (try clear hk); (try clear hi))))
 (try simp only [Act.put, sI, s0, sS])
 go_cut [27] (fun v27 wc => ∃ (kq : Nat) (x27_5 : Bool), v27 = .bool x27_5 ∧ Aside0 (laws_FnToneText.j0 kq t216 t217 x27_5 t213 t214 = some r) ∧ Aside0 (kq ≤ k) ∧ Aside0 (wc.heap[gb215]? = some (.cells #[.int .i64 t213, .bool t214] 25 (0, 0))) ∧ Aside0 (Below w.heap.size w wc))
 case first =>
  have H := HC6.out
  clear HC6
  by_cases c13 : t216.toList = t217.toList
  rotate_left
  ·rw [if_neg c13] at H
   have c13b0 : (t216.toList == t217.toList) = false := beq_eq_false_iff_ne.mpr c13
   have c13b1 : (t216.toList != t217.toList) = true := bne_iff_ne.mpr c13
   (first | rw [c13b0] | (simp only [i64_w, i32_w]; rw [c13b0]) | skip)
   have H' := Aside0.mk H
   clear H
   go_wp2
   repeat (go_quiet (fail); try go_wp2)
   go_meet
   case rel => exact ⟨_, (true), (by first | rfl | (simp; done) | (simp [*]; done)), H', ⟨by first | omega | exact Nat.le_refl _⟩, ⟨by (with_reducible repeat (first | refine blk_drewN ?_ _ | refine blk_drew ?_ | refine blk_alloc ?_ _)); exact BK215.out⟩, ⟨by repeat (first | (with_reducible first | exact HB.out | apply below_alloc | apply pw_below_drewN | apply below_drew1 | refine below_set ?_ GE215.out) | exact HB.out)⟩⟩
  rw [if_pos c13] at H
  have c13b0 : (t216.toList == t217.toList) = true := beq_iff_eq.mpr c13
  have c13b1 : (t216.toList != t217.toList) = false := bne_eq_false_iff_eq.mpr c13
  clear c13
  (first | rw [c13b0] | (simp only [i64_w, i32_w]; rw [c13b0]) | skip)
  have H' := Aside0.mk H
  clear H
  go_wp2
  repeat (go_quiet (fail); try go_wp2)
  go_meet
  case rel => exact ⟨_, ((t216.toList == ([] : List UInt8))), (by first | rfl | (simp; done) | (simp [*]; done)), H', ⟨by first | omega | exact Nat.le_refl _⟩, ⟨by (with_reducible repeat (first | refine blk_drewN ?_ _ | refine blk_drew ?_ | refine blk_alloc ?_ _)); exact BK215.out⟩, ⟨by repeat (first | (with_reducible first | exact HB.out | apply below_alloc | apply pw_below_drewN | apply below_drew1 | refine below_set ?_ GE215.out) | exact HB.out)⟩⟩
 case rest =>
  clear HC6
  try clear c1
  try clear c2
  try clear c2b0
  try clear c2b1
  try clear p2
  try clear c6
  try clear c13
  try clear c13b0
  try clear c13b1
  try clear hcz11_0
  try clear hcz11_1
  try clear hcz9_0
  try clear hcz9_1
  try clear hfz11_0
  try clear hfz11_1
  try clear hfz9_0
  try clear hfz9_1
  obtain ⟨kq, x27_5, rfl, HA, HJ5, BK215, HB⟩ := hcut
  cases kq with
  | zero => exact absurd HA.out (by simp [laws_FnToneText.j0])
  | succ kj5 =>
   have H := HA.out
   clear HA
   simp only [laws_FnToneText.j0] at H
   by_cases c14 : x27_5 = true
   ·subst c14
    replace H := ifP (rfl) H
    obtain rfl := Option.some.inj H
    go_wp2
    repeat (go_quiet (fail); try go_wp2)
    go_ret
    exact ⟨by first | rfl | (simp [errW_none, errW_some] <;> rfl) | (simp [*, errW_none, errW_some] <;> rfl), by repeat (first | (with_reducible first | exact HB.out | apply below_alloc | apply pw_below_drewN | apply below_drew1 | refine below_set ?_ GE215.out) | exact HB.out)⟩
   replace c14 := Bool.eq_false_iff.mpr c14
   subst c14
   replace H := ifN ((show ¬ (false = true) by decide)) H
   obtain ⟨⟨t218, t219, t220⟩, A150, H⟩ := Option.bind_eq_some_iff.mp H
   try dsimp only at H
   have A15 := Aside0.mk A150
   clear A150
   obtain ⟨⟨t222, t223, t224⟩, A160, H⟩ := Option.bind_eq_some_iff.mp H
   try dsimp only at H
   have A16 := Aside0.mk A160
   clear A160
   obtain ⟨t226, A170, H⟩ := Option.bind_eq_some_iff.mp H
   try dsimp only at H
   have A17 := Aside0.mk A170
   clear A170
   by_cases c18 : t214 = true
   ·subst c18
    replace H := ifP (rfl) H
    obtain ⟨t227, A190, H⟩ := Option.bind_eq_some_iff.mp H
    try dsimp only at H
    have A19 := Aside0.mk A190
    clear A190
    by_cases c20 : t220 = true
    rotate_left
    ·replace c20 := Bool.eq_false_iff.mpr c20
     subst c20
     replace H := ifN ((show ¬ (false = true) by decide)) H
     exact absurd H (by simp)
    subst c20
    replace H := ifP (rfl) H
    by_cases c21 : t218 = t213
    rotate_left
    ·rw [if_neg c21] at H
     exact absurd H (by simp)
    rw [if_pos c21] at H
    have c21b0 : (t218 == t213) = true := beq_iff_eq.mpr c21
    have c21b1 : (t218 != t213) = false := bne_eq_false_iff_eq.mpr c21
    clear c21
    by_cases c22 : t219 = true
    rotate_left
    ·replace c22 := Bool.eq_false_iff.mpr c22
     subst c22
     replace H := ifN ((show ¬ (false = true) by decide)) H
     exact absurd H (by simp)
    subst c22
    replace H := ifP (rfl) H
    by_cases c23 : (t216.size : Int) = 2
    rotate_left
    ·rw [if_neg c23] at H
     exact absurd H (by simp)
    rw [if_pos c23] at H
    have c23b0 : ((t216.size : Int) == 2) = true := beq_iff_eq.mpr c23
    have c23b1 : ((t216.size : Int) != 2) = false := bne_eq_false_iff_eq.mpr c23
    clear c23
    by_cases c24 : 0 ≤ 1
    rotate_left
    ·rw [if_neg c24] at H
     exact absurd H (by simp)
    rw [if_pos c24] at H
    have c24b0 := eq_true c24
    have c24b1 : decide (0 ≤ 1) = true := decide_eq_true c24
    clear c24
    by_cases c25 : 1 ≤ (t216.size : Int)
    rotate_left
    ·rw [if_neg c25] at H
     exact absurd H (by simp)
    rw [if_pos c25] at H
    have c25b0 := eq_true c25
    have c25b1 : decide (1 ≤ (t216.size : Int)) = true := decide_eq_true c25
    clear c25
    by_cases c26 : (t216.extract 0 1).toList = ([98] : List UInt8)
    rotate_left
    ·rw [if_neg c26] at H
     exact absurd H (by simp)
    rw [if_pos c26] at H
    have c26b0 : ((t216.extract 0 1).toList == ([98] : List UInt8)) = true := beq_iff_eq.mpr c26
    have c26b1 : ((t216.extract 0 1).toList != ([98] : List UInt8)) = false := bne_eq_false_iff_eq.mpr c26
    clear c26
    by_cases c27 : t224 = true
    rotate_left
    ·replace c27 := Bool.eq_false_iff.mpr c27
     subst c27
     replace H := ifN ((show ¬ (false = true) by decide)) H
     obtain rfl := Option.some.inj H
     go_wp2_with (first | (go_at_call 17; (with_reducible refine (impl_ToneFrom.calls t216 t218 true true _ ?side1 A15.out).mono ?_); (case side1 => exact GOk.sub (GOk.below HG.out upH) (by decide)); rintro e w52 ⟨rfl, hb⟩; have n0_ := Q0_ (blk_below (upK BK215) hb); have n1_ := Q0_ (below_step upH hb); clear BK215 HB; revert n0_ n1_; intro BK215 HB; (try clear hb); (try clear hb2); (try clear hk); (try clear hi)) | ((with_reducible refine gate_dst (N := 6) rfl ?_); (try (refine gate_guard (by rfl) ?_; dsimp only)); refine box_event ?hg (N := 6) ?hd (cs := #[.int .i64 0, .bool false]) (t := 25) ?hr ?_; (case hd => rfl); (case hg => rfl); (case hr => first | (go_simp; done) | (go_simp; rfl)); intro gb221 hg w53 hbox hb; have n0_ := Q0_ (blk_below (upK BK215) hb); have n1_ := Q0_ (below_step upH hb); have n2_ := Q0_ (hbox); have n3_ := Q0_ ((by rw [hg]; exact (below_size upH) : w.heap.size ≤ gb221)); have n4_ := Q0_ ((by rw [hg]; exact (below_size upH) : w.heap.size ≤ gb221)); have n5_ := Q0_ ((by rw [hg]; exact Nat.ne_of_lt (blk_lt (upK BK215)) : gb215 ≠ gb221)); have n6_ := Q0_ ((by rw [hg]; exact Nat.ne_of_gt (blk_lt (upK BK215)) : gb221 ≠ gb215)); clear BK215 HB; revert n0_ n1_ n2_ n3_ n4_ n5_ n6_; intro BK215 HB BK221 GW221 GE221 NB215_221 NB221_215; clear hb hbox hg; have hnb54 := NB221_215.out; have hnc54 := NB215_221.out; have hcz55_0 : w53.cell? ⟨gb221, 0, none⟩ = some (.int .i64 0) := (blk_cell BK221.out 0).trans rfl; have hcz55_1 : w53.cell? ⟨gb221, 1, none⟩ = some (.bool false) := (blk_cell BK221.out 1).trans rfl; have hfz55_0 := blk_frozen BK221.out 0; have hfz55_1 := blk_frozen BK221.out 1; have hcz56_0 : w53.cell? ⟨gb215, 0, none⟩ = some (.int .i64 t213) := (blk_cell BK215.out 0).trans rfl; have hcz56_1 : w53.cell? ⟨gb215, 1, none⟩ = some (.bool true) := (blk_cell BK215.out 1).trans rfl; have hfz56_0 := blk_frozen BK215.out 0; have hfz56_1 := blk_frozen BK215.out 1) | (go_at_call 20; (with_reducible refine (impl_ToneAbove.calls kj5 t213 true 7 true t222 t223 false _ A16.out).mono ?_); rintro e w57 ⟨rfl, hb⟩; have n0_ := Q0_ (blk_below (g := gb215) (o := .cells #[.int .i64 t213, .bool true] 25 (0, 0)) (by (with_reducible repeat (first | refine blk_drewN ?_ _ | refine blk_drew ?_ | refine blk_alloc ?_ _)); refine blk_far ?_ NB215_221.out _; (with_reducible repeat (first | refine blk_drewN ?_ _ | refine blk_drew ?_ | refine blk_alloc ?_ _)); refine blk_far ?_ NB215_221.out _; (with_reducible repeat (first | refine blk_drewN ?_ _ | refine blk_drew ?_ | refine blk_alloc ?_ _)); exact BK215.out) hb); have n1_ := Q0_ (blk_below (g := gb221) (o := .cells #[.int .i64 t218, .bool true] 25 (0, 0)) (by (with_reducible repeat (first | refine blk_drewN ?_ _ | refine blk_drew ?_ | refine blk_alloc ?_ _)); refine blk_put (cs := #[.int .i64 t218, .bool false]) ?_ 1 _ rfl; (with_reducible repeat (first | refine blk_drewN ?_ _ | refine blk_drew ?_ | refine blk_alloc ?_ _)); refine blk_put (cs := #[.int .i64 0, .bool false]) ?_ 0 _ rfl; (with_reducible repeat (first | refine blk_drewN ?_ _ | refine blk_drew ?_ | refine blk_alloc ?_ _)); exact BK221.out) hb); have n2_ := Q0_ (below_step upH hb); clear BK215 BK221 HB; revert n0_ n1_ n2_; intro BK215 BK221 HB; (try clear hb); (try clear hb2); (try clear hk); (try clear hi)) | ((with_reducible refine gate_dst (N := 8) rfl ?_); (try (refine gate_guard (by rfl) ?_; dsimp only)); refine box_event ?hg (N := 8) ?hd (cs := #[.int .i64 0, .bool false]) (t := 25) ?hr ?_; (case hd => rfl); (case hg => rfl); (case hr => first | (go_simp; done) | (go_simp; rfl)); intro gb225 hg w58 hbox hb; have n0_ := Q0_ (blk_below (upK BK215) hb); have n1_ := Q0_ (blk_below (upK BK221) hb); have n2_ := Q0_ (below_step upH hb); have n3_ := Q0_ (hbox); have n4_ := Q0_ ((by rw [hg]; exact (below_size upH) : w.heap.size ≤ gb225)); have n5_ := Q0_ ((by rw [hg]; exact (below_size upH) : w.heap.size ≤ gb225)); have n6_ := Q0_ ((by rw [hg]; exact Nat.ne_of_lt (blk_lt (upK BK215)) : gb215 ≠ gb225)); have n7_ := Q0_ ((by rw [hg]; exact Nat.ne_of_gt (blk_lt (upK BK215)) : gb225 ≠ gb215)); have n8_ := Q0_ ((by rw [hg]; exact Nat.ne_of_lt (blk_lt (upK BK221)) : gb221 ≠ gb225)); have n9_ := Q0_ ((by rw [hg]; exact Nat.ne_of_gt (blk_lt (upK BK221)) : gb225 ≠ gb221)); clear BK215 BK221 HB; revert n0_ n1_ n2_ n3_ n4_ n5_ n6_ n7_ n8_ n9_; intro BK215 BK221 HB BK225 GW225 GE225 NB215_225 NB225_215 NB221_225 NB225_221; clear hb hbox hg; have hnb59 := NB225_215.out; have hnc59 := NB215_225.out; have hnb60 := NB225_221.out; have hnc60 := NB221_225.out; have hcz61_0 : w58.cell? ⟨gb225, 0, none⟩ = some (.int .i64 0) := (blk_cell BK225.out 0).trans rfl; have hcz61_1 : w58.cell? ⟨gb225, 1, none⟩ = some (.bool false) := (blk_cell BK225.out 1).trans rfl; have hfz61_0 := blk_frozen BK225.out 0; have hfz61_1 := blk_frozen BK225.out 1; have hcz62_0 : w58.cell? ⟨gb215, 0, none⟩ = some (.int .i64 t213) := (blk_cell BK215.out 0).trans rfl; have hcz62_1 : w58.cell? ⟨gb215, 1, none⟩ = some (.bool true) := (blk_cell BK215.out 1).trans rfl; have hfz62_0 := blk_frozen BK215.out 0; have hfz62_1 := blk_frozen BK215.out 1) | (go_at_call 13; (with_reducible refine (impl_ToneLetter.calls t213 true t226 _ ?side1 A17.out).mono ?_); (case side1 => exact GOk.sub (GOk.below HG.out upH) (by decide)); rintro e w63 ⟨rfl, hb⟩; have n0_ := Q0_ (blk_below (g := gb215) (o := .cells #[.int .i64 t213, .bool true] 25 (0, 0)) (by (with_reducible repeat (first | refine blk_drewN ?_ _ | refine blk_drew ?_ | refine blk_alloc ?_ _)); refine blk_far ?_ NB215_225.out _; (with_reducible repeat (first | refine blk_drewN ?_ _ | refine blk_drew ?_ | refine blk_alloc ?_ _)); refine blk_far ?_ NB215_225.out _; (with_reducible repeat (first | refine blk_drewN ?_ _ | refine blk_drew ?_ | refine blk_alloc ?_ _)); exact BK215.out) hb); have n1_ := Q0_ (blk_below (g := gb221) (o := .cells #[.int .i64 t218, .bool true] 25 (0, 0)) (by (with_reducible repeat (first | refine blk_drewN ?_ _ | refine blk_drew ?_ | refine blk_alloc ?_ _)); refine blk_far ?_ NB221_225.out _; (with_reducible repeat (first | refine blk_drewN ?_ _ | refine blk_drew ?_ | refine blk_alloc ?_ _)); refine blk_far ?_ NB221_225.out _; (with_reducible repeat (first | refine blk_drewN ?_ _ | refine blk_drew ?_ | refine blk_alloc ?_ _)); exact BK221.out) hb); have n2_ := Q0_ (blk_below (g := gb225) (o := .cells #[.int .i64 t222, .bool t223] 25 (0, 0)) (by (with_reducible repeat (first | refine blk_drewN ?_ _ | refine blk_drew ?_ | refine blk_alloc ?_ _)); refine blk_put (cs := #[.int .i64 t222, .bool false]) ?_ 1 _ rfl; (with_reducible repeat (first | refine blk_drewN ?_ _ | refine blk_drew ?_ | refine blk_alloc ?_ _)); refine blk_put (cs := #[.int .i64 0, .bool false]) ?_ 0 _ rfl; (with_reducible repeat (first | refine blk_drewN ?_ _ | refine blk_drew ?_ | refine blk_alloc ?_ _)); exact BK225.out) hb); have n3_ := Q0_ (below_step upH hb); clear BK215 BK221 BK225 HB; revert n0_ n1_ n2_ n3_; intro BK215 BK221 BK225 HB; (try clear hb); (try clear hb2); (try clear hk); (try clear hi); have hcz64_0 : w63.cell? ⟨gb215, 0, none⟩ = some (.int .i64 t213) := (blk_cell BK215.out 0).trans rfl; have hcz64_1 : w63.cell? ⟨gb215, 1, none⟩ = some (.bool true) := (blk_cell BK215.out 1).trans rfl; have hfz64_0 := blk_frozen BK215.out 0; have hfz64_1 := blk_frozen BK215.out 1; have hcz65_0 : w63.cell? ⟨gb225, 0, none⟩ = some (.int .i64 t222) := (blk_cell BK225.out 0).trans rfl; have hcz65_1 : w63.cell? ⟨gb225, 1, none⟩ = some (.bool t223) := (blk_cell BK225.out 1).trans rfl; have hfz65_0 := blk_frozen BK225.out 0; have hfz65_1 := blk_frozen BK225.out 1) | (go_at_call 15; (with_reducible refine (impl_ToneText.calls t222 t223 t227 _ ?side1 A19.out).mono ?_); (case side1 => exact GOk.sub (GOk.below HG.out upH) (by decide)); rintro e w66 ⟨rfl, hb⟩; have n0_ := Q0_ (blk_below (upK BK215) hb); have n1_ := Q0_ (blk_below (upK BK221) hb); have n2_ := Q0_ (blk_below (upK BK225) hb); have n3_ := Q0_ (below_step upH hb); clear BK215 BK221 BK225 HB; revert n0_ n1_ n2_ n3_; intro BK215 BK221 BK225 HB; (try clear hb); (try clear hb2); (try clear hk); (try clear hi); have hcz67_0 : w66.cell? ⟨gb221, 0, none⟩ = some (.int .i64 t218) := (blk_cell BK221.out 0).trans rfl; have hcz67_1 : w66.cell? ⟨gb221, 1, none⟩ = some (.bool true) := (blk_cell BK221.out 1).trans rfl; have hfz67_0 := blk_frozen BK221.out 0; have hfz67_1 := blk_frozen BK221.out 1; have hcz68_0 : w66.cell? ⟨gb215, 0, none⟩ = some (.int .i64 t213) := (blk_cell BK215.out 0).trans rfl; have hcz68_1 : w66.cell? ⟨gb215, 1, none⟩ = some (.bool true) := (blk_cell BK215.out 1).trans rfl; have hfz68_0 := blk_frozen BK215.out 0; have hfz68_1 := blk_frozen BK215.out 1))
     repeat (go_quiet (first | (go_at_call 17; (with_reducible refine (impl_ToneFrom.calls t216 t218 true true _ ?side1 A15.out).mono ?_); (case side1 => exact GOk.sub (GOk.below HG.out upH) (by decide)); rintro e w52 ⟨rfl, hb⟩; have n0_ := Q0_ (blk_below (upK BK215) hb); have n1_ := Q0_ (below_step upH hb); clear BK215 HB; revert n0_ n1_; intro BK215 HB; (try clear hb); (try clear hb2); (try clear hk); (try clear hi)) | ((with_reducible refine gate_dst (N := 6) rfl ?_); (try (refine gate_guard (by rfl) ?_; dsimp only)); refine box_event ?hg (N := 6) ?hd (cs := #[.int .i64 0, .bool false]) (t := 25) ?hr ?_; (case hd => rfl); (case hg => rfl); (case hr => first | (go_simp; done) | (go_simp; rfl)); intro gb221 hg w53 hbox hb; have n0_ := Q0_ (blk_below (upK BK215) hb); have n1_ := Q0_ (below_step upH hb); have n2_ := Q0_ (hbox); have n3_ := Q0_ ((by rw [hg]; exact (below_size upH) : w.heap.size ≤ gb221)); have n4_ := Q0_ ((by rw [hg]; exact (below_size upH) : w.heap.size ≤ gb221)); have n5_ := Q0_ ((by rw [hg]; exact Nat.ne_of_lt (blk_lt (upK BK215)) : gb215 ≠ gb221)); have n6_ := Q0_ ((by rw [hg]; exact Nat.ne_of_gt (blk_lt (upK BK215)) : gb221 ≠ gb215)); clear BK215 HB; revert n0_ n1_ n2_ n3_ n4_ n5_ n6_; intro BK215 HB BK221 GW221 GE221 NB215_221 NB221_215; clear hb hbox hg; have hnb54 := NB221_215.out; have hnc54 := NB215_221.out; have hcz55_0 : w53.cell? ⟨gb221, 0, none⟩ = some (.int .i64 0) := (blk_cell BK221.out 0).trans rfl; have hcz55_1 : w53.cell? ⟨gb221, 1, none⟩ = some (.bool false) := (blk_cell BK221.out 1).trans rfl; have hfz55_0 := blk_frozen BK221.out 0; have hfz55_1 := blk_frozen BK221.out 1; have hcz56_0 : w53.cell? ⟨gb215, 0, none⟩ = some (.int .i64 t213) := (blk_cell BK215.out 0).trans rfl; have hcz56_1 : w53.cell? ⟨gb215, 1, none⟩ = some (.bool true) := (blk_cell BK215.out 1).trans rfl; have hfz56_0 := blk_frozen BK215.out 0; have hfz56_1 := blk_frozen BK215.out 1) | (go_at_call 20; (with_reducible refine (impl_ToneAbove.calls kj5 t213 true 7 true t222 t223 false _ A16.out).mono ?_); rintro e w57 ⟨rfl, hb⟩; have n0_ := Q0_ (blk_below (g := gb215) (o := .cells #[.int .i64 t213, .bool true] 25 (0, 0)) (by (with_reducible repeat (first | refine blk_drewN ?_ _ | refine blk_drew ?_ | refine blk_alloc ?_ _)); refine blk_far ?_ NB215_221.out _; (with_reducible repeat (first | refine blk_drewN ?_ _ | refine blk_drew ?_ | refine blk_alloc ?_ _)); refine blk_far ?_ NB215_221.out _; (with_reducible repeat (first | refine blk_drewN ?_ _ | refine blk_drew ?_ | refine blk_alloc ?_ _)); exact BK215.out) hb); have n1_ := Q0_ (blk_below (g := gb221) (o := .cells #[.int .i64 t218, .bool true] 25 (0, 0)) (by (with_reducible repeat (first | refine blk_drewN ?_ _ | refine blk_drew ?_ | refine blk_alloc ?_ _)); refine blk_put (cs := #[.int .i64 t218, .bool false]) ?_ 1 _ rfl; (with_reducible repeat (first | refine blk_drewN ?_ _ | refine blk_drew ?_ | refine blk_alloc ?_ _)); refine blk_put (cs := #[.int .i64 0, .bool false]) ?_ 0 _ rfl; (with_reducible repeat (first | refine blk_drewN ?_ _ | refine blk_drew ?_ | refine blk_alloc ?_ _)); exact BK221.out) hb); have n2_ := Q0_ (below_step upH hb); clear BK215 BK221 HB; revert n0_ n1_ n2_; intro BK215 BK221 HB; (try clear hb); (try clear hb2); (try clear hk); (try clear hi)) | ((with_reducible refine gate_dst (N := 8) rfl ?_); (try (refine gate_guard (by rfl) ?_; dsimp only)); refine box_event ?hg (N := 8) ?hd (cs := #[.int .i64 0, .bool false]) (t := 25) ?hr ?_; (case hd => rfl); (case hg => rfl); (case hr => first | (go_simp; done) | (go_simp; rfl)); intro gb225 hg w58 hbox hb; have n0_ := Q0_ (blk_below (upK BK215) hb); have n1_ := Q0_ (blk_below (upK BK221) hb); have n2_ := Q0_ (below_step upH hb); have n3_ := Q0_ (hbox); have n4_ := Q0_ ((by rw [hg]; exact (below_size upH) : w.heap.size ≤ gb225)); have n5_ := Q0_ ((by rw [hg]; exact (below_size upH) : w.heap.size ≤ gb225)); have n6_ := Q0_ ((by rw [hg]; exact Nat.ne_of_lt (blk_lt (upK BK215)) : gb215 ≠ gb225)); have n7_ := Q0_ ((by rw [hg]; exact Nat.ne_of_gt (blk_lt (upK BK215)) : gb225 ≠ gb215)); have n8_ := Q0_ ((by rw [hg]; exact Nat.ne_of_lt (blk_lt (upK BK221)) : gb221 ≠ gb225)); have n9_ := Q0_ ((by rw [hg]; exact Nat.ne_of_gt (blk_lt (upK BK221)) : gb225 ≠ gb221)); clear BK215 BK221 HB; revert n0_ n1_ n2_ n3_ n4_ n5_ n6_ n7_ n8_ n9_; intro BK215 BK221 HB BK225 GW225 GE225 NB215_225 NB225_215 NB221_225 NB225_221; clear hb hbox hg; have hnb59 := NB225_215.out; have hnc59 := NB215_225.out; have hnb60 := NB225_221.out; have hnc60 := NB221_225.out; have hcz61_0 : w58.cell? ⟨gb225, 0, none⟩ = some (.int .i64 0) := (blk_cell BK225.out 0).trans rfl; have hcz61_1 : w58.cell? ⟨gb225, 1, none⟩ = some (.bool false) := (blk_cell BK225.out 1).trans rfl; have hfz61_0 := blk_frozen BK225.out 0; have hfz61_1 := blk_frozen BK225.out 1; have hcz62_0 : w58.cell? ⟨gb215, 0, none⟩ = some (.int .i64 t213) := (blk_cell BK215.out 0).trans rfl; have hcz62_1 : w58.cell? ⟨gb215, 1, none⟩ = some (.bool true) := (blk_cell BK215.out 1).trans rfl; have hfz62_0 := blk_frozen BK215.out 0; have hfz62_1 := blk_frozen BK215.out 1) | (go_at_call 13; (with_reducible refine (impl_ToneLetter.calls t213 true t226 _ ?side1 A17.out).mono ?_); (case side1 => exact GOk.sub (GOk.below HG.out upH) (by decide)); rintro e w63 ⟨rfl, hb⟩; have n0_ := Q0_ (blk_below (g := gb215) (o := .cells #[.int .i64 t213, .bool true] 25 (0, 0)) (by (with_reducible repeat (first | refine blk_drewN ?_ _ | refine blk_drew ?_ | refine blk_alloc ?_ _)); refine blk_far ?_ NB215_225.out _; (with_reducible repeat (first | refine blk_drewN ?_ _ | refine blk_drew ?_ | refine blk_alloc ?_ _)); refine blk_far ?_ NB215_225.out _; (with_reducible repeat (first | refine blk_drewN ?_ _ | refine blk_drew ?_ | refine blk_alloc ?_ _)); exact BK215.out) hb); have n1_ := Q0_ (blk_below (g := gb221) (o := .cells #[.int .i64 t218, .bool true] 25 (0, 0)) (by (with_reducible repeat (first | refine blk_drewN ?_ _ | refine blk_drew ?_ | refine blk_alloc ?_ _)); refine blk_far ?_ NB221_225.out _; (with_reducible repeat (first | refine blk_drewN ?_ _ | refine blk_drew ?_ | refine blk_alloc ?_ _)); refine blk_far ?_ NB221_225.out _; (with_reducible repeat (first | refine blk_drewN ?_ _ | refine blk_drew ?_ | refine blk_alloc ?_ _)); exact BK221.out) hb); have n2_ := Q0_ (blk_below (g := gb225) (o := .cells #[.int .i64 t222, .bool t223] 25 (0, 0)) (by (with_reducible repeat (first | refine blk_drewN ?_ _ | refine blk_drew ?_ | refine blk_alloc ?_ _)); refine blk_put (cs := #[.int .i64 t222, .bool false]) ?_ 1 _ rfl; (with_reducible repeat (first | refine blk_drewN ?_ _ | refine blk_drew ?_ | refine blk_alloc ?_ _)); refine blk_put (cs := #[.int .i64 0, .bool false]) ?_ 0 _ rfl; (with_reducible repeat (first | refine blk_drewN ?_ _ | refine blk_drew ?_ | refine blk_alloc ?_ _)); exact BK225.out) hb); have n3_ := Q0_ (below_step upH hb); clear BK215 BK221 BK225 HB; revert n0_ n1_ n2_ n3_; intro BK215 BK221 BK225 HB; (try clear hb); (try clear hb2); (try clear hk); (try clear hi); have hcz64_0 : w63.cell? ⟨gb215, 0, none⟩ = some (.int .i64 t213) := (blk_cell BK215.out 0).trans rfl; have hcz64_1 : w63.cell? ⟨gb215, 1, none⟩ = some (.bool true) := (blk_cell BK215.out 1).trans rfl; have hfz64_0 := blk_frozen BK215.out 0; have hfz64_1 := blk_frozen BK215.out 1; have hcz65_0 : w63.cell? ⟨gb225, 0, none⟩ = some (.int .i64 t222) := (blk_cell BK225.out 0).trans rfl; have hcz65_1 : w63.cell? ⟨gb225, 1, none⟩ = some (.bool t223) := (blk_cell BK225.out 1).trans rfl; have hfz65_0 := blk_frozen BK225.out 0; have hfz65_1 := blk_frozen BK225.out 1) | (go_at_call 15; (with_reducible refine (impl_ToneText.calls t222 t223 t227 _ ?side1 A19.out).mono ?_); (case side1 => exact GOk.sub (GOk.below HG.out upH) (by decide)); rintro e w66 ⟨rfl, hb⟩; have n0_ := Q0_ (blk_below (upK BK215) hb); have n1_ := Q0_ (blk_below (upK BK221) hb); have n2_ := Q0_ (blk_below (upK BK225) hb); have n3_ := Q0_ (below_step upH hb); clear BK215 BK221 BK225 HB; revert n0_ n1_ n2_ n3_; intro BK215 BK221 BK225 HB; (try clear hb); (try clear hb2); (try clear hk); (try clear hi); have hcz67_0 : w66.cell? ⟨gb221, 0, none⟩ = some (.int .i64 t218) := (blk_cell BK221.out 0).trans rfl; have hcz67_1 : w66.cell? ⟨gb221, 1, none⟩ = some (.bool true) := (blk_cell BK221.out 1).trans rfl; have hfz67_0 := blk_frozen BK221.out 0; have hfz67_1 := blk_frozen BK221.out 1; have hcz68_0 : w66.cell? ⟨gb215, 0, none⟩ = some (.int .i64 t213) := (blk_cell BK215.out 0).trans rfl; have hcz68_1 : w66.cell? ⟨gb215, 1, none⟩ = some (.bool true) := (blk_cell BK215.out 1).trans rfl; have hfz68_0 := blk_frozen BK215.out 0; have hfz68_1 := blk_frozen BK215.out 1)); try go_wp2_with (first | (go_at_call 17; (with_reducible refine (impl_ToneFrom.calls t216 t218 true true _ ?side1 A15.out).mono ?_); (case side1 => exact GOk.sub (GOk.below HG.out upH) (by decide)); rintro e w52 ⟨rfl, hb⟩; have n0_ := Q0_ (blk_below (upK BK215) hb); have n1_ := Q0_ (below_step upH hb); clear BK215 HB; revert n0_ n1_; intro BK215 HB; (try clear hb); (try clear hb2); (try clear hk); (try clear hi)) | ((with_reducible refine gate_dst (N := 6) rfl ?_); (try (refine gate_guard (by rfl) ?_; dsimp only)); refine box_event ?hg (N := 6) ?hd (cs := #[.int .i64 0, .bool false]) (t := 25) ?hr ?_; (case hd => rfl); (case hg => rfl); (case hr => first | (go_simp; done) | (go_simp; rfl)); intro gb221 hg w53 hbox hb; have n0_ := Q0_ (blk_below (upK BK215) hb); have n1_ := Q0_ (below_step upH hb); have n2_ := Q0_ (hbox); have n3_ := Q0_ ((by rw [hg]; exact (below_size upH) : w.heap.size ≤ gb221)); have n4_ := Q0_ ((by rw [hg]; exact (below_size upH) : w.heap.size ≤ gb221)); have n5_ := Q0_ ((by rw [hg]; exact Nat.ne_of_lt (blk_lt (upK BK215)) : gb215 ≠ gb221)); have n6_ := Q0_ ((by rw [hg]; exact Nat.ne_of_gt (blk_lt (upK BK215)) : gb221 ≠ gb215)); clear BK215 HB; revert n0_ n1_ n2_ n3_ n4_ n5_ n6_; intro BK215 HB BK221 GW221 GE221 NB215_221 NB221_215; clear hb hbox hg; have hnb54 := NB221_215.out; have hnc54 := NB215_221.out; have hcz55_0 : w53.cell? ⟨gb221, 0, none⟩ = some (.int .i64 0) := (blk_cell BK221.out 0).trans rfl; have hcz55_1 : w53.cell? ⟨gb221, 1, none⟩ = some (.bool false) := (blk_cell BK221.out 1).trans rfl; have hfz55_0 := blk_frozen BK221.out 0; have hfz55_1 := blk_frozen BK221.out 1; have hcz56_0 : w53.cell? ⟨gb215, 0, none⟩ = some (.int .i64 t213) := (blk_cell BK215.out 0).trans rfl; have hcz56_1 : w53.cell? ⟨gb215, 1, none⟩ = some (.bool true) := (blk_cell BK215.out 1).trans rfl; have hfz56_0 := blk_frozen BK215.out 0; have hfz56_1 := blk_frozen BK215.out 1) | (go_at_call 20; (with_reducible refine (impl_ToneAbove.calls kj5 t213 true 7 true t222 t223 false _ A16.out).mono ?_); rintro e w57 ⟨rfl, hb⟩; have n0_ := Q0_ (blk_below (g := gb215) (o := .cells #[.int .i64 t213, .bool true] 25 (0, 0)) (by (with_reducible repeat (first | refine blk_drewN ?_ _ | refine blk_drew ?_ | refine blk_alloc ?_ _)); refine blk_far ?_ NB215_221.out _; (with_reducible repeat (first | refine blk_drewN ?_ _ | refine blk_drew ?_ | refine blk_alloc ?_ _)); refine blk_far ?_ NB215_221.out _; (with_reducible repeat (first | refine blk_drewN ?_ _ | refine blk_drew ?_ | refine blk_alloc ?_ _)); exact BK215.out) hb); have n1_ := Q0_ (blk_below (g := gb221) (o := .cells #[.int .i64 t218, .bool true] 25 (0, 0)) (by (with_reducible repeat (first | refine blk_drewN ?_ _ | refine blk_drew ?_ | refine blk_alloc ?_ _)); refine blk_put (cs := #[.int .i64 t218, .bool false]) ?_ 1 _ rfl; (with_reducible repeat (first | refine blk_drewN ?_ _ | refine blk_drew ?_ | refine blk_alloc ?_ _)); refine blk_put (cs := #[.int .i64 0, .bool false]) ?_ 0 _ rfl; (with_reducible repeat (first | refine blk_drewN ?_ _ | refine blk_drew ?_ | refine blk_alloc ?_ _)); exact BK221.out) hb); have n2_ := Q0_ (below_step upH hb); clear BK215 BK221 HB; revert n0_ n1_ n2_; intro BK215 BK221 HB; (try clear hb); (try clear hb2); (try clear hk); (try clear hi)) | ((with_reducible refine gate_dst (N := 8) rfl ?_); (try (refine gate_guard (by rfl) ?_; dsimp only)); refine box_event ?hg (N := 8) ?hd (cs := #[.int .i64 0, .bool false]) (t := 25) ?hr ?_; (case hd => rfl); (case hg => rfl); (case hr => first | (go_simp; done) | (go_simp; rfl)); intro gb225 hg w58 hbox hb; have n0_ := Q0_ (blk_below (upK BK215) hb); have n1_ := Q0_ (blk_below (upK BK221) hb); have n2_ := Q0_ (below_step upH hb); have n3_ := Q0_ (hbox); have n4_ := Q0_ ((by rw [hg]; exact (below_size upH) : w.heap.size ≤ gb225)); have n5_ := Q0_ ((by rw [hg]; exact (below_size upH) : w.heap.size ≤ gb225)); have n6_ := Q0_ ((by rw [hg]; exact Nat.ne_of_lt (blk_lt (upK BK215)) : gb215 ≠ gb225)); have n7_ := Q0_ ((by rw [hg]; exact Nat.ne_of_gt (blk_lt (upK BK215)) : gb225 ≠ gb215)); have n8_ := Q0_ ((by rw [hg]; exact Nat.ne_of_lt (blk_lt (upK BK221)) : gb221 ≠ gb225)); have n9_ := Q0_ ((by rw [hg]; exact Nat.ne_of_gt (blk_lt (upK BK221)) : gb225 ≠ gb221)); clear BK215 BK221 HB; revert n0_ n1_ n2_ n3_ n4_ n5_ n6_ n7_ n8_ n9_; intro BK215 BK221 HB BK225 GW225 GE225 NB215_225 NB225_215 NB221_225 NB225_221; clear hb hbox hg; have hnb59 := NB225_215.out; have hnc59 := NB215_225.out; have hnb60 := NB225_221.out; have hnc60 := NB221_225.out; have hcz61_0 : w58.cell? ⟨gb225, 0, none⟩ = some (.int .i64 0) := (blk_cell BK225.out 0).trans rfl; have hcz61_1 : w58.cell? ⟨gb225, 1, none⟩ = some (.bool false) := (blk_cell BK225.out 1).trans rfl; have hfz61_0 := blk_frozen BK225.out 0; have hfz61_1 := blk_frozen BK225.out 1; have hcz62_0 : w58.cell? ⟨gb215, 0, none⟩ = some (.int .i64 t213) := (blk_cell BK215.out 0).trans rfl; have hcz62_1 : w58.cell? ⟨gb215, 1, none⟩ = some (.bool true) := (blk_cell BK215.out 1).trans rfl; have hfz62_0 := blk_frozen BK215.out 0; have hfz62_1 := blk_frozen BK215.out 1) | (go_at_call 13; (with_reducible refine (impl_ToneLetter.calls t213 true t226 _ ?side1 A17.out).mono ?_); (case side1 => exact GOk.sub (GOk.below HG.out upH) (by decide)); rintro e w63 ⟨rfl, hb⟩; have n0_ := Q0_ (blk_below (g := gb215) (o := .cells #[.int .i64 t213, .bool true] 25 (0, 0)) (by (with_reducible repeat (first | refine blk_drewN ?_ _ | refine blk_drew ?_ | refine blk_alloc ?_ _)); refine blk_far ?_ NB215_225.out _; (with_reducible repeat (first | refine blk_drewN ?_ _ | refine blk_drew ?_ | refine blk_alloc ?_ _)); refine blk_far ?_ NB215_225.out _; (with_reducible repeat (first | refine blk_drewN ?_ _ | refine blk_drew ?_ | refine blk_alloc ?_ _)); exact BK215.out) hb); have n1_ := Q0_ (blk_below (g := gb221) (o := .cells #[.int .i64 t218, .bool true] 25 (0, 0)) (by (with_reducible repeat (first | refine blk_drewN ?_ _ | refine blk_drew ?_ | refine blk_alloc ?_ _)); refine blk_far ?_ NB221_225.out _; (with_reducible repeat (first | refine blk_drewN ?_ _ | refine blk_drew ?_ | refine blk_alloc ?_ _)); refine blk_far ?_ NB221_225.out _; (with_reducible repeat (first | refine blk_drewN ?_ _ | refine blk_drew ?_ | refine blk_alloc ?_ _)); exact BK221.out) hb); have n2_ := Q0_ (blk_below (g := gb225) (o := .cells #[.int .i64 t222, .bool t223] 25 (0, 0)) (by (with_reducible repeat (first | refine blk_drewN ?_ _ | refine blk_drew ?_ | refine blk_alloc ?_ _)); refine blk_put (cs := #[.int .i64 t222, .bool false]) ?_ 1 _ rfl; (with_reducible repeat (first | refine blk_drewN ?_ _ | refine blk_drew ?_ | refine blk_alloc ?_ _)); refine blk_put (cs := #[.int .i64 0, .bool false]) ?_ 0 _ rfl; (with_reducible repeat (first | refine blk_drewN ?_ _ | refine blk_drew ?_ | refine blk_alloc ?_ _)); exact BK225.out) hb); have n3_ := Q0_ (below_step upH hb); clear BK215 BK221 BK225 HB; revert n0_ n1_ n2_ n3_; intro BK215 BK221 BK225 HB; (try clear hb); (try clear hb2); (try clear hk); (try clear hi); have hcz64_0 : w63.cell? ⟨gb215, 0, none⟩ = some (.int .i64 t213) := (blk_cell BK215.out 0).trans rfl; have hcz64_1 : w63.cell? ⟨gb215, 1, none⟩ = some (.bool true) := (blk_cell BK215.out 1).trans rfl; have hfz64_0 := blk_frozen BK215.out 0; have hfz64_1 := blk_frozen BK215.out 1; have hcz65_0 : w63.cell? ⟨gb225, 0, none⟩ = some (.int .i64 t222) := (blk_cell BK225.out 0).trans rfl; have hcz65_1 : w63.cell? ⟨gb225, 1, none⟩ = some (.bool t223) := (blk_cell BK225.out 1).trans rfl; have hfz65_0 := blk_frozen BK225.out 0; have hfz65_1 := blk_frozen BK225.out 1) | (go_at_call 15; (with_reducible refine (impl_ToneText.calls t222 t223 t227 _ ?side1 A19.out).mono ?_); (case side1 => exact GOk.sub (GOk.below HG.out upH) (by decide)); rintro e w66 ⟨rfl, hb⟩; have n0_ := Q0_ (blk_below (upK BK215) hb); have n1_ := Q0_ (blk_below (upK BK221) hb); have n2_ := Q0_ (blk_below (upK BK225) hb); have n3_ := Q0_ (below_step upH hb); clear BK215 BK221 BK225 HB; revert n0_ n1_ n2_ n3_; intro BK215 BK221 BK225 HB; (try clear hb); (try clear hb2); (try clear hk); (try clear hi); have hcz67_0 : w66.cell? ⟨gb221, 0, none⟩ = some (.int .i64 t218) := (blk_cell BK221.out 0).trans rfl; have hcz67_1 : w66.cell? ⟨gb221, 1, none⟩ = some (.bool true) := (blk_cell BK221.out 1).trans rfl; have hfz67_0 := blk_frozen BK221.out 0; have hfz67_1 := blk_frozen BK221.out 1; have hcz68_0 : w66.cell? ⟨gb215, 0, none⟩ = some (.int .i64 t213) := (blk_cell BK215.out 0).trans rfl; have hcz68_1 : w66.cell? ⟨gb215, 1, none⟩ = some (.bool true) := (blk_cell BK215.out 1).trans rfl; have hfz68_0 := blk_frozen BK215.out 0; have hfz68_1 := blk_frozen BK215.out 1)))
     go_ret
     exact ⟨by first | rfl | (simp [errW_none, errW_some] <;> rfl) | (simp [*, errW_none, errW_some] <;> rfl), by repeat (first | (with_reducible first | exact HB.out | apply below_alloc | apply pw_below_drewN | apply below_drew1 | refine below_set ?_ GE215.out | refine below_set ?_ GE221.out | refine below_set ?_ GE225.out) | exact HB.out)⟩
    subst c27
    replace H := ifP (rfl) H
    have c28b0 := eq_true (of_decide_eq_true (by first | (with_reducible assumption) | assumption) : 0 ≤ 1)
    by_cases c29 : 1 ≤ (t227.size : Int)
    rotate_left
    ·rw [if_neg c29] at H
     exact absurd H (by simp)
    rw [if_pos c29] at H
    have c29b0 := eq_true c29
    have c29b1 : decide (1 ≤ (t227.size : Int)) = true := decide_eq_true c29
    clear c29
    by_cases c30 : (t227.extract 0 1).toList = ([98] : List UInt8)
    rotate_left
    ·rw [if_neg c30] at H
     exact absurd H (by simp)
    rw [if_pos c30] at H
    have c30b0 : ((t227.extract 0 1).toList == ([98] : List UInt8)) = true := beq_iff_eq.mpr c30
    have c30b1 : ((t227.extract 0 1).toList != ([98] : List UInt8)) = false := bne_eq_false_iff_eq.mpr c30
    clear c30
    by_cases c31 : 1 < (t227.size : Int)
    rotate_left
    ·rw [if_neg c31] at H
     exact absurd H (by simp)
    rw [if_pos c31] at H
    have c31b0 : decide (1 < (t227.size : Int)) = true := decide_eq_true c31
    have c31b1 : decide (1 < t227.size) = true := decide_eq_true (by omega)
    clear c31
    by_cases c33 : 1 < (t216.size : Int)
    rotate_left
    ·rw [if_neg c33] at H
     exact absurd H (by simp)
    rw [if_pos c33] at H
    have c33b0 : decide (1 < (t216.size : Int)) = true := decide_eq_true c33
    have c33b1 : decide (1 < t216.size) = true := decide_eq_true (by omega)
    clear c33
    obtain rfl := Option.some.inj H
    go_wp2_with (first | (go_at_call 17; (with_reducible refine (impl_ToneFrom.calls t216 t218 true true _ ?side1 A15.out).mono ?_); (case side1 => exact GOk.sub (GOk.below HG.out upH) (by decide)); rintro e w35 ⟨rfl, hb⟩; have n0_ := Q0_ (blk_below (upK BK215) hb); have n1_ := Q0_ (below_step upH hb); clear BK215 HB; revert n0_ n1_; intro BK215 HB; (try clear hb); (try clear hb2); (try clear hk); (try clear hi)) | ((with_reducible refine gate_dst (N := 6) rfl ?_); (try (refine gate_guard (by rfl) ?_; dsimp only)); refine box_event ?hg (N := 6) ?hd (cs := #[.int .i64 0, .bool false]) (t := 25) ?hr ?_; (case hd => rfl); (case hg => rfl); (case hr => first | (go_simp; done) | (go_simp; rfl)); intro gb221 hg w36 hbox hb; have n0_ := Q0_ (blk_below (upK BK215) hb); have n1_ := Q0_ (below_step upH hb); have n2_ := Q0_ (hbox); have n3_ := Q0_ ((by rw [hg]; exact (below_size upH) : w.heap.size ≤ gb221)); have n4_ := Q0_ ((by rw [hg]; exact (below_size upH) : w.heap.size ≤ gb221)); have n5_ := Q0_ ((by rw [hg]; exact Nat.ne_of_lt (blk_lt (upK BK215)) : gb215 ≠ gb221)); have n6_ := Q0_ ((by rw [hg]; exact Nat.ne_of_gt (blk_lt (upK BK215)) : gb221 ≠ gb215)); clear BK215 HB; revert n0_ n1_ n2_ n3_ n4_ n5_ n6_; intro BK215 HB BK221 GW221 GE221 NB215_221 NB221_215; clear hb hbox hg; have hnb37 := NB221_215.out; have hnc37 := NB215_221.out; have hcz38_0 : w36.cell? ⟨gb221, 0, none⟩ = some (.int .i64 0) := (blk_cell BK221.out 0).trans rfl; have hcz38_1 : w36.cell? ⟨gb221, 1, none⟩ = some (.bool false) := (blk_cell BK221.out 1).trans rfl; have hfz38_0 := blk_frozen BK221.out 0; have hfz38_1 := blk_frozen BK221.out 1; have hcz39_0 : w36.cell? ⟨gb215, 0, none⟩ = some (.int .i64 t213) := (blk_cell BK215.out 0).trans rfl; have hcz39_1 : w36.cell? ⟨gb215, 1, none⟩ = some (.bool true) := (blk_cell BK215.out 1).trans rfl; have hfz39_0 := blk_frozen BK215.out 0; have hfz39_1 := blk_frozen BK215.out 1) | (go_at_call 20; (with_reducible refine (impl_ToneAbove.calls kj5 t213 true 7 true t222 t223 true _ A16.out).mono ?_); rintro e w40 ⟨rfl, hb⟩; have n0_ := Q0_ (blk_below (g := gb215) (o := .cells #[.int .i64 t213, .bool true] 25 (0, 0)) (by (with_reducible repeat (first | refine blk_drewN ?_ _ | refine blk_drew ?_ | refine blk_alloc ?_ _)); refine blk_far ?_ NB215_221.out _; (with_reducible repeat (first | refine blk_drewN ?_ _ | refine blk_drew ?_ | refine blk_alloc ?_ _)); refine blk_far ?_ NB215_221.out _; (with_reducible repeat (first | refine blk_drewN ?_ _ | refine blk_drew ?_ | refine blk_alloc ?_ _)); exact BK215.out) hb); have n1_ := Q0_ (blk_below (g := gb221) (o := .cells #[.int .i64 t218, .bool true] 25 (0, 0)) (by (with_reducible repeat (first | refine blk_drewN ?_ _ | refine blk_drew ?_ | refine blk_alloc ?_ _)); refine blk_put (cs := #[.int .i64 t218, .bool false]) ?_ 1 _ rfl; (with_reducible repeat (first | refine blk_drewN ?_ _ | refine blk_drew ?_ | refine blk_alloc ?_ _)); refine blk_put (cs := #[.int .i64 0, .bool false]) ?_ 0 _ rfl; (with_reducible repeat (first | refine blk_drewN ?_ _ | refine blk_drew ?_ | refine blk_alloc ?_ _)); exact BK221.out) hb); have n2_ := Q0_ (below_step upH hb); clear BK215 BK221 HB; revert n0_ n1_ n2_; intro BK215 BK221 HB; (try clear hb); (try clear hb2); (try clear hk); (try clear hi)) | ((with_reducible refine gate_dst (N := 8) rfl ?_); (try (refine gate_guard (by rfl) ?_; dsimp only)); refine box_event ?hg (N := 8) ?hd (cs := #[.int .i64 0, .bool false]) (t := 25) ?hr ?_; (case hd => rfl); (case hg => rfl); (case hr => first | (go_simp; done) | (go_simp; rfl)); intro gb225 hg w41 hbox hb; have n0_ := Q0_ (blk_below (upK BK215) hb); have n1_ := Q0_ (blk_below (upK BK221) hb); have n2_ := Q0_ (below_step upH hb); have n3_ := Q0_ (hbox); have n4_ := Q0_ ((by rw [hg]; exact (below_size upH) : w.heap.size ≤ gb225)); have n5_ := Q0_ ((by rw [hg]; exact (below_size upH) : w.heap.size ≤ gb225)); have n6_ := Q0_ ((by rw [hg]; exact Nat.ne_of_lt (blk_lt (upK BK215)) : gb215 ≠ gb225)); have n7_ := Q0_ ((by rw [hg]; exact Nat.ne_of_gt (blk_lt (upK BK215)) : gb225 ≠ gb215)); have n8_ := Q0_ ((by rw [hg]; exact Nat.ne_of_lt (blk_lt (upK BK221)) : gb221 ≠ gb225)); have n9_ := Q0_ ((by rw [hg]; exact Nat.ne_of_gt (blk_lt (upK BK221)) : gb225 ≠ gb221)); clear BK215 BK221 HB; revert n0_ n1_ n2_ n3_ n4_ n5_ n6_ n7_ n8_ n9_; intro BK215 BK221 HB BK225 GW225 GE225 NB215_225 NB225_215 NB221_225 NB225_221; clear hb hbox hg; have hnb42 := NB225_215.out; have hnc42 := NB215_225.out; have hnb43 := NB225_221.out; have hnc43 := NB221_225.out; have hcz44_0 : w41.cell? ⟨gb225, 0, none⟩ = some (.int .i64 0) := (blk_cell BK225.out 0).trans rfl; have hcz44_1 : w41.cell? ⟨gb225, 1, none⟩ = some (.bool false) := (blk_cell BK225.out 1).trans rfl; have hfz44_0 := blk_frozen BK225.out 0; have hfz44_1 := blk_frozen BK225.out 1; have hcz45_0 : w41.cell? ⟨gb215, 0, none⟩ = some (.int .i64 t213) := (blk_cell BK215.out 0).trans rfl; have hcz45_1 : w41.cell? ⟨gb215, 1, none⟩ = some (.bool true) := (blk_cell BK215.out 1).trans rfl; have hfz45_0 := blk_frozen BK215.out 0; have hfz45_1 := blk_frozen BK215.out 1) | (go_at_call 13; (with_reducible refine (impl_ToneLetter.calls t213 true t226 _ ?side1 A17.out).mono ?_); (case side1 => exact GOk.sub (GOk.below HG.out upH) (by decide)); rintro e w46 ⟨rfl, hb⟩; have n0_ := Q0_ (blk_below (g := gb215) (o := .cells #[.int .i64 t213, .bool true] 25 (0, 0)) (by (with_reducible repeat (first | refine blk_drewN ?_ _ | refine blk_drew ?_ | refine blk_alloc ?_ _)); refine blk_far ?_ NB215_225.out _; (with_reducible repeat (first | refine blk_drewN ?_ _ | refine blk_drew ?_ | refine blk_alloc ?_ _)); refine blk_far ?_ NB215_225.out _; (with_reducible repeat (first | refine blk_drewN ?_ _ | refine blk_drew ?_ | refine blk_alloc ?_ _)); exact BK215.out) hb); have n1_ := Q0_ (blk_below (g := gb221) (o := .cells #[.int .i64 t218, .bool true] 25 (0, 0)) (by (with_reducible repeat (first | refine blk_drewN ?_ _ | refine blk_drew ?_ | refine blk_alloc ?_ _)); refine blk_far ?_ NB221_225.out _; (with_reducible repeat (first | refine blk_drewN ?_ _ | refine blk_drew ?_ | refine blk_alloc ?_ _)); refine blk_far ?_ NB221_225.out _; (with_reducible repeat (first | refine blk_drewN ?_ _ | refine blk_drew ?_ | refine blk_alloc ?_ _)); exact BK221.out) hb); have n2_ := Q0_ (blk_below (g := gb225) (o := .cells #[.int .i64 t222, .bool t223] 25 (0, 0)) (by (with_reducible repeat (first | refine blk_drewN ?_ _ | refine blk_drew ?_ | refine blk_alloc ?_ _)); refine blk_put (cs := #[.int .i64 t222, .bool false]) ?_ 1 _ rfl; (with_reducible repeat (first | refine blk_drewN ?_ _ | refine blk_drew ?_ | refine blk_alloc ?_ _)); refine blk_put (cs := #[.int .i64 0, .bool false]) ?_ 0 _ rfl; (with_reducible repeat (first | refine blk_drewN ?_ _ | refine blk_drew ?_ | refine blk_alloc ?_ _)); exact BK225.out) hb); have n3_ := Q0_ (below_step upH hb); clear BK215 BK221 BK225 HB; revert n0_ n1_ n2_ n3_; intro BK215 BK221 BK225 HB; (try clear hb); (try clear hb2); (try clear hk); (try clear hi); have hcz47_0 : w46.cell? ⟨gb215, 0, none⟩ = some (.int .i64 t213) := (blk_cell BK215.out 0).trans rfl; have hcz47_1 : w46.cell? ⟨gb215, 1, none⟩ = some (.bool true) := (blk_cell BK215.out 1).trans rfl; have hfz47_0 := blk_frozen BK215.out 0; have hfz47_1 := blk_frozen BK215.out 1; have hcz48_0 : w46.cell? ⟨gb225, 0, none⟩ = some (.int .i64 t222) := (blk_cell BK225.out 0).trans rfl; have hcz48_1 : w46.cell? ⟨gb225, 1, none⟩ = some (.bool t223) := (blk_cell BK225.out 1).trans rfl; have hfz48_0 := blk_frozen BK225.out 0; have hfz48_1 := blk_frozen BK225.out 1) | (go_at_call 15; (with_reducible refine (impl_ToneText.calls t222 t223 t227 _ ?side1 A19.out).mono ?_); (case side1 => exact GOk.sub (GOk.below HG.out upH) (by decide)); rintro e w49 ⟨rfl, hb⟩; have n0_ := Q0_ (blk_below (upK BK215) hb); have n1_ := Q0_ (blk_below (upK BK221) hb); have n2_ := Q0_ (blk_below (upK BK225) hb); have n3_ := Q0_ (below_step upH hb); clear BK215 BK221 BK225 HB; revert n0_ n1_ n2_ n3_; intro BK215 BK221 BK225 HB; (try clear hb); (try clear hb2); (try clear hk); (try clear hi); have hcz50_0 : w49.cell? ⟨gb221, 0, none⟩ = some (.int .i64 t218) := (blk_cell BK221.out 0).trans rfl; have hcz50_1 : w49.cell? ⟨gb221, 1, none⟩ = some (.bool true) := (blk_cell BK221.out 1).trans rfl; have hfz50_0 := blk_frozen BK221.out 0; have hfz50_1 := blk_frozen BK221.out 1; have hcz51_0 : w49.cell? ⟨gb215, 0, none⟩ = some (.int .i64 t213) := (blk_cell BK215.out 0).trans rfl; have hcz51_1 : w49.cell? ⟨gb215, 1, none⟩ = some (.bool true) := (blk_cell BK215.out 1).trans rfl; have hfz51_0 := blk_frozen BK215.out 0; have hfz51_1 := blk_frozen BK215.out 1; have p32 : 0 ≤ (1 : Int) := (by omega); have q32 : 1 < t227.size := (by have : (1 : Int) < (t227.size : Int) := of_decide_eq_true (by first | (with_reducible assumption) | assumption); omega); have hx32 : ∀ h : 1 < t227.size, ((t227[1]'h).toNat : Int) = bt t227 1 := bt_at t227 1; clear p32; have qi32 : (1 < (t227.size : Int)) = True := eq_true (of_decide_eq_true (by first | (with_reducible assumption) | assumption)); replace q32 := eq_true q32; have p34 : 0 ≤ (1 : Int) := (by omega); have q34 : 1 < t216.size := (by have : (1 : Int) < (t216.size : Int) := of_decide_eq_true (by first | (with_reducible assumption) | assumption); omega); have hx34 : ∀ h : 1 < t216.size, ((t216[1]'h).toNat : Int) = bt t216 1 := bt_at t216 1; clear p34; have qi34 : (1 < (t216.size : Int)) = True := eq_true (of_decide_eq_true (by first | (with_reducible assumption) | assumption)); replace q34 := eq_true q34))
    repeat (go_quiet (first | (go_at_call 17; (with_reducible refine (impl_ToneFrom.calls t216 t218 true true _ ?side1 A15.out).mono ?_); (case side1 => exact GOk.sub (GOk.below HG.out upH) (by decide)); rintro e w35 ⟨rfl, hb⟩; have n0_ := Q0_ (blk_below (upK BK215) hb); have n1_ := Q0_ (below_step upH hb); clear BK215 HB; revert n0_ n1_; intro BK215 HB; (try clear hb); (try clear hb2); (try clear hk); (try clear hi)) | ((with_reducible refine gate_dst (N := 6) rfl ?_); (try (refine gate_guard (by rfl) ?_; dsimp only)); refine box_event ?hg (N := 6) ?hd (cs := #[.int .i64 0, .bool false]) (t := 25) ?hr ?_; (case hd => rfl); (case hg => rfl); (case hr => first | (go_simp; done) | (go_simp; rfl)); intro gb221 hg w36 hbox hb; have n0_ := Q0_ (blk_below (upK BK215) hb); have n1_ := Q0_ (below_step upH hb); have n2_ := Q0_ (hbox); have n3_ := Q0_ ((by rw [hg]; exact (below_size upH) : w.heap.size ≤ gb221)); have n4_ := Q0_ ((by rw [hg]; exact (below_size upH) : w.heap.size ≤ gb221)); have n5_ := Q0_ ((by rw [hg]; exact Nat.ne_of_lt (blk_lt (upK BK215)) : gb215 ≠ gb221)); have n6_ := Q0_ ((by rw [hg]; exact Nat.ne_of_gt (blk_lt (upK BK215)) : gb221 ≠ gb215)); clear BK215 HB; revert n0_ n1_ n2_ n3_ n4_ n5_ n6_; intro BK215 HB BK221 GW221 GE221 NB215_221 NB221_215; clear hb hbox hg; have hnb37 := NB221_215.out; have hnc37 := NB215_221.out; have hcz38_0 : w36.cell? ⟨gb221, 0, none⟩ = some (.int .i64 0) := (blk_cell BK221.out 0).trans rfl; have hcz38_1 : w36.cell? ⟨gb221, 1, none⟩ = some (.bool false) := (blk_cell BK221.out 1).trans rfl; have hfz38_0 := blk_frozen BK221.out 0; have hfz38_1 := blk_frozen BK221.out 1; have hcz39_0 : w36.cell? ⟨gb215, 0, none⟩ = some (.int .i64 t213) := (blk_cell BK215.out 0).trans rfl; have hcz39_1 : w36.cell? ⟨gb215, 1, none⟩ = some (.bool true) := (blk_cell BK215.out 1).trans rfl; have hfz39_0 := blk_frozen BK215.out 0; have hfz39_1 := blk_frozen BK215.out 1) | (go_at_call 20; (with_reducible refine (impl_ToneAbove.calls kj5 t213 true 7 true t222 t223 true _ A16.out).mono ?_); rintro e w40 ⟨rfl, hb⟩; have n0_ := Q0_ (blk_below (g := gb215) (o := .cells #[.int .i64 t213, .bool true] 25 (0, 0)) (by (with_reducible repeat (first | refine blk_drewN ?_ _ | refine blk_drew ?_ | refine blk_alloc ?_ _)); refine blk_far ?_ NB215_221.out _; (with_reducible repeat (first | refine blk_drewN ?_ _ | refine blk_drew ?_ | refine blk_alloc ?_ _)); refine blk_far ?_ NB215_221.out _; (with_reducible repeat (first | refine blk_drewN ?_ _ | refine blk_drew ?_ | refine blk_alloc ?_ _)); exact BK215.out) hb); have n1_ := Q0_ (blk_below (g := gb221) (o := .cells #[.int .i64 t218, .bool true] 25 (0, 0)) (by (with_reducible repeat (first | refine blk_drewN ?_ _ | refine blk_drew ?_ | refine blk_alloc ?_ _)); refine blk_put (cs := #[.int .i64 t218, .bool false]) ?_ 1 _ rfl; (with_reducible repeat (first | refine blk_drewN ?_ _ | refine blk_drew ?_ | refine blk_alloc ?_ _)); refine blk_put (cs := #[.int .i64 0, .bool false]) ?_ 0 _ rfl; (with_reducible repeat (first | refine blk_drewN ?_ _ | refine blk_drew ?_ | refine blk_alloc ?_ _)); exact BK221.out) hb); have n2_ := Q0_ (below_step upH hb); clear BK215 BK221 HB; revert n0_ n1_ n2_; intro BK215 BK221 HB; (try clear hb); (try clear hb2); (try clear hk); (try clear hi)) | ((with_reducible refine gate_dst (N := 8) rfl ?_); (try (refine gate_guard (by rfl) ?_; dsimp only)); refine box_event ?hg (N := 8) ?hd (cs := #[.int .i64 0, .bool false]) (t := 25) ?hr ?_; (case hd => rfl); (case hg => rfl); (case hr => first | (go_simp; done) | (go_simp; rfl)); intro gb225 hg w41 hbox hb; have n0_ := Q0_ (blk_below (upK BK215) hb); have n1_ := Q0_ (blk_below (upK BK221) hb); have n2_ := Q0_ (below_step upH hb); have n3_ := Q0_ (hbox); have n4_ := Q0_ ((by rw [hg]; exact (below_size upH) : w.heap.size ≤ gb225)); have n5_ := Q0_ ((by rw [hg]; exact (below_size upH) : w.heap.size ≤ gb225)); have n6_ := Q0_ ((by rw [hg]; exact Nat.ne_of_lt (blk_lt (upK BK215)) : gb215 ≠ gb225)); have n7_ := Q0_ ((by rw [hg]; exact Nat.ne_of_gt (blk_lt (upK BK215)) : gb225 ≠ gb215)); have n8_ := Q0_ ((by rw [hg]; exact Nat.ne_of_lt (blk_lt (upK BK221)) : gb221 ≠ gb225)); have n9_ := Q0_ ((by rw [hg]; exact Nat.ne_of_gt (blk_lt (upK BK221)) : gb225 ≠ gb221)); clear BK215 BK221 HB; revert n0_ n1_ n2_ n3_ n4_ n5_ n6_ n7_ n8_ n9_; intro BK215 BK221 HB BK225 GW225 GE225 NB215_225 NB225_215 NB221_225 NB225_221; clear hb hbox hg; have hnb42 := NB225_215.out; have hnc42 := NB215_225.out; have hnb43 := NB225_221.out; have hnc43 := NB221_225.out; have hcz44_0 : w41.cell? ⟨gb225, 0, none⟩ = some (.int .i64 0) := (blk_cell BK225.out 0).trans rfl; have hcz44_1 : w41.cell? ⟨gb225, 1, none⟩ = some (.bool false) := (blk_cell BK225.out 1).trans rfl; have hfz44_0 := blk_frozen BK225.out 0; have hfz44_1 := blk_frozen BK225.out 1; have hcz45_0 : w41.cell? ⟨gb215, 0, none⟩ = some (.int .i64 t213) := (blk_cell BK215.out 0).trans rfl; have hcz45_1 : w41.cell? ⟨gb215, 1, none⟩ = some (.bool true) := (blk_cell BK215.out 1).trans rfl; have hfz45_0 := blk_frozen BK215.out 0; have hfz45_1 := blk_frozen BK215.out 1) | (go_at_call 13; (with_reducible refine (impl_ToneLetter.calls t213 true t226 _ ?side1 A17.out).mono ?_); (case side1 => exact GOk.sub (GOk.below HG.out upH) (by decide)); rintro e w46 ⟨rfl, hb⟩; have n0_ := Q0_ (blk_below (g := gb215) (o := .cells #[.int .i64 t213, .bool true] 25 (0, 0)) (by (with_reducible repeat (first | refine blk_drewN ?_ _ | refine blk_drew ?_ | refine blk_alloc ?_ _)); refine blk_far ?_ NB215_225.out _; (with_reducible repeat (first | refine blk_drewN ?_ _ | refine blk_drew ?_ | refine blk_alloc ?_ _)); refine blk_far ?_ NB215_225.out _; (with_reducible repeat (first | refine blk_drewN ?_ _ | refine blk_drew ?_ | refine blk_alloc ?_ _)); exact BK215.out) hb); have n1_ := Q0_ (blk_below (g := gb221) (o := .cells #[.int .i64 t218, .bool true] 25 (0, 0)) (by (with_reducible repeat (first | refine blk_drewN ?_ _ | refine blk_drew ?_ | refine blk_alloc ?_ _)); refine blk_far ?_ NB221_225.out _; (with_reducible repeat (first | refine blk_drewN ?_ _ | refine blk_drew ?_ | refine blk_alloc ?_ _)); refine blk_far ?_ NB221_225.out _; (with_reducible repeat (first | refine blk_drewN ?_ _ | refine blk_drew ?_ | refine blk_alloc ?_ _)); exact BK221.out) hb); have n2_ := Q0_ (blk_below (g := gb225) (o := .cells #[.int .i64 t222, .bool t223] 25 (0, 0)) (by (with_reducible repeat (first | refine blk_drewN ?_ _ | refine blk_drew ?_ | refine blk_alloc ?_ _)); refine blk_put (cs := #[.int .i64 t222, .bool false]) ?_ 1 _ rfl; (with_reducible repeat (first | refine blk_drewN ?_ _ | refine blk_drew ?_ | refine blk_alloc ?_ _)); refine blk_put (cs := #[.int .i64 0, .bool false]) ?_ 0 _ rfl; (with_reducible repeat (first | refine blk_drewN ?_ _ | refine blk_drew ?_ | refine blk_alloc ?_ _)); exact BK225.out) hb); have n3_ := Q0_ (below_step upH hb); clear BK215 BK221 BK225 HB; revert n0_ n1_ n2_ n3_; intro BK215 BK221 BK225 HB; (try clear hb); (try clear hb2); (try clear hk); (try clear hi); have hcz47_0 : w46.cell? ⟨gb215, 0, none⟩ = some (.int .i64 t213) := (blk_cell BK215.out 0).trans rfl; have hcz47_1 : w46.cell? ⟨gb215, 1, none⟩ = some (.bool true) := (blk_cell BK215.out 1).trans rfl; have hfz47_0 := blk_frozen BK215.out 0; have hfz47_1 := blk_frozen BK215.out 1; have hcz48_0 : w46.cell? ⟨gb225, 0, none⟩ = some (.int .i64 t222) := (blk_cell BK225.out 0).trans rfl; have hcz48_1 : w46.cell? ⟨gb225, 1, none⟩ = some (.bool t223) := (blk_cell BK225.out 1).trans rfl; have hfz48_0 := blk_frozen BK225.out 0; have hfz48_1 := blk_frozen BK225.out 1) | (go_at_call 15; (with_reducible refine (impl_ToneText.calls t222 t223 t227 _ ?side1 A19.out).mono ?_); (case side1 => exact GOk.sub (GOk.below HG.out upH) (by decide)); rintro e w49 ⟨rfl, hb⟩; have n0_ := Q0_ (blk_below (upK BK215) hb); have n1_ := Q0_ (blk_below (upK BK221) hb); have n2_ := Q0_ (blk_below (upK BK225) hb); have n3_ := Q0_ (below_step upH hb); clear BK215 BK221 BK225 HB; revert n0_ n1_ n2_ n3_; intro BK215 BK221 BK225 HB; (try clear hb); (try clear hb2); (try clear hk); (try clear hi); have hcz50_0 : w49.cell? ⟨gb221, 0, none⟩ = some (.int .i64 t218) := (blk_cell BK221.out 0).trans rfl; have hcz50_1 : w49.cell? ⟨gb221, 1, none⟩ = some (.bool true) := (blk_cell BK221.out 1).trans rfl; have hfz50_0 := blk_frozen BK221.out 0; have hfz50_1 := blk_frozen BK221.out 1; have hcz51_0 : w49.cell? ⟨gb215, 0, none⟩ = some (.int .i64 t213) := (blk_cell BK215.out 0).trans rfl; have hcz51_1 : w49.cell? ⟨gb215, 1, none⟩ = some (.bool true) := (blk_cell BK215.out 1).trans rfl; have hfz51_0 := blk_frozen BK215.out 0; have hfz51_1 := blk_frozen BK215.out 1; have p32 : 0 ≤ (1 : Int) := (by omega); have q32 : 1 < t227.size := (by have : (1 : Int) < (t227.size : Int) := of_decide_eq_true (by first | (with_reducible assumption) | assumption); omega); have hx32 : ∀ h : 1 < t227.size, ((t227[1]'h).toNat : Int) = bt t227 1 := bt_at t227 1; clear p32; have qi32 : (1 < (t227.size : Int)) = True := eq_true (of_decide_eq_true (by first | (with_reducible assumption) | assumption)); replace q32 := eq_true q32; have p34 : 0 ≤ (1 : Int) := (by omega); have q34 : 1 < t216.size := (by have : (1 : Int) < (t216.size : Int) := of_decide_eq_true (by first | (with_reducible assumption) | assumption); omega); have hx34 : ∀ h : 1 < t216.size, ((t216[1]'h).toNat : Int) = bt t216 1 := bt_at t216 1; clear p34; have qi34 : (1 < (t216.size : Int)) = True := eq_true (of_decide_eq_true (by first | (with_reducible assumption) | assumption)); replace q34 := eq_true q34)); try go_wp2_with (first | (go_at_call 17; (with_reducible refine (impl_ToneFrom.calls t216 t218 true true _ ?side1 A15.out).mono ?_); (case side1 => exact GOk.sub (GOk.below HG.out upH) (by decide)); rintro e w35 ⟨rfl, hb⟩; have n0_ := Q0_ (blk_below (upK BK215) hb); have n1_ := Q0_ (below_step upH hb); clear BK215 HB; revert n0_ n1_; intro BK215 HB; (try clear hb); (try clear hb2); (try clear hk); (try clear hi)) | ((with_reducible refine gate_dst (N := 6) rfl ?_); (try (refine gate_guard (by rfl) ?_; dsimp only)); refine box_event ?hg (N := 6) ?hd (cs := #[.int .i64 0, .bool false]) (t := 25) ?hr ?_; (case hd => rfl); (case hg => rfl); (case hr => first | (go_simp; done) | (go_simp; rfl)); intro gb221 hg w36 hbox hb; have n0_ := Q0_ (blk_below (upK BK215) hb); have n1_ := Q0_ (below_step upH hb); have n2_ := Q0_ (hbox); have n3_ := Q0_ ((by rw [hg]; exact (below_size upH) : w.heap.size ≤ gb221)); have n4_ := Q0_ ((by rw [hg]; exact (below_size upH) : w.heap.size ≤ gb221)); have n5_ := Q0_ ((by rw [hg]; exact Nat.ne_of_lt (blk_lt (upK BK215)) : gb215 ≠ gb221)); have n6_ := Q0_ ((by rw [hg]; exact Nat.ne_of_gt (blk_lt (upK BK215)) : gb221 ≠ gb215)); clear BK215 HB; revert n0_ n1_ n2_ n3_ n4_ n5_ n6_; intro BK215 HB BK221 GW221 GE221 NB215_221 NB221_215; clear hb hbox hg; have hnb37 := NB221_215.out; have hnc37 := NB215_221.out; have hcz38_0 : w36.cell? ⟨gb221, 0, none⟩ = some (.int .i64 0) := (blk_cell BK221.out 0).trans rfl; have hcz38_1 : w36.cell? ⟨gb221, 1, none⟩ = some (.bool false) := (blk_cell BK221.out 1).trans rfl; have hfz38_0 := blk_frozen BK221.out 0; have hfz38_1 := blk_frozen BK221.out 1; have hcz39_0 : w36.cell? ⟨gb215, 0, none⟩ = some (.int .i64 t213) := (blk_cell BK215.out 0).trans rfl; have hcz39_1 : w36.cell? ⟨gb215, 1, none⟩ = some (.bool true) := (blk_cell BK215.out 1).trans rfl; have hfz39_0 := blk_frozen BK215.out 0; have hfz39_1 := blk_frozen BK215.out 1) | (go_at_call 20; (with_reducible refine (impl_ToneAbove.calls kj5 t213 true 7 true t222 t223 true _ A16.out).mono ?_); rintro e w40 ⟨rfl, hb⟩; have n0_ := Q0_ (blk_below (g := gb215) (o := .cells #[.int .i64 t213, .bool true] 25 (0, 0)) (by (with_reducible repeat (first | refine blk_drewN ?_ _ | refine blk_drew ?_ | refine blk_alloc ?_ _)); refine blk_far ?_ NB215_221.out _; (with_reducible repeat (first | refine blk_drewN ?_ _ | refine blk_drew ?_ | refine blk_alloc ?_ _)); refine blk_far ?_ NB215_221.out _; (with_reducible repeat (first | refine blk_drewN ?_ _ | refine blk_drew ?_ | refine blk_alloc ?_ _)); exact BK215.out) hb); have n1_ := Q0_ (blk_below (g := gb221) (o := .cells #[.int .i64 t218, .bool true] 25 (0, 0)) (by (with_reducible repeat (first | refine blk_drewN ?_ _ | refine blk_drew ?_ | refine blk_alloc ?_ _)); refine blk_put (cs := #[.int .i64 t218, .bool false]) ?_ 1 _ rfl; (with_reducible repeat (first | refine blk_drewN ?_ _ | refine blk_drew ?_ | refine blk_alloc ?_ _)); refine blk_put (cs := #[.int .i64 0, .bool false]) ?_ 0 _ rfl; (with_reducible repeat (first | refine blk_drewN ?_ _ | refine blk_drew ?_ | refine blk_alloc ?_ _)); exact BK221.out) hb); have n2_ := Q0_ (below_step upH hb); clear BK215 BK221 HB; revert n0_ n1_ n2_; intro BK215 BK221 HB; (try clear hb); (try clear hb2); (try clear hk); (try clear hi)) | ((with_reducible refine gate_dst (N := 8) rfl ?_); (try (refine gate_guard (by rfl) ?_; dsimp only)); refine box_event ?hg (N := 8) ?hd (cs := #[.int .i64 0, .bool false]) (t := 25) ?hr ?_; (case hd => rfl); (case hg => rfl); (case hr => first | (go_simp; done) | (go_simp; rfl)); intro gb225 hg w41 hbox hb; have n0_ := Q0_ (blk_below (upK BK215) hb); have n1_ := Q0_ (blk_below (upK BK221) hb); have n2_ := Q0_ (below_step upH hb); have n3_ := Q0_ (hbox); have n4_ := Q0_ ((by rw [hg]; exact (below_size upH) : w.heap.size ≤ gb225)); have n5_ := Q0_ ((by rw [hg]; exact (below_size upH) : w.heap.size ≤ gb225)); have n6_ := Q0_ ((by rw [hg]; exact Nat.ne_of_lt (blk_lt (upK BK215)) : gb215 ≠ gb225)); have n7_ := Q0_ ((by rw [hg]; exact Nat.ne_of_gt (blk_lt (upK BK215)) : gb225 ≠ gb215)); have n8_ := Q0_ ((by rw [hg]; exact Nat.ne_of_lt (blk_lt (upK BK221)) : gb221 ≠ gb225)); have n9_ := Q0_ ((by rw [hg]; exact Nat.ne_of_gt (blk_lt (upK BK221)) : gb225 ≠ gb221)); clear BK215 BK221 HB; revert n0_ n1_ n2_ n3_ n4_ n5_ n6_ n7_ n8_ n9_; intro BK215 BK221 HB BK225 GW225 GE225 NB215_225 NB225_215 NB221_225 NB225_221; clear hb hbox hg; have hnb42 := NB225_215.out; have hnc42 := NB215_225.out; have hnb43 := NB225_221.out; have hnc43 := NB221_225.out; have hcz44_0 : w41.cell? ⟨gb225, 0, none⟩ = some (.int .i64 0) := (blk_cell BK225.out 0).trans rfl; have hcz44_1 : w41.cell? ⟨gb225, 1, none⟩ = some (.bool false) := (blk_cell BK225.out 1).trans rfl; have hfz44_0 := blk_frozen BK225.out 0; have hfz44_1 := blk_frozen BK225.out 1; have hcz45_0 : w41.cell? ⟨gb215, 0, none⟩ = some (.int .i64 t213) := (blk_cell BK215.out 0).trans rfl; have hcz45_1 : w41.cell? ⟨gb215, 1, none⟩ = some (.bool true) := (blk_cell BK215.out 1).trans rfl; have hfz45_0 := blk_frozen BK215.out 0; have hfz45_1 := blk_frozen BK215.out 1) | (go_at_call 13; (with_reducible refine (impl_ToneLetter.calls t213 true t226 _ ?side1 A17.out).mono ?_); (case side1 => exact GOk.sub (GOk.below HG.out upH) (by decide)); rintro e w46 ⟨rfl, hb⟩; have n0_ := Q0_ (blk_below (g := gb215) (o := .cells #[.int .i64 t213, .bool true] 25 (0, 0)) (by (with_reducible repeat (first | refine blk_drewN ?_ _ | refine blk_drew ?_ | refine blk_alloc ?_ _)); refine blk_far ?_ NB215_225.out _; (with_reducible repeat (first | refine blk_drewN ?_ _ | refine blk_drew ?_ | refine blk_alloc ?_ _)); refine blk_far ?_ NB215_225.out _; (with_reducible repeat (first | refine blk_drewN ?_ _ | refine blk_drew ?_ | refine blk_alloc ?_ _)); exact BK215.out) hb); have n1_ := Q0_ (blk_below (g := gb221) (o := .cells #[.int .i64 t218, .bool true] 25 (0, 0)) (by (with_reducible repeat (first | refine blk_drewN ?_ _ | refine blk_drew ?_ | refine blk_alloc ?_ _)); refine blk_far ?_ NB221_225.out _; (with_reducible repeat (first | refine blk_drewN ?_ _ | refine blk_drew ?_ | refine blk_alloc ?_ _)); refine blk_far ?_ NB221_225.out _; (with_reducible repeat (first | refine blk_drewN ?_ _ | refine blk_drew ?_ | refine blk_alloc ?_ _)); exact BK221.out) hb); have n2_ := Q0_ (blk_below (g := gb225) (o := .cells #[.int .i64 t222, .bool t223] 25 (0, 0)) (by (with_reducible repeat (first | refine blk_drewN ?_ _ | refine blk_drew ?_ | refine blk_alloc ?_ _)); refine blk_put (cs := #[.int .i64 t222, .bool false]) ?_ 1 _ rfl; (with_reducible repeat (first | refine blk_drewN ?_ _ | refine blk_drew ?_ | refine blk_alloc ?_ _)); refine blk_put (cs := #[.int .i64 0, .bool false]) ?_ 0 _ rfl; (with_reducible repeat (first | refine blk_drewN ?_ _ | refine blk_drew ?_ | refine blk_alloc ?_ _)); exact BK225.out) hb); have n3_ := Q0_ (below_step upH hb); clear BK215 BK221 BK225 HB; revert n0_ n1_ n2_ n3_; intro BK215 BK221 BK225 HB; (try clear hb); (try clear hb2); (try clear hk); (try clear hi); have hcz47_0 : w46.cell? ⟨gb215, 0, none⟩ = some (.int .i64 t213) := (blk_cell BK215.out 0).trans rfl; have hcz47_1 : w46.cell? ⟨gb215, 1, none⟩ = some (.bool true) := (blk_cell BK215.out 1).trans rfl; have hfz47_0 := blk_frozen BK215.out 0; have hfz47_1 := blk_frozen BK215.out 1; have hcz48_0 : w46.cell? ⟨gb225, 0, none⟩ = some (.int .i64 t222) := (blk_cell BK225.out 0).trans rfl; have hcz48_1 : w46.cell? ⟨gb225, 1, none⟩ = some (.bool t223) := (blk_cell BK225.out 1).trans rfl; have hfz48_0 := blk_frozen BK225.out 0; have hfz48_1 := blk_frozen BK225.out 1) | (go_at_call 15; (with_reducible refine (impl_ToneText.calls t222 t223 t227 _ ?side1 A19.out).mono ?_); (case side1 => exact GOk.sub (GOk.below HG.out upH) (by decide)); rintro e w49 ⟨rfl, hb⟩; have n0_ := Q0_ (blk_below (upK BK215) hb); have n1_ := Q0_ (blk_below (upK BK221) hb); have n2_ := Q0_ (blk_below (upK BK225) hb); have n3_ := Q0_ (below_step upH hb); clear BK215 BK221 BK225 HB; revert n0_ n1_ n2_ n3_; intro BK215 BK221 BK225 HB; (try clear hb); (try clear hb2); (try clear hk); (try clear hi); have hcz50_0 : w49.cell? ⟨gb221, 0, none⟩ = some (.int .i64 t218) := (blk_cell BK221.out 0).trans rfl; have hcz50_1 : w49.cell? ⟨gb221, 1, none⟩ = some (.bool true) := (blk_cell BK221.out 1).trans rfl; have hfz50_0 := blk_frozen BK221.out 0; have hfz50_1 := blk_frozen BK221.out 1; have hcz51_0 : w49.cell? ⟨gb215, 0, none⟩ = some (.int .i64 t213) := (blk_cell BK215.out 0).trans rfl; have hcz51_1 : w49.cell? ⟨gb215, 1, none⟩ = some (.bool true) := (blk_cell BK215.out 1).trans rfl; have hfz51_0 := blk_frozen BK215.out 0; have hfz51_1 := blk_frozen BK215.out 1; have p32 : 0 ≤ (1 : Int) := (by omega); have q32 : 1 < t227.size := (by have : (1 : Int) < (t227.size : Int) := of_decide_eq_true (by first | (with_reducible assumption) | assumption); omega); have hx32 : ∀ h : 1 < t227.size, ((t227[1]'h).toNat : Int) = bt t227 1 := bt_at t227 1; clear p32; have qi32 : (1 < (t227.size : Int)) = True := eq_true (of_decide_eq_true (by first | (with_reducible assumption) | assumption)); replace q32 := eq_true q32; have p34 : 0 ≤ (1 : Int) := (by omega); have q34 : 1 < t216.size := (by have : (1 : Int) < (t216.size : Int) := of_decide_eq_true (by first | (with_reducible assumption) | assumption); omega); have hx34 : ∀ h : 1 < t216.size, ((t216[1]'h).toNat : Int) = bt t216 1 := bt_at t216 1; clear p34; have qi34 : (1 < (t216.size : Int)) = True := eq_true (of_decide_eq_true (by first | (with_reducible assumption) | assumption)); replace q34 := eq_true q34)))
    go_ret
    exact ⟨by first | rfl | (simp [errW_none, errW_some] <;> rfl) | (simp [*, errW_none, errW_some] <;> rfl), by repeat (first | (with_reducible first | exact HB.out | apply below_alloc | apply pw_below_drewN | apply below_drew1 | refine below_set ?_ GE215.out | refine below_set ?_ GE221.out | refine below_set ?_ GE225.out) | exact HB.out)⟩
   replace c18 := Bool.eq_false_iff.mpr c18
   subst c18
   replace H := ifN ((show ¬ (false = true) by decide)) H
   obtain ⟨t228, A690, H⟩ := Option.bind_eq_some_iff.mp H
   try dsimp only at H
   have A69 := Aside0.mk A690
   clear A690
   by_cases c70 : t220 = true
   rotate_left
   ·replace c70 := Bool.eq_false_iff.mpr c70
    subst c70
    replace H := ifN ((show ¬ (false = true) by decide)) H
    exact absurd H (by simp)
   subst c70
   replace H := ifP (rfl) H
   by_cases c71 : t218 = t213
   rotate_left
   ·rw [if_neg c71] at H
    exact absurd H (by simp)
   rw [if_pos c71] at H
   have c71b0 : (t218 == t213) = true := beq_iff_eq.mpr c71
   have c71b1 : (t218 != t213) = false := bne_eq_false_iff_eq.mpr c71
   clear c71
   by_cases c72 : t219 = false
   rotate_left
   ·rw [if_neg c72] at H
    exact absurd H (by simp)
   rw [if_pos c72] at H
   have H9_ := H; subst c72; have H := H9_; clear H9_
   by_cases c73 : (t216.size : Int) = 2
   rotate_left
   ·rw [if_neg c73] at H
    exact absurd H (by simp)
   rw [if_pos c73] at H
   have c73b0 : ((t216.size : Int) == 2) = true := beq_iff_eq.mpr c73
   have c73b1 : ((t216.size : Int) != 2) = false := bne_eq_false_iff_eq.mpr c73
   clear c73
   by_cases c74 : 0 ≤ 1
   rotate_left
   ·rw [if_neg c74] at H
    exact absurd H (by simp)
   rw [if_pos c74] at H
   have c74b0 := eq_true c74
   have c74b1 : decide (0 ≤ 1) = true := decide_eq_true c74
   clear c74
   by_cases c75 : 1 ≤ (t216.size : Int)
   rotate_left
   ·rw [if_neg c75] at H
    exact absurd H (by simp)
   rw [if_pos c75] at H
   have c75b0 := eq_true c75
   have c75b1 : decide (1 ≤ (t216.size : Int)) = true := decide_eq_true c75
   clear c75
   by_cases c76 : (t216.extract 0 1).toList = t226.toList
   rotate_left
   ·rw [if_neg c76] at H
    exact absurd H (by simp)
   rw [if_pos c76] at H
   have c76b0 : ((t216.extract 0 1).toList == t226.toList) = true := beq_iff_eq.mpr c76
   have c76b1 : ((t216.extract 0 1).toList != t226.toList) = false := bne_eq_false_iff_eq.mpr c76
   clear c76
   by_cases c77 : t224 = true
   rotate_left
   ·replace c77 := Bool.eq_false_iff.mpr c77
    subst c77
    replace H := ifN ((show ¬ (false = true) by decide)) H
    obtain rfl := Option.some.inj H
    go_wp2_with (first | (go_at_call 17; (with_reducible refine (impl_ToneFrom.calls t216 t218 false true _ ?side1 A15.out).mono ?_); (case side1 => exact GOk.sub (GOk.below HG.out upH) (by decide)); rintro e w102 ⟨rfl, hb⟩; have n0_ := Q0_ (blk_below (upK BK215) hb); have n1_ := Q0_ (below_step upH hb); clear BK215 HB; revert n0_ n1_; intro BK215 HB; (try clear hb); (try clear hb2); (try clear hk); (try clear hi)) | ((with_reducible refine gate_dst (N := 6) rfl ?_); (try (refine gate_guard (by rfl) ?_; dsimp only)); refine box_event ?hg (N := 6) ?hd (cs := #[.int .i64 0, .bool false]) (t := 25) ?hr ?_; (case hd => rfl); (case hg => rfl); (case hr => first | (go_simp; done) | (go_simp; rfl)); intro gb221 hg w103 hbox hb; have n0_ := Q0_ (blk_below (upK BK215) hb); have n1_ := Q0_ (below_step upH hb); have n2_ := Q0_ (hbox); have n3_ := Q0_ ((by rw [hg]; exact (below_size upH) : w.heap.size ≤ gb221)); have n4_ := Q0_ ((by rw [hg]; exact (below_size upH) : w.heap.size ≤ gb221)); have n5_ := Q0_ ((by rw [hg]; exact Nat.ne_of_lt (blk_lt (upK BK215)) : gb215 ≠ gb221)); have n6_ := Q0_ ((by rw [hg]; exact Nat.ne_of_gt (blk_lt (upK BK215)) : gb221 ≠ gb215)); clear BK215 HB; revert n0_ n1_ n2_ n3_ n4_ n5_ n6_; intro BK215 HB BK221 GW221 GE221 NB215_221 NB221_215; clear hb hbox hg; have hnb104 := NB221_215.out; have hnc104 := NB215_221.out; have hcz105_0 : w103.cell? ⟨gb221, 0, none⟩ = some (.int .i64 0) := (blk_cell BK221.out 0).trans rfl; have hcz105_1 : w103.cell? ⟨gb221, 1, none⟩ = some (.bool false) := (blk_cell BK221.out 1).trans rfl; have hfz105_0 := blk_frozen BK221.out 0; have hfz105_1 := blk_frozen BK221.out 1; have hcz106_0 : w103.cell? ⟨gb215, 0, none⟩ = some (.int .i64 t213) := (blk_cell BK215.out 0).trans rfl; have hcz106_1 : w103.cell? ⟨gb215, 1, none⟩ = some (.bool false) := (blk_cell BK215.out 1).trans rfl; have hfz106_0 := blk_frozen BK215.out 0; have hfz106_1 := blk_frozen BK215.out 1) | (go_at_call 20; (with_reducible refine (impl_ToneAbove.calls kj5 t213 false 7 false t222 t223 false _ A16.out).mono ?_); rintro e w107 ⟨rfl, hb⟩; have n0_ := Q0_ (blk_below (g := gb215) (o := .cells #[.int .i64 t213, .bool false] 25 (0, 0)) (by (with_reducible repeat (first | refine blk_drewN ?_ _ | refine blk_drew ?_ | refine blk_alloc ?_ _)); refine blk_far ?_ NB215_221.out _; (with_reducible repeat (first | refine blk_drewN ?_ _ | refine blk_drew ?_ | refine blk_alloc ?_ _)); refine blk_far ?_ NB215_221.out _; (with_reducible repeat (first | refine blk_drewN ?_ _ | refine blk_drew ?_ | refine blk_alloc ?_ _)); exact BK215.out) hb); have n1_ := Q0_ (blk_below (g := gb221) (o := .cells #[.int .i64 t218, .bool false] 25 (0, 0)) (by (with_reducible repeat (first | refine blk_drewN ?_ _ | refine blk_drew ?_ | refine blk_alloc ?_ _)); refine blk_put (cs := #[.int .i64 t218, .bool false]) ?_ 1 _ rfl; (with_reducible repeat (first | refine blk_drewN ?_ _ | refine blk_drew ?_ | refine blk_alloc ?_ _)); refine blk_put (cs := #[.int .i64 0, .bool false]) ?_ 0 _ rfl; (with_reducible repeat (first | refine blk_drewN ?_ _ | refine blk_drew ?_ | refine blk_alloc ?_ _)); exact BK221.out) hb); have n2_ := Q0_ (below_step upH hb); clear BK215 BK221 HB; revert n0_ n1_ n2_; intro BK215 BK221 HB; (try clear hb); (try clear hb2); (try clear hk); (try clear hi)) | ((with_reducible refine gate_dst (N := 8) rfl ?_); (try (refine gate_guard (by rfl) ?_; dsimp only)); refine box_event ?hg (N := 8) ?hd (cs := #[.int .i64 0, .bool false]) (t := 25) ?hr ?_; (case hd => rfl); (case hg => rfl); (case hr => first | (go_simp; done) | (go_simp; rfl)); intro gb225 hg w108 hbox hb; have n0_ := Q0_ (blk_below (upK BK215) hb); have n1_ := Q0_ (blk_below (upK BK221) hb); have n2_ := Q0_ (below_step upH hb); have n3_ := Q0_ (hbox); have n4_ := Q0_ ((by rw [hg]; exact (below_size upH) : w.heap.size ≤ gb225)); have n5_ := Q0_ ((by rw [hg]; exact (below_size upH) : w.heap.size ≤ gb225)); have n6_ := Q0_ ((by rw [hg]; exact Nat.ne_of_lt (blk_lt (upK BK215)) : gb215 ≠ gb225)); have n7_ := Q0_ ((by rw [hg]; exact Nat.ne_of_gt (blk_lt (upK BK215)) : gb225 ≠ gb215)); have n8_ := Q0_ ((by rw [hg]; exact Nat.ne_of_lt (blk_lt (upK BK221)) : gb221 ≠ gb225)); have n9_ := Q0_ ((by rw [hg]; exact Nat.ne_of_gt (blk_lt (upK BK221)) : gb225 ≠ gb221)); clear BK215 BK221 HB; revert n0_ n1_ n2_ n3_ n4_ n5_ n6_ n7_ n8_ n9_; intro BK215 BK221 HB BK225 GW225 GE225 NB215_225 NB225_215 NB221_225 NB225_221; clear hb hbox hg; have hnb109 := NB225_215.out; have hnc109 := NB215_225.out; have hnb110 := NB225_221.out; have hnc110 := NB221_225.out; have hcz111_0 : w108.cell? ⟨gb225, 0, none⟩ = some (.int .i64 0) := (blk_cell BK225.out 0).trans rfl; have hcz111_1 : w108.cell? ⟨gb225, 1, none⟩ = some (.bool false) := (blk_cell BK225.out 1).trans rfl; have hfz111_0 := blk_frozen BK225.out 0; have hfz111_1 := blk_frozen BK225.out 1; have hcz112_0 : w108.cell? ⟨gb215, 0, none⟩ = some (.int .i64 t213) := (blk_cell BK215.out 0).trans rfl; have hcz112_1 : w108.cell? ⟨gb215, 1, none⟩ = some (.bool false) := (blk_cell BK215.out 1).trans rfl; have hfz112_0 := blk_frozen BK215.out 0; have hfz112_1 := blk_frozen BK215.out 1) | (go_at_call 13; (with_reducible refine (impl_ToneLetter.calls t213 false t226 _ ?side1 A17.out).mono ?_); (case side1 => exact GOk.sub (GOk.below HG.out upH) (by decide)); rintro e w113 ⟨rfl, hb⟩; have n0_ := Q0_ (blk_below (g := gb215) (o := .cells #[.int .i64 t213, .bool false] 25 (0, 0)) (by (with_reducible repeat (first | refine blk_drewN ?_ _ | refine blk_drew ?_ | refine blk_alloc ?_ _)); refine blk_far ?_ NB215_225.out _; (with_reducible repeat (first | refine blk_drewN ?_ _ | refine blk_drew ?_ | refine blk_alloc ?_ _)); refine blk_far ?_ NB215_225.out _; (with_reducible repeat (first | refine blk_drewN ?_ _ | refine blk_drew ?_ | refine blk_alloc ?_ _)); exact BK215.out) hb); have n1_ := Q0_ (blk_below (g := gb221) (o := .cells #[.int .i64 t218, .bool false] 25 (0, 0)) (by (with_reducible repeat (first | refine blk_drewN ?_ _ | refine blk_drew ?_ | refine blk_alloc ?_ _)); refine blk_far ?_ NB221_225.out _; (with_reducible repeat (first | refine blk_drewN ?_ _ | refine blk_drew ?_ | refine blk_alloc ?_ _)); refine blk_far ?_ NB221_225.out _; (with_reducible repeat (first | refine blk_drewN ?_ _ | refine blk_drew ?_ | refine blk_alloc ?_ _)); exact BK221.out) hb); have n2_ := Q0_ (blk_below (g := gb225) (o := .cells #[.int .i64 t222, .bool t223] 25 (0, 0)) (by (with_reducible repeat (first | refine blk_drewN ?_ _ | refine blk_drew ?_ | refine blk_alloc ?_ _)); refine blk_put (cs := #[.int .i64 t222, .bool false]) ?_ 1 _ rfl; (with_reducible repeat (first | refine blk_drewN ?_ _ | refine blk_drew ?_ | refine blk_alloc ?_ _)); refine blk_put (cs := #[.int .i64 0, .bool false]) ?_ 0 _ rfl; (with_reducible repeat (first | refine blk_drewN ?_ _ | refine blk_drew ?_ | refine blk_alloc ?_ _)); exact BK225.out) hb); have n3_ := Q0_ (below_step upH hb); clear BK215 BK221 BK225 HB; revert n0_ n1_ n2_ n3_; intro BK215 BK221 BK225 HB; (try clear hb); (try clear hb2); (try clear hk); (try clear hi); have hcz114_0 : w113.cell? ⟨gb215, 0, none⟩ = some (.int .i64 t213) := (blk_cell BK215.out 0).trans rfl; have hcz114_1 : w113.cell? ⟨gb215, 1, none⟩ = some (.bool false) := (blk_cell BK215.out 1).trans rfl; have hfz114_0 := blk_frozen BK215.out 0; have hfz114_1 := blk_frozen BK215.out 1; have hcz115_0 : w113.cell? ⟨gb225, 0, none⟩ = some (.int .i64 t222) := (blk_cell BK225.out 0).trans rfl; have hcz115_1 : w113.cell? ⟨gb225, 1, none⟩ = some (.bool t223) := (blk_cell BK225.out 1).trans rfl; have hfz115_0 := blk_frozen BK225.out 0; have hfz115_1 := blk_frozen BK225.out 1) | (go_at_call 15; (with_reducible refine (impl_ToneText.calls t222 t223 t228 _ ?side1 A69.out).mono ?_); (case side1 => exact GOk.sub (GOk.below HG.out upH) (by decide)); rintro e w116 ⟨rfl, hb⟩; have n0_ := Q0_ (blk_below (upK BK215) hb); have n1_ := Q0_ (blk_below (upK BK221) hb); have n2_ := Q0_ (blk_below (upK BK225) hb); have n3_ := Q0_ (below_step upH hb); clear BK215 BK221 BK225 HB; revert n0_ n1_ n2_ n3_; intro BK215 BK221 BK225 HB; (try clear hb); (try clear hb2); (try clear hk); (try clear hi); have hcz117_0 : w116.cell? ⟨gb221, 0, none⟩ = some (.int .i64 t218) := (blk_cell BK221.out 0).trans rfl; have hcz117_1 : w116.cell? ⟨gb221, 1, none⟩ = some (.bool false) := (blk_cell BK221.out 1).trans rfl; have hfz117_0 := blk_frozen BK221.out 0; have hfz117_1 := blk_frozen BK221.out 1; have hcz118_0 : w116.cell? ⟨gb215, 0, none⟩ = some (.int .i64 t213) := (blk_cell BK215.out 0).trans rfl; have hcz118_1 : w116.cell? ⟨gb215, 1, none⟩ = some (.bool false) := (blk_cell BK215.out 1).trans rfl; have hfz118_0 := blk_frozen BK215.out 0; have hfz118_1 := blk_frozen BK215.out 1))
    repeat (go_quiet (first | (go_at_call 17; (with_reducible refine (impl_ToneFrom.calls t216 t218 false true _ ?side1 A15.out).mono ?_); (case side1 => exact GOk.sub (GOk.below HG.out upH) (by decide)); rintro e w102 ⟨rfl, hb⟩; have n0_ := Q0_ (blk_below (upK BK215) hb); have n1_ := Q0_ (below_step upH hb); clear BK215 HB; revert n0_ n1_; intro BK215 HB; (try clear hb); (try clear hb2); (try clear hk); (try clear hi)) | ((with_reducible refine gate_dst (N := 6) rfl ?_); (try (refine gate_guard (by rfl) ?_; dsimp only)); refine box_event ?hg (N := 6) ?hd (cs := #[.int .i64 0, .bool false]) (t := 25) ?hr ?_; (case hd => rfl); (case hg => rfl); (case hr => first | (go_simp; done) | (go_simp; rfl)); intro gb221 hg w103 hbox hb; have n0_ := Q0_ (blk_below (upK BK215) hb); have n1_ := Q0_ (below_step upH hb); have n2_ := Q0_ (hbox); have n3_ := Q0_ ((by rw [hg]; exact (below_size upH) : w.heap.size ≤ gb221)); have n4_ := Q0_ ((by rw [hg]; exact (below_size upH) : w.heap.size ≤ gb221)); have n5_ := Q0_ ((by rw [hg]; exact Nat.ne_of_lt (blk_lt (upK BK215)) : gb215 ≠ gb221)); have n6_ := Q0_ ((by rw [hg]; exact Nat.ne_of_gt (blk_lt (upK BK215)) : gb221 ≠ gb215)); clear BK215 HB; revert n0_ n1_ n2_ n3_ n4_ n5_ n6_; intro BK215 HB BK221 GW221 GE221 NB215_221 NB221_215; clear hb hbox hg; have hnb104 := NB221_215.out; have hnc104 := NB215_221.out; have hcz105_0 : w103.cell? ⟨gb221, 0, none⟩ = some (.int .i64 0) := (blk_cell BK221.out 0).trans rfl; have hcz105_1 : w103.cell? ⟨gb221, 1, none⟩ = some (.bool false) := (blk_cell BK221.out 1).trans rfl; have hfz105_0 := blk_frozen BK221.out 0; have hfz105_1 := blk_frozen BK221.out 1; have hcz106_0 : w103.cell? ⟨gb215, 0, none⟩ = some (.int .i64 t213) := (blk_cell BK215.out 0).trans rfl; have hcz106_1 : w103.cell? ⟨gb215, 1, none⟩ = some (.bool false) := (blk_cell BK215.out 1).trans rfl; have hfz106_0 := blk_frozen BK215.out 0; have hfz106_1 := blk_frozen BK215.out 1) | (go_at_call 20; (with_reducible refine (impl_ToneAbove.calls kj5 t213 false 7 false t222 t223 false _ A16.out).mono ?_); rintro e w107 ⟨rfl, hb⟩; have n0_ := Q0_ (blk_below (g := gb215) (o := .cells #[.int .i64 t213, .bool false] 25 (0, 0)) (by (with_reducible repeat (first | refine blk_drewN ?_ _ | refine blk_drew ?_ | refine blk_alloc ?_ _)); refine blk_far ?_ NB215_221.out _; (with_reducible repeat (first | refine blk_drewN ?_ _ | refine blk_drew ?_ | refine blk_alloc ?_ _)); refine blk_far ?_ NB215_221.out _; (with_reducible repeat (first | refine blk_drewN ?_ _ | refine blk_drew ?_ | refine blk_alloc ?_ _)); exact BK215.out) hb); have n1_ := Q0_ (blk_below (g := gb221) (o := .cells #[.int .i64 t218, .bool false] 25 (0, 0)) (by (with_reducible repeat (first | refine blk_drewN ?_ _ | refine blk_drew ?_ | refine blk_alloc ?_ _)); refine blk_put (cs := #[.int .i64 t218, .bool false]) ?_ 1 _ rfl; (with_reducible repeat (first | refine blk_drewN ?_ _ | refine blk_drew ?_ | refine blk_alloc ?_ _)); refine blk_put (cs := #[.int .i64 0, .bool false]) ?_ 0 _ rfl; (with_reducible repeat (first | refine blk_drewN ?_ _ | refine blk_drew ?_ | refine blk_alloc ?_ _)); exact BK221.out) hb); have n2_ := Q0_ (below_step upH hb); clear BK215 BK221 HB; revert n0_ n1_ n2_; intro BK215 BK221 HB; (try clear hb); (try clear hb2); (try clear hk); (try clear hi)) | ((with_reducible refine gate_dst (N := 8) rfl ?_); (try (refine gate_guard (by rfl) ?_; dsimp only)); refine box_event ?hg (N := 8) ?hd (cs := #[.int .i64 0, .bool false]) (t := 25) ?hr ?_; (case hd => rfl); (case hg => rfl); (case hr => first | (go_simp; done) | (go_simp; rfl)); intro gb225 hg w108 hbox hb; have n0_ := Q0_ (blk_below (upK BK215) hb); have n1_ := Q0_ (blk_below (upK BK221) hb); have n2_ := Q0_ (below_step upH hb); have n3_ := Q0_ (hbox); have n4_ := Q0_ ((by rw [hg]; exact (below_size upH) : w.heap.size ≤ gb225)); have n5_ := Q0_ ((by rw [hg]; exact (below_size upH) : w.heap.size ≤ gb225)); have n6_ := Q0_ ((by rw [hg]; exact Nat.ne_of_lt (blk_lt (upK BK215)) : gb215 ≠ gb225)); have n7_ := Q0_ ((by rw [hg]; exact Nat.ne_of_gt (blk_lt (upK BK215)) : gb225 ≠ gb215)); have n8_ := Q0_ ((by rw [hg]; exact Nat.ne_of_lt (blk_lt (upK BK221)) : gb221 ≠ gb225)); have n9_ := Q0_ ((by rw [hg]; exact Nat.ne_of_gt (blk_lt (upK BK221)) : gb225 ≠ gb221)); clear BK215 BK221 HB; revert n0_ n1_ n2_ n3_ n4_ n5_ n6_ n7_ n8_ n9_; intro BK215 BK221 HB BK225 GW225 GE225 NB215_225 NB225_215 NB221_225 NB225_221; clear hb hbox hg; have hnb109 := NB225_215.out; have hnc109 := NB215_225.out; have hnb110 := NB225_221.out; have hnc110 := NB221_225.out; have hcz111_0 : w108.cell? ⟨gb225, 0, none⟩ = some (.int .i64 0) := (blk_cell BK225.out 0).trans rfl; have hcz111_1 : w108.cell? ⟨gb225, 1, none⟩ = some (.bool false) := (blk_cell BK225.out 1).trans rfl; have hfz111_0 := blk_frozen BK225.out 0; have hfz111_1 := blk_frozen BK225.out 1; have hcz112_0 : w108.cell? ⟨gb215, 0, none⟩ = some (.int .i64 t213) := (blk_cell BK215.out 0).trans rfl; have hcz112_1 : w108.cell? ⟨gb215, 1, none⟩ = some (.bool false) := (blk_cell BK215.out 1).trans rfl; have hfz112_0 := blk_frozen BK215.out 0; have hfz112_1 := blk_frozen BK215.out 1) | (go_at_call 13; (with_reducible refine (impl_ToneLetter.calls t213 false t226 _ ?side1 A17.out).mono ?_); (case side1 => exact GOk.sub (GOk.below HG.out upH) (by decide)); rintro e w113 ⟨rfl, hb⟩; have n0_ := Q0_ (blk_below (g := gb215) (o := .cells #[.int .i64 t213, .bool false] 25 (0, 0)) (by (with_reducible repeat (first | refine blk_drewN ?_ _ | refine blk_drew ?_ | refine blk_alloc ?_ _)); refine blk_far ?_ NB215_225.out _; (with_reducible repeat (first | refine blk_drewN ?_ _ | refine blk_drew ?_ | refine blk_alloc ?_ _)); refine blk_far ?_ NB215_225.out _; (with_reducible repeat (first | refine blk_drewN ?_ _ | refine blk_drew ?_ | refine blk_alloc ?_ _)); exact BK215.out) hb); have n1_ := Q0_ (blk_below (g := gb221) (o := .cells #[.int .i64 t218, .bool false] 25 (0, 0)) (by (with_reducible repeat (first | refine blk_drewN ?_ _ | refine blk_drew ?_ | refine blk_alloc ?_ _)); refine blk_far ?_ NB221_225.out _; (with_reducible repeat (first | refine blk_drewN ?_ _ | refine blk_drew ?_ | refine blk_alloc ?_ _)); refine blk_far ?_ NB221_225.out _; (with_reducible repeat (first | refine blk_drewN ?_ _ | refine blk_drew ?_ | refine blk_alloc ?_ _)); exact BK221.out) hb); have n2_ := Q0_ (blk_below (g := gb225) (o := .cells #[.int .i64 t222, .bool t223] 25 (0, 0)) (by (with_reducible repeat (first | refine blk_drewN ?_ _ | refine blk_drew ?_ | refine blk_alloc ?_ _)); refine blk_put (cs := #[.int .i64 t222, .bool false]) ?_ 1 _ rfl; (with_reducible repeat (first | refine blk_drewN ?_ _ | refine blk_drew ?_ | refine blk_alloc ?_ _)); refine blk_put (cs := #[.int .i64 0, .bool false]) ?_ 0 _ rfl; (with_reducible repeat (first | refine blk_drewN ?_ _ | refine blk_drew ?_ | refine blk_alloc ?_ _)); exact BK225.out) hb); have n3_ := Q0_ (below_step upH hb); clear BK215 BK221 BK225 HB; revert n0_ n1_ n2_ n3_; intro BK215 BK221 BK225 HB; (try clear hb); (try clear hb2); (try clear hk); (try clear hi); have hcz114_0 : w113.cell? ⟨gb215, 0, none⟩ = some (.int .i64 t213) := (blk_cell BK215.out 0).trans rfl; have hcz114_1 : w113.cell? ⟨gb215, 1, none⟩ = some (.bool false) := (blk_cell BK215.out 1).trans rfl; have hfz114_0 := blk_frozen BK215.out 0; have hfz114_1 := blk_frozen BK215.out 1; have hcz115_0 : w113.cell? ⟨gb225, 0, none⟩ = some (.int .i64 t222) := (blk_cell BK225.out 0).trans rfl; have hcz115_1 : w113.cell? ⟨gb225, 1, none⟩ = some (.bool t223) := (blk_cell BK225.out 1).trans rfl; have hfz115_0 := blk_frozen BK225.out 0; have hfz115_1 := blk_frozen BK225.out 1) | (go_at_call 15; (with_reducible refine (impl_ToneText.calls t222 t223 t228 _ ?side1 A69.out).mono ?_); (case side1 => exact GOk.sub (GOk.below HG.out upH) (by decide)); rintro e w116 ⟨rfl, hb⟩; have n0_ := Q0_ (blk_below (upK BK215) hb); have n1_ := Q0_ (blk_below (upK BK221) hb); have n2_ := Q0_ (blk_below (upK BK225) hb); have n3_ := Q0_ (below_step upH hb); clear BK215 BK221 BK225 HB; revert n0_ n1_ n2_ n3_; intro BK215 BK221 BK225 HB; (try clear hb); (try clear hb2); (try clear hk); (try clear hi); have hcz117_0 : w116.cell? ⟨gb221, 0, none⟩ = some (.int .i64 t218) := (blk_cell BK221.out 0).trans rfl; have hcz117_1 : w116.cell? ⟨gb221, 1, none⟩ = some (.bool false) := (blk_cell BK221.out 1).trans rfl; have hfz117_0 := blk_frozen BK221.out 0; have hfz117_1 := blk_frozen BK221.out 1; have hcz118_0 : w116.cell? ⟨gb215, 0, none⟩ = some (.int .i64 t213) := (blk_cell BK215.out 0).trans rfl; have hcz118_1 : w116.cell? ⟨gb215, 1, none⟩ = some (.bool false) := (blk_cell BK215.out 1).trans rfl; have hfz118_0 := blk_frozen BK215.out 0; have hfz118_1 := blk_frozen BK215.out 1)); try go_wp2_with (first | (go_at_call 17; (with_reducible refine (impl_ToneFrom.calls t216 t218 false true _ ?side1 A15.out).mono ?_); (case side1 => exact GOk.sub (GOk.below HG.out upH) (by decide)); rintro e w102 ⟨rfl, hb⟩; have n0_ := Q0_ (blk_below (upK BK215) hb); have n1_ := Q0_ (below_step upH hb); clear BK215 HB; revert n0_ n1_; intro BK215 HB; (try clear hb); (try clear hb2); (try clear hk); (try clear hi)) | ((with_reducible refine gate_dst (N := 6) rfl ?_); (try (refine gate_guard (by rfl) ?_; dsimp only)); refine box_event ?hg (N := 6) ?hd (cs := #[.int .i64 0, .bool false]) (t := 25) ?hr ?_; (case hd => rfl); (case hg => rfl); (case hr => first | (go_simp; done) | (go_simp; rfl)); intro gb221 hg w103 hbox hb; have n0_ := Q0_ (blk_below (upK BK215) hb); have n1_ := Q0_ (below_step upH hb); have n2_ := Q0_ (hbox); have n3_ := Q0_ ((by rw [hg]; exact (below_size upH) : w.heap.size ≤ gb221)); have n4_ := Q0_ ((by rw [hg]; exact (below_size upH) : w.heap.size ≤ gb221)); have n5_ := Q0_ ((by rw [hg]; exact Nat.ne_of_lt (blk_lt (upK BK215)) : gb215 ≠ gb221)); have n6_ := Q0_ ((by rw [hg]; exact Nat.ne_of_gt (blk_lt (upK BK215)) : gb221 ≠ gb215)); clear BK215 HB; revert n0_ n1_ n2_ n3_ n4_ n5_ n6_; intro BK215 HB BK221 GW221 GE221 NB215_221 NB221_215; clear hb hbox hg; have hnb104 := NB221_215.out; have hnc104 := NB215_221.out; have hcz105_0 : w103.cell? ⟨gb221, 0, none⟩ = some (.int .i64 0) := (blk_cell BK221.out 0).trans rfl; have hcz105_1 : w103.cell? ⟨gb221, 1, none⟩ = some (.bool false) := (blk_cell BK221.out 1).trans rfl; have hfz105_0 := blk_frozen BK221.out 0; have hfz105_1 := blk_frozen BK221.out 1; have hcz106_0 : w103.cell? ⟨gb215, 0, none⟩ = some (.int .i64 t213) := (blk_cell BK215.out 0).trans rfl; have hcz106_1 : w103.cell? ⟨gb215, 1, none⟩ = some (.bool false) := (blk_cell BK215.out 1).trans rfl; have hfz106_0 := blk_frozen BK215.out 0; have hfz106_1 := blk_frozen BK215.out 1) | (go_at_call 20; (with_reducible refine (impl_ToneAbove.calls kj5 t213 false 7 false t222 t223 false _ A16.out).mono ?_); rintro e w107 ⟨rfl, hb⟩; have n0_ := Q0_ (blk_below (g := gb215) (o := .cells #[.int .i64 t213, .bool false] 25 (0, 0)) (by (with_reducible repeat (first | refine blk_drewN ?_ _ | refine blk_drew ?_ | refine blk_alloc ?_ _)); refine blk_far ?_ NB215_221.out _; (with_reducible repeat (first | refine blk_drewN ?_ _ | refine blk_drew ?_ | refine blk_alloc ?_ _)); refine blk_far ?_ NB215_221.out _; (with_reducible repeat (first | refine blk_drewN ?_ _ | refine blk_drew ?_ | refine blk_alloc ?_ _)); exact BK215.out) hb); have n1_ := Q0_ (blk_below (g := gb221) (o := .cells #[.int .i64 t218, .bool false] 25 (0, 0)) (by (with_reducible repeat (first | refine blk_drewN ?_ _ | refine blk_drew ?_ | refine blk_alloc ?_ _)); refine blk_put (cs := #[.int .i64 t218, .bool false]) ?_ 1 _ rfl; (with_reducible repeat (first | refine blk_drewN ?_ _ | refine blk_drew ?_ | refine blk_alloc ?_ _)); refine blk_put (cs := #[.int .i64 0, .bool false]) ?_ 0 _ rfl; (with_reducible repeat (first | refine blk_drewN ?_ _ | refine blk_drew ?_ | refine blk_alloc ?_ _)); exact BK221.out) hb); have n2_ := Q0_ (below_step upH hb); clear BK215 BK221 HB; revert n0_ n1_ n2_; intro BK215 BK221 HB; (try clear hb); (try clear hb2); (try clear hk); (try clear hi)) | ((with_reducible refine gate_dst (N := 8) rfl ?_); (try (refine gate_guard (by rfl) ?_; dsimp only)); refine box_event ?hg (N := 8) ?hd (cs := #[.int .i64 0, .bool false]) (t := 25) ?hr ?_; (case hd => rfl); (case hg => rfl); (case hr => first | (go_simp; done) | (go_simp; rfl)); intro gb225 hg w108 hbox hb; have n0_ := Q0_ (blk_below (upK BK215) hb); have n1_ := Q0_ (blk_below (upK BK221) hb); have n2_ := Q0_ (below_step upH hb); have n3_ := Q0_ (hbox); have n4_ := Q0_ ((by rw [hg]; exact (below_size upH) : w.heap.size ≤ gb225)); have n5_ := Q0_ ((by rw [hg]; exact (below_size upH) : w.heap.size ≤ gb225)); have n6_ := Q0_ ((by rw [hg]; exact Nat.ne_of_lt (blk_lt (upK BK215)) : gb215 ≠ gb225)); have n7_ := Q0_ ((by rw [hg]; exact Nat.ne_of_gt (blk_lt (upK BK215)) : gb225 ≠ gb215)); have n8_ := Q0_ ((by rw [hg]; exact Nat.ne_of_lt (blk_lt (upK BK221)) : gb221 ≠ gb225)); have n9_ := Q0_ ((by rw [hg]; exact Nat.ne_of_gt (blk_lt (upK BK221)) : gb225 ≠ gb221)); clear BK215 BK221 HB; revert n0_ n1_ n2_ n3_ n4_ n5_ n6_ n7_ n8_ n9_; intro BK215 BK221 HB BK225 GW225 GE225 NB215_225 NB225_215 NB221_225 NB225_221; clear hb hbox hg; have hnb109 := NB225_215.out; have hnc109 := NB215_225.out; have hnb110 := NB225_221.out; have hnc110 := NB221_225.out; have hcz111_0 : w108.cell? ⟨gb225, 0, none⟩ = some (.int .i64 0) := (blk_cell BK225.out 0).trans rfl; have hcz111_1 : w108.cell? ⟨gb225, 1, none⟩ = some (.bool false) := (blk_cell BK225.out 1).trans rfl; have hfz111_0 := blk_frozen BK225.out 0; have hfz111_1 := blk_frozen BK225.out 1; have hcz112_0 : w108.cell? ⟨gb215, 0, none⟩ = some (.int .i64 t213) := (blk_cell BK215.out 0).trans rfl; have hcz112_1 : w108.cell? ⟨gb215, 1, none⟩ = some (.bool false) := (blk_cell BK215.out 1).trans rfl; have hfz112_0 := blk_frozen BK215.out 0; have hfz112_1 := blk_frozen BK215.out 1) | (go_at_call 13; (with_reducible refine (impl_ToneLetter.calls t213 false t226 _ ?side1 A17.out).mono ?_); (case side1 => exact GOk.sub (GOk.below HG.out upH) (by decide)); rintro e w113 ⟨rfl, hb⟩; have n0_ := Q0_ (blk_below (g := gb215) (o := .cells #[.int .i64 t213, .bool false] 25 (0, 0)) (by (with_reducible repeat (first | refine blk_drewN ?_ _ | refine blk_drew ?_ | refine blk_alloc ?_ _)); refine blk_far ?_ NB215_225.out _; (with_reducible repeat (first | refine blk_drewN ?_ _ | refine blk_drew ?_ | refine blk_alloc ?_ _)); refine blk_far ?_ NB215_225.out _; (with_reducible repeat (first | refine blk_drewN ?_ _ | refine blk_drew ?_ | refine blk_alloc ?_ _)); exact BK215.out) hb); have n1_ := Q0_ (blk_below (g := gb221) (o := .cells #[.int .i64 t218, .bool false] 25 (0, 0)) (by (with_reducible repeat (first | refine blk_drewN ?_ _ | refine blk_drew ?_ | refine blk_alloc ?_ _)); refine blk_far ?_ NB221_225.out _; (with_reducible repeat (first | refine blk_drewN ?_ _ | refine blk_drew ?_ | refine blk_alloc ?_ _)); refine blk_far ?_ NB221_225.out _; (with_reducible repeat (first | refine blk_drewN ?_ _ | refine blk_drew ?_ | refine blk_alloc ?_ _)); exact BK221.out) hb); have n2_ := Q0_ (blk_below (g := gb225) (o := .cells #[.int .i64 t222, .bool t223] 25 (0, 0)) (by (with_reducible repeat (first | refine blk_drewN ?_ _ | refine blk_drew ?_ | refine blk_alloc ?_ _)); refine blk_put (cs := #[.int .i64 t222, .bool false]) ?_ 1 _ rfl; (with_reducible repeat (first | refine blk_drewN ?_ _ | refine blk_drew ?_ | refine blk_alloc ?_ _)); refine blk_put (cs := #[.int .i64 0, .bool false]) ?_ 0 _ rfl; (with_reducible repeat (first | refine blk_drewN ?_ _ | refine blk_drew ?_ | refine blk_alloc ?_ _)); exact BK225.out) hb); have n3_ := Q0_ (below_step upH hb); clear BK215 BK221 BK225 HB; revert n0_ n1_ n2_ n3_; intro BK215 BK221 BK225 HB; (try clear hb); (try clear hb2); (try clear hk); (try clear hi); have hcz114_0 : w113.cell? ⟨gb215, 0, none⟩ = some (.int .i64 t213) := (blk_cell BK215.out 0).trans rfl; have hcz114_1 : w113.cell? ⟨gb215, 1, none⟩ = some (.bool false) := (blk_cell BK215.out 1).trans rfl; have hfz114_0 := blk_frozen BK215.out 0; have hfz114_1 := blk_frozen BK215.out 1; have hcz115_0 : w113.cell? ⟨gb225, 0, none⟩ = some (.int .i64 t222) := (blk_cell BK225.out 0).trans rfl; have hcz115_1 : w113.cell? ⟨gb225, 1, none⟩ = some (.bool t223) := (blk_cell BK225.out 1).trans rfl; have hfz115_0 := blk_frozen BK225.out 0; have hfz115_1 := blk_frozen BK225.out 1) | (go_at_call 15; (with_reducible refine (impl_ToneText.calls t222 t223 t228 _ ?side1 A69.out).mono ?_); (case side1 => exact GOk.sub (GOk.below HG.out upH) (by decide)); rintro e w116 ⟨rfl, hb⟩; have n0_ := Q0_ (blk_below (upK BK215) hb); have n1_ := Q0_ (blk_below (upK BK221) hb); have n2_ := Q0_ (blk_below (upK BK225) hb); have n3_ := Q0_ (below_step upH hb); clear BK215 BK221 BK225 HB; revert n0_ n1_ n2_ n3_; intro BK215 BK221 BK225 HB; (try clear hb); (try clear hb2); (try clear hk); (try clear hi); have hcz117_0 : w116.cell? ⟨gb221, 0, none⟩ = some (.int .i64 t218) := (blk_cell BK221.out 0).trans rfl; have hcz117_1 : w116.cell? ⟨gb221, 1, none⟩ = some (.bool false) := (blk_cell BK221.out 1).trans rfl; have hfz117_0 := blk_frozen BK221.out 0; have hfz117_1 := blk_frozen BK221.out 1; have hcz118_0 : w116.cell? ⟨gb215, 0, none⟩ = some (.int .i64 t213) := (blk_cell BK215.out 0).trans rfl; have hcz118_1 : w116.cell? ⟨gb215, 1, none⟩ = some (.bool false) := (blk_cell BK215.out 1).trans rfl; have hfz118_0 := blk_frozen BK215.out 0; have hfz118_1 := blk_frozen BK215.out 1)))
    go_ret
    exact ⟨by first | rfl | (simp [errW_none, errW_some] <;> rfl) | (simp [*, errW_none, errW_some] <;> rfl), by repeat (first | (with_reducible first | exact HB.out | apply below_alloc | apply pw_below_drewN | apply below_drew1 | refine below_set ?_ GE215.out | refine below_set ?_ GE221.out | refine below_set ?_ GE225.out) | exact HB.out)⟩
   subst c77
   replace H := ifP (rfl) H
   have c78b0 := eq_true (of_decide_eq_true (by first | (with_reducible assumption) | assumption) : 0 ≤ 1)
   by_cases c79 : 1 ≤ (t228.size : Int)
   rotate_left
   ·rw [if_neg c79] at H
    exact absurd H (by simp)
   rw [if_pos c79] at H
   have c79b0 := eq_true c79
   have c79b1 : decide (1 ≤ (t228.size : Int)) = true := decide_eq_true c79
   clear c79
   by_cases c80 : (t228.extract 0 1).toList = t226.toList
   rotate_left
   ·rw [if_neg c80] at H
    exact absurd H (by simp)
   rw [if_pos c80] at H
   have c80b0 : ((t228.extract 0 1).toList == t226.toList) = true := beq_iff_eq.mpr c80
   have c80b1 : ((t228.extract 0 1).toList != t226.toList) = false := bne_eq_false_iff_eq.mpr c80
   clear c80
   by_cases c81 : 1 < (t228.size : Int)
   rotate_left
   ·rw [if_neg c81] at H
    exact absurd H (by simp)
   rw [if_pos c81] at H
   have c81b0 : decide (1 < (t228.size : Int)) = true := decide_eq_true c81
   have c81b1 : decide (1 < t228.size) = true := decide_eq_true (by omega)
   clear c81
   by_cases c83 : 1 < (t216.size : Int)
   rotate_left
   ·rw [if_neg c83] at H
    exact absurd H (by simp)
   rw [if_pos c83] at H
   have c83b0 : decide (1 < (t216.size : Int)) = true := decide_eq_true c83
   have c83b1 : decide (1 < t216.size) = true := decide_eq_true (by omega)
   clear c83
   obtain rfl := Option.some.inj H
   go_wp2_with (first | (go_at_call 17; (with_reducible refine (impl_ToneFrom.calls t216 t218 false true _ ?side1 A15.out).mono ?_); (case side1 => exact GOk.sub (GOk.below HG.out upH) (by decide)); rintro e w85 ⟨rfl, hb⟩; have n0_ := Q0_ (blk_below (upK BK215) hb); have n1_ := Q0_ (below_step upH hb); clear BK215 HB; revert n0_ n1_; intro BK215 HB; (try clear hb); (try clear hb2); (try clear hk); (try clear hi)) | ((with_reducible refine gate_dst (N := 6) rfl ?_); (try (refine gate_guard (by rfl) ?_; dsimp only)); refine box_event ?hg (N := 6) ?hd (cs := #[.int .i64 0, .bool false]) (t := 25) ?hr ?_; (case hd => rfl); (case hg => rfl); (case hr => first | (go_simp; done) | (go_simp; rfl)); intro gb221 hg w86 hbox hb; have n0_ := Q0_ (blk_below (upK BK215) hb); have n1_ := Q0_ (below_step upH hb); have n2_ := Q0_ (hbox); have n3_ := Q0_ ((by rw [hg]; exact (below_size upH) : w.heap.size ≤ gb221)); have n4_ := Q0_ ((by rw [hg]; exact (below_size upH) : w.heap.size ≤ gb221)); have n5_ := Q0_ ((by rw [hg]; exact Nat.ne_of_lt (blk_lt (upK BK215)) : gb215 ≠ gb221)); have n6_ := Q0_ ((by rw [hg]; exact Nat.ne_of_gt (blk_lt (upK BK215)) : gb221 ≠ gb215)); clear BK215 HB; revert n0_ n1_ n2_ n3_ n4_ n5_ n6_; intro BK215 HB BK221 GW221 GE221 NB215_221 NB221_215; clear hb hbox hg; have hnb87 := NB221_215.out; have hnc87 := NB215_221.out; have hcz88_0 : w86.cell? ⟨gb221, 0, none⟩ = some (.int .i64 0) := (blk_cell BK221.out 0).trans rfl; have hcz88_1 : w86.cell? ⟨gb221, 1, none⟩ = some (.bool false) := (blk_cell BK221.out 1).trans rfl; have hfz88_0 := blk_frozen BK221.out 0; have hfz88_1 := blk_frozen BK221.out 1; have hcz89_0 : w86.cell? ⟨gb215, 0, none⟩ = some (.int .i64 t213) := (blk_cell BK215.out 0).trans rfl; have hcz89_1 : w86.cell? ⟨gb215, 1, none⟩ = some (.bool false) := (blk_cell BK215.out 1).trans rfl; have hfz89_0 := blk_frozen BK215.out 0; have hfz89_1 := blk_frozen BK215.out 1) | (go_at_call 20; (with_reducible refine (impl_ToneAbove.calls kj5 t213 false 7 false t222 t223 true _ A16.out).mono ?_); rintro e w90 ⟨rfl, hb⟩; have n0_ := Q0_ (blk_below (g := gb215) (o := .cells #[.int .i64 t213, .bool false] 25 (0, 0)) (by (with_reducible repeat (first | refine blk_drewN ?_ _ | refine blk_drew ?_ | refine blk_alloc ?_ _)); refine blk_far ?_ NB215_221.out _; (with_reducible repeat (first | refine blk_drewN ?_ _ | refine blk_drew ?_ | refine blk_alloc ?_ _)); refine blk_far ?_ NB215_221.out _; (with_reducible repeat (first | refine blk_drewN ?_ _ | refine blk_drew ?_ | refine blk_alloc ?_ _)); exact BK215.out) hb); have n1_ := Q0_ (blk_below (g := gb221) (o := .cells #[.int .i64 t218, .bool false] 25 (0, 0)) (by (with_reducible repeat (first | refine blk_drewN ?_ _ | refine blk_drew ?_ | refine blk_alloc ?_ _)); refine blk_put (cs := #[.int .i64 t218, .bool false]) ?_ 1 _ rfl; (with_reducible repeat (first | refine blk_drewN ?_ _ | refine blk_drew ?_ | refine blk_alloc ?_ _)); refine blk_put (cs := #[.int .i64 0, .bool false]) ?_ 0 _ rfl; (with_reducible repeat (first | refine blk_drewN ?_ _ | refine blk_drew ?_ | refine blk_alloc ?_ _)); exact BK221.out) hb); have n2_ := Q0_ (below_step upH hb); clear BK215 BK221 HB; revert n0_ n1_ n2_; intro BK215 BK221 HB; (try clear hb); (try clear hb2); (try clear hk); (try clear hi)) | ((with_reducible refine gate_dst (N := 8) rfl ?_); (try (refine gate_guard (by rfl) ?_; dsimp only)); refine box_event ?hg (N := 8) ?hd (cs := #[.int .i64 0, .bool false]) (t := 25) ?hr ?_; (case hd => rfl); (case hg => rfl); (case hr => first | (go_simp; done) | (go_simp; rfl)); intro gb225 hg w91 hbox hb; have n0_ := Q0_ (blk_below (upK BK215) hb); have n1_ := Q0_ (blk_below (upK BK221) hb); have n2_ := Q0_ (below_step upH hb); have n3_ := Q0_ (hbox); have n4_ := Q0_ ((by rw [hg]; exact (below_size upH) : w.heap.size ≤ gb225)); have n5_ := Q0_ ((by rw [hg]; exact (below_size upH) : w.heap.size ≤ gb225)); have n6_ := Q0_ ((by rw [hg]; exact Nat.ne_of_lt (blk_lt (upK BK215)) : gb215 ≠ gb225)); have n7_ := Q0_ ((by rw [hg]; exact Nat.ne_of_gt (blk_lt (upK BK215)) : gb225 ≠ gb215)); have n8_ := Q0_ ((by rw [hg]; exact Nat.ne_of_lt (blk_lt (upK BK221)) : gb221 ≠ gb225)); have n9_ := Q0_ ((by rw [hg]; exact Nat.ne_of_gt (blk_lt (upK BK221)) : gb225 ≠ gb221)); clear BK215 BK221 HB; revert n0_ n1_ n2_ n3_ n4_ n5_ n6_ n7_ n8_ n9_; intro BK215 BK221 HB BK225 GW225 GE225 NB215_225 NB225_215 NB221_225 NB225_221; clear hb hbox hg; have hnb92 := NB225_215.out; have hnc92 := NB215_225.out; have hnb93 := NB225_221.out; have hnc93 := NB221_225.out; have hcz94_0 : w91.cell? ⟨gb225, 0, none⟩ = some (.int .i64 0) := (blk_cell BK225.out 0).trans rfl; have hcz94_1 : w91.cell? ⟨gb225, 1, none⟩ = some (.bool false) := (blk_cell BK225.out 1).trans rfl; have hfz94_0 := blk_frozen BK225.out 0; have hfz94_1 := blk_frozen BK225.out 1; have hcz95_0 : w91.cell? ⟨gb215, 0, none⟩ = some (.int .i64 t213) := (blk_cell BK215.out 0).trans rfl; have hcz95_1 : w91.cell? ⟨gb215, 1, none⟩ = some (.bool false) := (blk_cell BK215.out 1).trans rfl; have hfz95_0 := blk_frozen BK215.out 0; have hfz95_1 := blk_frozen BK215.out 1) | (go_at_call 13; (with_reducible refine (impl_ToneLetter.calls t213 false t226 _ ?side1 A17.out).mono ?_); (case side1 => exact GOk.sub (GOk.below HG.out upH) (by decide)); rintro e w96 ⟨rfl, hb⟩; have n0_ := Q0_ (blk_below (g := gb215) (o := .cells #[.int .i64 t213, .bool false] 25 (0, 0)) (by (with_reducible repeat (first | refine blk_drewN ?_ _ | refine blk_drew ?_ | refine blk_alloc ?_ _)); refine blk_far ?_ NB215_225.out _; (with_reducible repeat (first | refine blk_drewN ?_ _ | refine blk_drew ?_ | refine blk_alloc ?_ _)); refine blk_far ?_ NB215_225.out _; (with_reducible repeat (first | refine blk_drewN ?_ _ | refine blk_drew ?_ | refine blk_alloc ?_ _)); exact BK215.out) hb); have n1_ := Q0_ (blk_below (g := gb221) (o := .cells #[.int .i64 t218, .bool false] 25 (0, 0)) (by (with_reducible repeat (first | refine blk_drewN ?_ _ | refine blk_drew ?_ | refine blk_alloc ?_ _)); refine blk_far ?_ NB221_225.out _; (with_reducible repeat (first | refine blk_drewN ?_ _ | refine blk_drew ?_ | refine blk_alloc ?_ _)); refine blk_far ?_ NB221_225.out _; (with_reducible repeat (first | refine blk_drewN ?_ _ | refine blk_drew ?_ | refine blk_alloc ?_ _)); exact BK221.out) hb); have n2_ := Q0_ (blk_below (g := gb225) (o := .cells #[.int .i64 t222, .bool t223] 25 (0, 0)) (by (with_reducible repeat (first | refine blk_drewN ?_ _ | refine blk_drew ?_ | refine blk_alloc ?_ _)); refine blk_put (cs := #[.int .i64 t222, .bool false]) ?_ 1 _ rfl; (with_reducible repeat (first | refine blk_drewN ?_ _ | refine blk_drew ?_ | refine blk_alloc ?_ _)); refine blk_put (cs := #[.int .i64 0, .bool false]) ?_ 0 _ rfl; (with_reducible repeat (first | refine blk_drewN ?_ _ | refine blk_drew ?_ | refine blk_alloc ?_ _)); exact BK225.out) hb); have n3_ := Q0_ (below_step upH hb); clear BK215 BK221 BK225 HB; revert n0_ n1_ n2_ n3_; intro BK215 BK221 BK225 HB; (try clear hb); (try clear hb2); (try clear hk); (try clear hi); have hcz97_0 : w96.cell? ⟨gb215, 0, none⟩ = some (.int .i64 t213) := (blk_cell BK215.out 0).trans rfl; have hcz97_1 : w96.cell? ⟨gb215, 1, none⟩ = some (.bool false) := (blk_cell BK215.out 1).trans rfl; have hfz97_0 := blk_frozen BK215.out 0; have hfz97_1 := blk_frozen BK215.out 1; have hcz98_0 : w96.cell? ⟨gb225, 0, none⟩ = some (.int .i64 t222) := (blk_cell BK225.out 0).trans rfl; have hcz98_1 : w96.cell? ⟨gb225, 1, none⟩ = some (.bool t223) := (blk_cell BK225.out 1).trans rfl; have hfz98_0 := blk_frozen BK225.out 0; have hfz98_1 := blk_frozen BK225.out 1) | (go_at_call 15; (with_reducible refine (impl_ToneText.calls t222 t223 t228 _ ?side1 A69.out).mono ?_); (case side1 => exact GOk.sub (GOk.below HG.out upH) (by decide)); rintro e w99 ⟨rfl, hb⟩; have n0_ := Q0_ (blk_below (upK BK215) hb); have n1_ := Q0_ (blk_below (upK BK221) hb); have n2_ := Q0_ (blk_below (upK BK225) hb); have n3_ := Q0_ (below_step upH hb); clear BK215 BK221 BK225 HB; revert n0_ n1_ n2_ n3_; intro BK215 BK221 BK225 HB; (try clear hb); (try clear hb2); (try clear hk); (try clear hi); have hcz100_0 : w99.cell? ⟨gb221, 0, none⟩ = some (.int .i64 t218) := (blk_cell BK221.out 0).trans rfl; have hcz100_1 : w99.cell? ⟨gb221, 1, none⟩ = some (.bool false) := (blk_cell BK221.out 1).trans rfl; have hfz100_0 := blk_frozen BK221.out 0; have hfz100_1 := blk_frozen BK221.out 1; have hcz101_0 : w99.cell? ⟨gb215, 0, none⟩ = some (.int .i64 t213) := (blk_cell BK215.out 0).trans rfl; have hcz101_1 : w99.cell? ⟨gb215, 1, none⟩ = some (.bool false) := (blk_cell BK215.out 1).trans rfl; have hfz101_0 := blk_frozen BK215.out 0; have hfz101_1 := blk_frozen BK215.out 1; have p82 : 0 ≤ (1 : Int) := (by omega); have q82 : 1 < t228.size := (by have : (1 : Int) < (t228.size : Int) := of_decide_eq_true (by first | (with_reducible assumption) | assumption); omega); have hx82 : ∀ h : 1 < t228.size, ((t228[1]'h).toNat : Int) = bt t228 1 := bt_at t228 1; clear p82; have qi82 : (1 < (t228.size : Int)) = True := eq_true (of_decide_eq_true (by first | (with_reducible assumption) | assumption)); replace q82 := eq_true q82; have p84 : 0 ≤ (1 : Int) := (by omega); have q84 : 1 < t216.size := (by have : (1 : Int) < (t216.size : Int) := of_decide_eq_true (by first | (with_reducible assumption) | assumption); omega); have hx84 : ∀ h : 1 < t216.size, ((t216[1]'h).toNat : Int) = bt t216 1 := bt_at t216 1; clear p84; have qi84 : (1 < (t216.size : Int)) = True := eq_true (of_decide_eq_true (by first | (with_reducible assumption) | assumption)); replace q84 := eq_true q84))
   repeat (go_quiet (first | (go_at_call 17; (with_reducible refine (impl_ToneFrom.calls t216 t218 false true _ ?side1 A15.out).mono ?_); (case side1 => exact GOk.sub (GOk.below HG.out upH) (by decide)); rintro e w85 ⟨rfl, hb⟩; have n0_ := Q0_ (blk_below (upK BK215) hb); have n1_ := Q0_ (below_step upH hb); clear BK215 HB; revert n0_ n1_; intro BK215 HB; (try clear hb); (try clear hb2); (try clear hk); (try clear hi)) | ((with_reducible refine gate_dst (N := 6) rfl ?_); (try (refine gate_guard (by rfl) ?_; dsimp only)); refine box_event ?hg (N := 6) ?hd (cs := #[.int .i64 0, .bool false]) (t := 25) ?hr ?_; (case hd => rfl); (case hg => rfl); (case hr => first | (go_simp; done) | (go_simp; rfl)); intro gb221 hg w86 hbox hb; have n0_ := Q0_ (blk_below (upK BK215) hb); have n1_ := Q0_ (below_step upH hb); have n2_ := Q0_ (hbox); have n3_ := Q0_ ((by rw [hg]; exact (below_size upH) : w.heap.size ≤ gb221)); have n4_ := Q0_ ((by rw [hg]; exact (below_size upH) : w.heap.size ≤ gb221)); have n5_ := Q0_ ((by rw [hg]; exact Nat.ne_of_lt (blk_lt (upK BK215)) : gb215 ≠ gb221)); have n6_ := Q0_ ((by rw [hg]; exact Nat.ne_of_gt (blk_lt (upK BK215)) : gb221 ≠ gb215)); clear BK215 HB; revert n0_ n1_ n2_ n3_ n4_ n5_ n6_; intro BK215 HB BK221 GW221 GE221 NB215_221 NB221_215; clear hb hbox hg; have hnb87 := NB221_215.out; have hnc87 := NB215_221.out; have hcz88_0 : w86.cell? ⟨gb221, 0, none⟩ = some (.int .i64 0) := (blk_cell BK221.out 0).trans rfl; have hcz88_1 : w86.cell? ⟨gb221, 1, none⟩ = some (.bool false) := (blk_cell BK221.out 1).trans rfl; have hfz88_0 := blk_frozen BK221.out 0; have hfz88_1 := blk_frozen BK221.out 1; have hcz89_0 : w86.cell? ⟨gb215, 0, none⟩ = some (.int .i64 t213) := (blk_cell BK215.out 0).trans rfl; have hcz89_1 : w86.cell? ⟨gb215, 1, none⟩ = some (.bool false) := (blk_cell BK215.out 1).trans rfl; have hfz89_0 := blk_frozen BK215.out 0; have hfz89_1 := blk_frozen BK215.out 1) | (go_at_call 20; (with_reducible refine (impl_ToneAbove.calls kj5 t213 false 7 false t222 t223 true _ A16.out).mono ?_); rintro e w90 ⟨rfl, hb⟩; have n0_ := Q0_ (blk_below (g := gb215) (o := .cells #[.int .i64 t213, .bool false] 25 (0, 0)) (by (with_reducible repeat (first | refine blk_drewN ?_ _ | refine blk_drew ?_ | refine blk_alloc ?_ _)); refine blk_far ?_ NB215_221.out _; (with_reducible repeat (first | refine blk_drewN ?_ _ | refine blk_drew ?_ | refine blk_alloc ?_ _)); refine blk_far ?_ NB215_221.out _; (with_reducible repeat (first | refine blk_drewN ?_ _ | refine blk_drew ?_ | refine blk_alloc ?_ _)); exact BK215.out) hb); have n1_ := Q0_ (blk_below (g := gb221) (o := .cells #[.int .i64 t218, .bool false] 25 (0, 0)) (by (with_reducible repeat (first | refine blk_drewN ?_ _ | refine blk_drew ?_ | refine blk_alloc ?_ _)); refine blk_put (cs := #[.int .i64 t218, .bool false]) ?_ 1 _ rfl; (with_reducible repeat (first | refine blk_drewN ?_ _ | refine blk_drew ?_ | refine blk_alloc ?_ _)); refine blk_put (cs := #[.int .i64 0, .bool false]) ?_ 0 _ rfl; (with_reducible repeat (first | refine blk_drewN ?_ _ | refine blk_drew ?_ | refine blk_alloc ?_ _)); exact BK221.out) hb); have n2_ := Q0_ (below_step upH hb); clear BK215 BK221 HB; revert n0_ n1_ n2_; intro BK215 BK221 HB; (try clear hb); (try clear hb2); (try clear hk); (try clear hi)) | ((with_reducible refine gate_dst (N := 8) rfl ?_); (try (refine gate_guard (by rfl) ?_; dsimp only)); refine box_event ?hg (N := 8) ?hd (cs := #[.int .i64 0, .bool false]) (t := 25) ?hr ?_; (case hd => rfl); (case hg => rfl); (case hr => first | (go_simp; done) | (go_simp; rfl)); intro gb225 hg w91 hbox hb; have n0_ := Q0_ (blk_below (upK BK215) hb); have n1_ := Q0_ (blk_below (upK BK221) hb); have n2_ := Q0_ (below_step upH hb); have n3_ := Q0_ (hbox); have n4_ := Q0_ ((by rw [hg]; exact (below_size upH) : w.heap.size ≤ gb225)); have n5_ := Q0_ ((by rw [hg]; exact (below_size upH) : w.heap.size ≤ gb225)); have n6_ := Q0_ ((by rw [hg]; exact Nat.ne_of_lt (blk_lt (upK BK215)) : gb215 ≠ gb225)); have n7_ := Q0_ ((by rw [hg]; exact Nat.ne_of_gt (blk_lt (upK BK215)) : gb225 ≠ gb215)); have n8_ := Q0_ ((by rw [hg]; exact Nat.ne_of_lt (blk_lt (upK BK221)) : gb221 ≠ gb225)); have n9_ := Q0_ ((by rw [hg]; exact Nat.ne_of_gt (blk_lt (upK BK221)) : gb225 ≠ gb221)); clear BK215 BK221 HB; revert n0_ n1_ n2_ n3_ n4_ n5_ n6_ n7_ n8_ n9_; intro BK215 BK221 HB BK225 GW225 GE225 NB215_225 NB225_215 NB221_225 NB225_221; clear hb hbox hg; have hnb92 := NB225_215.out; have hnc92 := NB215_225.out; have hnb93 := NB225_221.out; have hnc93 := NB221_225.out; have hcz94_0 : w91.cell? ⟨gb225, 0, none⟩ = some (.int .i64 0) := (blk_cell BK225.out 0).trans rfl; have hcz94_1 : w91.cell? ⟨gb225, 1, none⟩ = some (.bool false) := (blk_cell BK225.out 1).trans rfl; have hfz94_0 := blk_frozen BK225.out 0; have hfz94_1 := blk_frozen BK225.out 1; have hcz95_0 : w91.cell? ⟨gb215, 0, none⟩ = some (.int .i64 t213) := (blk_cell BK215.out 0).trans rfl; have hcz95_1 : w91.cell? ⟨gb215, 1, none⟩ = some (.bool false) := (blk_cell BK215.out 1).trans rfl; have hfz95_0 := blk_frozen BK215.out 0; have hfz95_1 := blk_frozen BK215.out 1) | (go_at_call 13; (with_reducible refine (impl_ToneLetter.calls t213 false t226 _ ?side1 A17.out).mono ?_); (case side1 => exact GOk.sub (GOk.below HG.out upH) (by decide)); rintro e w96 ⟨rfl, hb⟩; have n0_ := Q0_ (blk_below (g := gb215) (o := .cells #[.int .i64 t213, .bool false] 25 (0, 0)) (by (with_reducible repeat (first | refine blk_drewN ?_ _ | refine blk_drew ?_ | refine blk_alloc ?_ _)); refine blk_far ?_ NB215_225.out _; (with_reducible repeat (first | refine blk_drewN ?_ _ | refine blk_drew ?_ | refine blk_alloc ?_ _)); refine blk_far ?_ NB215_225.out _; (with_reducible repeat (first | refine blk_drewN ?_ _ | refine blk_drew ?_ | refine blk_alloc ?_ _)); exact BK215.out) hb); have n1_ := Q0_ (blk_below (g := gb221) (o := .cells #[.int .i64 t218, .bool false] 25 (0, 0)) (by (with_reducible repeat (first | refine blk_drewN ?_ _ | refine blk_drew ?_ | refine blk_alloc ?_ _)); refine blk_far ?_ NB221_225.out _; (with_reducible repeat (first | refine blk_drewN ?_ _ | refine blk_drew ?_ | refine blk_alloc ?_ _)); refine blk_far ?_ NB221_225.out _; (with_reducible repeat (first | refine blk_drewN ?_ _ | refine blk_drew ?_ | refine blk_alloc ?_ _)); exact BK221.out) hb); have n2_ := Q0_ (blk_below (g := gb225) (o := .cells #[.int .i64 t222, .bool t223] 25 (0, 0)) (by (with_reducible repeat (first | refine blk_drewN ?_ _ | refine blk_drew ?_ | refine blk_alloc ?_ _)); refine blk_put (cs := #[.int .i64 t222, .bool false]) ?_ 1 _ rfl; (with_reducible repeat (first | refine blk_drewN ?_ _ | refine blk_drew ?_ | refine blk_alloc ?_ _)); refine blk_put (cs := #[.int .i64 0, .bool false]) ?_ 0 _ rfl; (with_reducible repeat (first | refine blk_drewN ?_ _ | refine blk_drew ?_ | refine blk_alloc ?_ _)); exact BK225.out) hb); have n3_ := Q0_ (below_step upH hb); clear BK215 BK221 BK225 HB; revert n0_ n1_ n2_ n3_; intro BK215 BK221 BK225 HB; (try clear hb); (try clear hb2); (try clear hk); (try clear hi); have hcz97_0 : w96.cell? ⟨gb215, 0, none⟩ = some (.int .i64 t213) := (blk_cell BK215.out 0).trans rfl; have hcz97_1 : w96.cell? ⟨gb215, 1, none⟩ = some (.bool false) := (blk_cell BK215.out 1).trans rfl; have hfz97_0 := blk_frozen BK215.out 0; have hfz97_1 := blk_frozen BK215.out 1; have hcz98_0 : w96.cell? ⟨gb225, 0, none⟩ = some (.int .i64 t222) := (blk_cell BK225.out 0).trans rfl; have hcz98_1 : w96.cell? ⟨gb225, 1, none⟩ = some (.bool t223) := (blk_cell BK225.out 1).trans rfl; have hfz98_0 := blk_frozen BK225.out 0; have hfz98_1 := blk_frozen BK225.out 1) | (go_at_call 15; (with_reducible refine (impl_ToneText.calls t222 t223 t228 _ ?side1 A69.out).mono ?_); (case side1 => exact GOk.sub (GOk.below HG.out upH) (by decide)); rintro e w99 ⟨rfl, hb⟩; have n0_ := Q0_ (blk_below (upK BK215) hb); have n1_ := Q0_ (blk_below (upK BK221) hb); have n2_ := Q0_ (blk_below (upK BK225) hb); have n3_ := Q0_ (below_step upH hb); clear BK215 BK221 BK225 HB; revert n0_ n1_ n2_ n3_; intro BK215 BK221 BK225 HB; (try clear hb); (try clear hb2); (try clear hk); (try clear hi); have hcz100_0 : w99.cell? ⟨gb221, 0, none⟩ = some (.int .i64 t218) := (blk_cell BK221.out 0).trans rfl; have hcz100_1 : w99.cell? ⟨gb221, 1, none⟩ = some (.bool false) := (blk_cell BK221.out 1).trans rfl; have hfz100_0 := blk_frozen BK221.out 0; have hfz100_1 := blk_frozen BK221.out 1; have hcz101_0 : w99.cell? ⟨gb215, 0, none⟩ = some (.int .i64 t213) := (blk_cell BK215.out 0).trans rfl; have hcz101_1 : w99.cell? ⟨gb215, 1, none⟩ = some (.bool false) := (blk_cell BK215.out 1).trans rfl; have hfz101_0 := blk_frozen BK215.out 0; have hfz101_1 := blk_frozen BK215.out 1; have p82 : 0 ≤ (1 : Int) := (by omega); have q82 : 1 < t228.size := (by have : (1 : Int) < (t228.size : Int) := of_decide_eq_true (by first | (with_reducible assumption) | assumption); omega); have hx82 : ∀ h : 1 < t228.size, ((t228[1]'h).toNat : Int) = bt t228 1 := bt_at t228 1; clear p82; have qi82 : (1 < (t228.size : Int)) = True := eq_true (of_decide_eq_true (by first | (with_reducible assumption) | assumption)); replace q82 := eq_true q82; have p84 : 0 ≤ (1 : Int) := (by omega); have q84 : 1 < t216.size := (by have : (1 : Int) < (t216.size : Int) := of_decide_eq_true (by first | (with_reducible assumption) | assumption); omega); have hx84 : ∀ h : 1 < t216.size, ((t216[1]'h).toNat : Int) = bt t216 1 := bt_at t216 1; clear p84; have qi84 : (1 < (t216.size : Int)) = True := eq_true (of_decide_eq_true (by first | (with_reducible assumption) | assumption)); replace q84 := eq_true q84)); try go_wp2_with (first | (go_at_call 17; (with_reducible refine (impl_ToneFrom.calls t216 t218 false true _ ?side1 A15.out).mono ?_); (case side1 => exact GOk.sub (GOk.below HG.out upH) (by decide)); rintro e w85 ⟨rfl, hb⟩; have n0_ := Q0_ (blk_below (upK BK215) hb); have n1_ := Q0_ (below_step upH hb); clear BK215 HB; revert n0_ n1_; intro BK215 HB; (try clear hb); (try clear hb2); (try clear hk); (try clear hi)) | ((with_reducible refine gate_dst (N := 6) rfl ?_); (try (refine gate_guard (by rfl) ?_; dsimp only)); refine box_event ?hg (N := 6) ?hd (cs := #[.int .i64 0, .bool false]) (t := 25) ?hr ?_; (case hd => rfl); (case hg => rfl); (case hr => first | (go_simp; done) | (go_simp; rfl)); intro gb221 hg w86 hbox hb; have n0_ := Q0_ (blk_below (upK BK215) hb); have n1_ := Q0_ (below_step upH hb); have n2_ := Q0_ (hbox); have n3_ := Q0_ ((by rw [hg]; exact (below_size upH) : w.heap.size ≤ gb221)); have n4_ := Q0_ ((by rw [hg]; exact (below_size upH) : w.heap.size ≤ gb221)); have n5_ := Q0_ ((by rw [hg]; exact Nat.ne_of_lt (blk_lt (upK BK215)) : gb215 ≠ gb221)); have n6_ := Q0_ ((by rw [hg]; exact Nat.ne_of_gt (blk_lt (upK BK215)) : gb221 ≠ gb215)); clear BK215 HB; revert n0_ n1_ n2_ n3_ n4_ n5_ n6_; intro BK215 HB BK221 GW221 GE221 NB215_221 NB221_215; clear hb hbox hg; have hnb87 := NB221_215.out; have hnc87 := NB215_221.out; have hcz88_0 : w86.cell? ⟨gb221, 0, none⟩ = some (.int .i64 0) := (blk_cell BK221.out 0).trans rfl; have hcz88_1 : w86.cell? ⟨gb221, 1, none⟩ = some (.bool false) := (blk_cell BK221.out 1).trans rfl; have hfz88_0 := blk_frozen BK221.out 0; have hfz88_1 := blk_frozen BK221.out 1; have hcz89_0 : w86.cell? ⟨gb215, 0, none⟩ = some (.int .i64 t213) := (blk_cell BK215.out 0).trans rfl; have hcz89_1 : w86.cell? ⟨gb215, 1, none⟩ = some (.bool false) := (blk_cell BK215.out 1).trans rfl; have hfz89_0 := blk_frozen BK215.out 0; have hfz89_1 := blk_frozen BK215.out 1) | (go_at_call 20; (with_reducible refine (impl_ToneAbove.calls kj5 t213 false 7 false t222 t223 true _ A16.out).mono ?_); rintro e w90 ⟨rfl, hb⟩; have n0_ := Q0_ (blk_below (g := gb215) (o := .cells #[.int .i64 t213, .bool false] 25 (0, 0)) (by (with_reducible repeat (first | refine blk_drewN ?_ _ | refine blk_drew ?_ | refine blk_alloc ?_ _)); refine blk_far ?_ NB215_221.out _; (with_reducible repeat (first | refine blk_drewN ?_ _ | refine blk_drew ?_ | refine blk_alloc ?_ _)); refine blk_far ?_ NB215_221.out _; (with_reducible repeat (first | refine blk_drewN ?_ _ | refine blk_drew ?_ | refine blk_alloc ?_ _)); exact BK215.out) hb); have n1_ := Q0_ (blk_below (g := gb221) (o := .cells #[.int .i64 t218, .bool false] 25 (0, 0)) (by (with_reducible repeat (first | refine blk_drewN ?_ _ | refine blk_drew ?_ | refine blk_alloc ?_ _)); refine blk_put (cs := #[.int .i64 t218, .bool false]) ?_ 1 _ rfl; (with_reducible repeat (first | refine blk_drewN ?_ _ | refine blk_drew ?_ | refine blk_alloc ?_ _)); refine blk_put (cs := #[.int .i64 0, .bool false]) ?_ 0 _ rfl; (with_reducible repeat (first | refine blk_drewN ?_ _ | refine blk_drew ?_ | refine blk_alloc ?_ _)); exact BK221.out) hb); have n2_ := Q0_ (below_step upH hb); clear BK215 BK221 HB; revert n0_ n1_ n2_; intro BK215 BK221 HB; (try clear hb); (try clear hb2); (try clear hk); (try clear hi)) | ((with_reducible refine gate_dst (N := 8) rfl ?_); (try (refine gate_guard (by rfl) ?_; dsimp only)); refine box_event ?hg (N := 8) ?hd (cs := #[.int .i64 0, .bool false]) (t := 25) ?hr ?_; (case hd => rfl); (case hg => rfl); (case hr => first | (go_simp; done) | (go_simp; rfl)); intro gb225 hg w91 hbox hb; have n0_ := Q0_ (blk_below (upK BK215) hb); have n1_ := Q0_ (blk_below (upK BK221) hb); have n2_ := Q0_ (below_step upH hb); have n3_ := Q0_ (hbox); have n4_ := Q0_ ((by rw [hg]; exact (below_size upH) : w.heap.size ≤ gb225)); have n5_ := Q0_ ((by rw [hg]; exact (below_size upH) : w.heap.size ≤ gb225)); have n6_ := Q0_ ((by rw [hg]; exact Nat.ne_of_lt (blk_lt (upK BK215)) : gb215 ≠ gb225)); have n7_ := Q0_ ((by rw [hg]; exact Nat.ne_of_gt (blk_lt (upK BK215)) : gb225 ≠ gb215)); have n8_ := Q0_ ((by rw [hg]; exact Nat.ne_of_lt (blk_lt (upK BK221)) : gb221 ≠ gb225)); have n9_ := Q0_ ((by rw [hg]; exact Nat.ne_of_gt (blk_lt (upK BK221)) : gb225 ≠ gb221)); clear BK215 BK221 HB; revert n0_ n1_ n2_ n3_ n4_ n5_ n6_ n7_ n8_ n9_; intro BK215 BK221 HB BK225 GW225 GE225 NB215_225 NB225_215 NB221_225 NB225_221; clear hb hbox hg; have hnb92 := NB225_215.out; have hnc92 := NB215_225.out; have hnb93 := NB225_221.out; have hnc93 := NB221_225.out; have hcz94_0 : w91.cell? ⟨gb225, 0, none⟩ = some (.int .i64 0) := (blk_cell BK225.out 0).trans rfl; have hcz94_1 : w91.cell? ⟨gb225, 1, none⟩ = some (.bool false) := (blk_cell BK225.out 1).trans rfl; have hfz94_0 := blk_frozen BK225.out 0; have hfz94_1 := blk_frozen BK225.out 1; have hcz95_0 : w91.cell? ⟨gb215, 0, none⟩ = some (.int .i64 t213) := (blk_cell BK215.out 0).trans rfl; have hcz95_1 : w91.cell? ⟨gb215, 1, none⟩ = some (.bool false) := (blk_cell BK215.out 1).trans rfl; have hfz95_0 := blk_frozen BK215.out 0; have hfz95_1 := blk_frozen BK215.out 1) | (go_at_call 13; (with_reducible refine (impl_ToneLetter.calls t213 false t226 _ ?side1 A17.out).mono ?_); (case side1 => exact GOk.sub (GOk.below HG.out upH) (by decide)); rintro e w96 ⟨rfl, hb⟩; have n0_ := Q0_ (blk_below (g := gb215) (o := .cells #[.int .i64 t213, .bool false] 25 (0, 0)) (by (with_reducible repeat (first | refine blk_drewN ?_ _ | refine blk_drew ?_ | refine blk_alloc ?_ _)); refine blk_far ?_ NB215_225.out _; (with_reducible repeat (first | refine blk_drewN ?_ _ | refine blk_drew ?_ | refine blk_alloc ?_ _)); refine blk_far ?_ NB215_225.out _; (with_reducible repeat (first | refine blk_drewN ?_ _ | refine blk_drew ?_ | refine blk_alloc ?_ _)); exact BK215.out) hb); have n1_ := Q0_ (blk_below (g := gb221) (o := .cells #[.int .i64 t218, .bool false] 25 (0, 0)) (by (with_reducible repeat (first | refine blk_drewN ?_ _ | refine blk_drew ?_ | refine blk_alloc ?_ _)); refine blk_far ?_ NB221_225.out _; (with_reducible repeat (first | refine blk_drewN ?_ _ | refine blk_drew ?_ | refine blk_alloc ?_ _)); refine blk_far ?_ NB221_225.out _; (with_reducible repeat (first | refine blk_drewN ?_ _ | refine blk_drew ?_ | refine blk_alloc ?_ _)); exact BK221.out) hb); have n2_ := Q0_ (blk_below (g := gb225) (o := .cells #[.int .i64 t222, .bool t223] 25 (0, 0)) (by (with_reducible repeat (first | refine blk_drewN ?_ _ | refine blk_drew ?_ | refine blk_alloc ?_ _)); refine blk_put (cs := #[.int .i64 t222, .bool false]) ?_ 1 _ rfl; (with_reducible repeat (first | refine blk_drewN ?_ _ | refine blk_drew ?_ | refine blk_alloc ?_ _)); refine blk_put (cs := #[.int .i64 0, .bool false]) ?_ 0 _ rfl; (with_reducible repeat (first | refine blk_drewN ?_ _ | refine blk_drew ?_ | refine blk_alloc ?_ _)); exact BK225.out) hb); have n3_ := Q0_ (below_step upH hb); clear BK215 BK221 BK225 HB; revert n0_ n1_ n2_ n3_; intro BK215 BK221 BK225 HB; (try clear hb); (try clear hb2); (try clear hk); (try clear hi); have hcz97_0 : w96.cell? ⟨gb215, 0, none⟩ = some (.int .i64 t213) := (blk_cell BK215.out 0).trans rfl; have hcz97_1 : w96.cell? ⟨gb215, 1, none⟩ = some (.bool false) := (blk_cell BK215.out 1).trans rfl; have hfz97_0 := blk_frozen BK215.out 0; have hfz97_1 := blk_frozen BK215.out 1; have hcz98_0 : w96.cell? ⟨gb225, 0, none⟩ = some (.int .i64 t222) := (blk_cell BK225.out 0).trans rfl; have hcz98_1 : w96.cell? ⟨gb225, 1, none⟩ = some (.bool t223) := (blk_cell BK225.out 1).trans rfl; have hfz98_0 := blk_frozen BK225.out 0; have hfz98_1 := blk_frozen BK225.out 1) | (go_at_call 15; (with_reducible refine (impl_ToneText.calls t222 t223 t228 _ ?side1 A69.out).mono ?_); (case side1 => exact GOk.sub (GOk.below HG.out upH) (by decide)); rintro e w99 ⟨rfl, hb⟩; have n0_ := Q0_ (blk_below (upK BK215) hb); have n1_ := Q0_ (blk_below (upK BK221) hb); have n2_ := Q0_ (blk_below (upK BK225) hb); have n3_ := Q0_ (below_step upH hb); clear BK215 BK221 BK225 HB; revert n0_ n1_ n2_ n3_; intro BK215 BK221 BK225 HB; (try clear hb); (try clear hb2); (try clear hk); (try clear hi); have hcz100_0 : w99.cell? ⟨gb221, 0, none⟩ = some (.int .i64 t218) := (blk_cell BK221.out 0).trans rfl; have hcz100_1 : w99.cell? ⟨gb221, 1, none⟩ = some (.bool false) := (blk_cell BK221.out 1).trans rfl; have hfz100_0 := blk_frozen BK221.out 0; have hfz100_1 := blk_frozen BK221.out 1; have hcz101_0 : w99.cell? ⟨gb215, 0, none⟩ = some (.int .i64 t213) := (blk_cell BK215.out 0).trans rfl; have hcz101_1 : w99.cell? ⟨gb215, 1, none⟩ = some (.bool false) := (blk_cell BK215.out 1).trans rfl; have hfz101_0 := blk_frozen BK215.out 0; have hfz101_1 := blk_frozen BK215.out 1; have p82 : 0 ≤ (1 : Int) := (by omega); have q82 : 1 < t228.size := (by have : (1 : Int) < (t228.size : Int) := of_decide_eq_true (by first | (with_reducible assumption) | assumption); omega); have hx82 : ∀ h : 1 < t228.size, ((t228[1]'h).toNat : Int) = bt t228 1 := bt_at t228 1; clear p82; have qi82 : (1 < (t228.size : Int)) = True := eq_true (of_decide_eq_true (by first | (with_reducible assumption) | assumption)); replace q82 := eq_true q82; have p84 : 0 ≤ (1 : Int) := (by omega); have q84 : 1 < t216.size := (by have : (1 : Int) < (t216.size : Int) := of_decide_eq_true (by first | (with_reducible assumption) | assumption); omega); have hx84 : ∀ h : 1 < t216.size, ((t216[1]'h).toNat : Int) = bt t216 1 := bt_at t216 1; clear p84; have qi84 : (1 < (t216.size : Int)) = True := eq_true (of_decide_eq_true (by first | (with_reducible assumption) | assumption)); replace q84 := eq_true q84)))
   go_ret
   exact ⟨by first | rfl | (simp [errW_none, errW_some] <;> rfl) | (simp [*, errW_none, errW_some] <;> rfl), by repeat (first | (with_reducible first | exact HB.out | apply below_alloc | apply pw_below_drewN | apply below_drew1 | refine below_set ?_ GE215.out | refine below_set ?_ GE221.out | refine below_set ?_ GE225.out) | exact HB.out)⟩
def laws_FnToneText.Pure : Prop := ∀ (l0 : List Int), l0.length ≤ maxLen → l0.length * 1 ≤ 140737488351232 → (∀ x ∈ l0, (Lit.int .u8 x).wf = true) → ∃ k, laws_FnToneText.f k l0 = some true
end Go.Proofs.YtlinjleahnccgaaDoor.E
end
section
namespace Go.Proofs.YtlinjleahnccgaaDoor.Pur
open Go.RowKit Go.Proofs.YtlinjleahnccgaaDoorW.PrintWords
def EvP {α : Type} (g : Nat → Option α) (P : α → Prop) : Prop := ∃ r, Ev g r ∧ P r
section
variable {α β : Type}
theorem EvP.bind {g : Nat → Option α} {f : Nat → α → Option β} {P : α → Prop} {Q : β → Prop} (h : EvP g P) (k : ∀ a, P a → EvP (fun n => f n a) Q) : EvP (fun n => (g n).bind (f n)) Q := by
  obtain ⟨a, ha, hp⟩ := h
  obtain ⟨b, hb, hq⟩ := k a hp
  exact ⟨b, Ev.bind ha hb, hq⟩
theorem EvP.ret {P : α → Prop} {r : α} (h : P r) : EvP (fun _ => some r) P := ⟨r, Ev.now r, h⟩
theorem EvP.con {o : Option α} {P : α → Prop} {r : α} (h : o = some r) (hp : P r) : EvP (fun _ => o) P := by subst h; exact .ret hp
theorem EvP.ite {c : Prop} [Decidable c] {f g : Nat → Option α} {P : α → Prop} (h : c → EvP f P) (k : ¬ c → EvP g P) : EvP (fun n => if c then f n else g n) P := by
  by_cases hc : c
  · obtain ⟨r, hr, hp⟩ := h hc
    exact ⟨r, Ev.congr (fun n => if_pos hc) hr, hp⟩
  · obtain ⟨r, hr, hp⟩ := k hc
    exact ⟨r, Ev.congr (fun n => if_neg hc) hr, hp⟩
theorem EvP.yes {c : Prop} [Decidable c] {f g : Nat → Option α} {P : α → Prop} (hc : c) (h : EvP f P) : EvP (fun n => if c then f n else g n) P := .ite (fun _ => h) (fun k => absurd hc k)
theorem EvP.no {c : Prop} [Decidable c] {f g : Nat → Option α} {P : α → Prop} (hc : ¬ c) (h : EvP g P) : EvP (fun n => if c then f n else g n) P := .ite (fun k => absurd k hc) (fun _ => h)
theorem EvP.step {g f : Nat → Option α} {P : α → Prop} (h : ∀ k, g (k + 1) = f k) (k : EvP f P) : EvP g P := by
  obtain ⟨r, hr, hp⟩ := k
  exact ⟨r, Ev.step h hr, hp⟩
theorem EvP.succ {g : Nat → Option α} {P : α → Prop} (k : EvP (fun n => g (n + 1)) P) : EvP g P := EvP.step (fun _ => rfl) k
theorem EvP.rounds {g : Nat → Option α} {r : α} (h : EvP g (· = r)) : ∃ k, g k = some r := by
  obtain ⟨_, hr, rfl⟩ := h
  exact hr.rounds
end
structure Hd (p : Prop) : Prop where mk :: (out : p)
theorem w64 {i : Int} (h0 : -9223372036854775808 ≤ i) (h1 : i ≤ 9223372036854775807) : wrap64 i = i := by unfold wrap64; omega
theorem tmod_pos {a : Int} (b : Int) (h : 0 ≤ a) : Int.tmod a b = a % b := Int.tmod_eq_emod_of_nonneg h
theorem tdiv_pos {a : Int} (b : Int) (h : 0 ≤ a) : Int.tdiv a b = a / b := Int.tdiv_eq_ediv_of_nonneg h
theorem toNat_nat (n : Nat) : ((n : Int)).toNat = n := rfl
theorem toNat_succ (n : Nat) : ((n : Int) + 1).toNat = n + 1 := by omega
end Go.Proofs.YtlinjleahnccgaaDoor.Pur
end
section
namespace Go.Proofs.YtlinjleahnccgaaDoor.E
open Go.RowKit Go.Proofs.YtlinjleahnccgaaDoorW.PrintWords Go.Proofs.YtlinjleahnccgaaDoorW.PrintLast Go.Proofs.YtlinjleahnccgaaDoorW.PrintMore
attribute [local go_sem] max2_int min2_int max_two min_two max_three min_three max_four min_four
set_option linter.unusedVariables false
set_option linter.unusedSimpArgs false
attribute [local go_sem] str_leq_ str_gtr_ str_geq_
def spec_MelodyValid.l0 : Nat → List (S25) → Int → Option (Bool)
 | 0, _, _ => none
 | k + 1, x0, x3 => if x3 < (x0.length : Int) then (if 0 ≤ x3 then ((spec_ToneValid.f ((rd_T25 x0 x3).f0) ((rd_T25 x0 x3).f1)).bind fun t268 => (if t268 = true then (spec_MelodyValid.l0 k x0 (wrap64 (x3 + 1))) else (some false))) else (none)) else (some (decide ((x0.length : Int) ≤ 24)))
def spec_MelodyValid.f (k : Nat) (l0 : List (S25)) : Option (Bool) := spec_MelodyValid.l0 k l0 0
end Go.Proofs.YtlinjleahnccgaaDoor.E
end
section
namespace Go.Proofs.YtlinjleahnccgaaDoor.E
open Go.RowKit Go.Proofs.YtlinjleahnccgaaDoorW.PrintWords Go.Proofs.YtlinjleahnccgaaDoorW.PrintLast Go.Proofs.YtlinjleahnccgaaDoorW.PrintMore
attribute [local go_sem] max2_int min2_int max_two min_two max_three min_three max_four min_four
set_option linter.unusedVariables false
set_option linter.unusedSimpArgs false
attribute [local go_sem] str_leq_ str_gtr_ str_geq_
def impl_MelodyValid.l0 : Nat → List (S25) → Int → Int → Option (Bool)
 | 0, _, _, _ => none
 | k + 1, x8, x9, x10 => if x10 < x9 then (if 0 ≤ x10 then (if x10 < (x8.length : Int) then ((impl_Tone_valid.f ((rd_T25 x8 x10).f0) ((rd_T25 x8 x10).f1)).bind fun t283 => (if t283 = true then (impl_MelodyValid.l0 k x8 x9 (wrap64 (x10 + 1))) else (some false))) else (none)) else (none)) else (some true)
def impl_MelodyValid.f (k : Nat) (l0 : List (S25)) : Option (Bool) := if (l0.length : Int) > 24 then (some false) else (impl_MelodyValid.l0 k l0 (l0.length : Int) 0)
end Go.Proofs.YtlinjleahnccgaaDoor.E
end
section
namespace Go.Proofs.YtlinjleahnccgaaDoor.Pur
open Go.RowKit Go.Proofs.YtlinjleahnccgaaDoorW.PrintWords Go.Proofs.YtlinjleahnccgaaDoor.E
def okT (t : S25) : Bool := decide (0 ≤ t.f0) && decide (t.f0 ≤ 20) && (!t.f1 || decide (t.f0 % 7 = 2))
def okM (l : List S25) : Bool := l.all okT && decide (l.length ≤ 24)
theorem spec_valid (t : S25) : spec_ToneValid.f t.f0 t.f1 = some (okT t) := by
  obtain ⟨s, b⟩ := t
  unfold spec_ToneValid.f spec_l6In.f spec_l1Letter.f okT
  by_cases h0 : s ≥ 0
  · rw [if_pos h0]
    by_cases h1 : s ≤ 20
    · cases b <;> simp [h0, h1, tmod_pos, Bool.beq_eq_decide_eq]
    · simp [h0, h1]
  · simp [h0]
theorem impl_valid (t : S25) : impl_Tone_valid.f t.f0 t.f1 = some (okT t) := by
  obtain ⟨s, b⟩ := t
  unfold impl_Tone_valid.f okT
  by_cases h0 : s ≥ 0
  · rw [if_pos h0]
    by_cases h1 : s ≤ 20
    · cases b <;> simp [h0, h1, tmod_pos, Bool.beq_eq_decide_eq]
    · simp [h0, h1]
  · simp [h0]
end Go.Proofs.YtlinjleahnccgaaDoor.Pur
end
section
namespace Go.Proofs.YtlinjleahnccgaaDoor.E
open Go.RowKit Go.Proofs.YtlinjleahnccgaaDoorW.PrintWords Go.Proofs.YtlinjleahnccgaaDoorW.PrintLast Go.Proofs.YtlinjleahnccgaaDoorW.PrintMore
attribute [local go_sem] max2_int min2_int max_two min_two max_three min_three max_four min_four
set_option linter.unusedVariables false
set_option linter.unusedSimpArgs false
attribute [local go_sem] str_leq_ str_gtr_ str_geq_
def spec_l1All.l0 : Nat → List (S25) → Int → Option ((List (S25)))
 | 0, _, _ => none
 | k + 1, x1, x2 => if x2 ≤ 20 then ((spec_l1Letter.f x2).bind fun t151 => (if t151 = 2 then (if x1.length < 8796093022208 then ((some (x1 ++ [(⟨x2, true⟩ : S25)] : List (S25))).bind fun y152 => (if y152.length < 8796093022208 then (spec_l1All.l0 k (y152 ++ [(⟨x2, false⟩ : S25)]) (wrap64 (x2 + 1))) else (none))) else (none)) else (if x1.length < 8796093022208 then (spec_l1All.l0 k (x1 ++ [(⟨x2, false⟩ : S25)]) (wrap64 (x2 + 1))) else (none)))) else (some x1)
def spec_l1All.f (k : Nat)  : Option ((List (S25))) := spec_l1All.l0 k (([] : List (S25))) 0
end Go.Proofs.YtlinjleahnccgaaDoor.E
end
section
namespace Go.Proofs.YtlinjleahnccgaaDoor.E
open Go.RowKit Go.Proofs.YtlinjleahnccgaaDoorW.PrintWords Go.Proofs.YtlinjleahnccgaaDoorW.PrintLast Go.Proofs.YtlinjleahnccgaaDoorW.PrintMore
attribute [local go_sem] max2_int min2_int max_two min_two max_three min_three max_four min_four
set_option linter.unusedVariables false
set_option linter.unusedSimpArgs false
attribute [local go_sem] str_leq_ str_gtr_ str_geq_
def spec_ToneFrom.l0 : Nat → ByteArray → List (S25) → Int → Option (Int × Bool × Bool)
 | 0, _, _, _ => none
 | k + 1, x0, x4, x5 => if x5 < (x4.length : Int) then (if 0 ≤ x5 then ((spec_ToneText.f k ((rd_T25 x4 x5).f0) ((rd_T25 x4 x5).f1)).bind fun t166 => (if t166.toList = x0.toList then (some ((rd_T25 x4 x5).f0, (rd_T25 x4 x5).f1, true)) else (spec_ToneFrom.l0 k x0 x4 (wrap64 (x5 + 1))))) else (none)) else (some (0, false, false))
def spec_ToneFrom.f (k : Nat) (a0 : ByteArray) : Option (Int × Bool × Bool) := (spec_l1All.f k).bind fun t162 => (spec_ToneFrom.l0 k a0 t162 0)
end Go.Proofs.YtlinjleahnccgaaDoor.E
end
section
namespace Go.Proofs.YtlinjleahnccgaaDoor.Pur
open Go.RowKit Go.Proofs.YtlinjleahnccgaaDoorW.PrintWords Go.Proofs.YtlinjleahnccgaaDoor.E
abbrev Tn := S25
def lett (s : Int) : ByteArray := lnames.getD (s % 7).toNat ByteArray.empty
def dig (s : Int) : ByteArray := ⟨#[UInt8.ofNat (48 + (s / 7).toNat)]⟩
def txt (t : Tn) : ByteArray := (if t.f1 = true then ⟨#[98]⟩ else lett t.f0) ++ dig t.f0
theorem ok_parts {t : Tn} (h : okT t = true) : 0 ≤ t.f0 ∧ t.f0 ≤ 20 ∧ (t.f1 = true → t.f0 % 7 = 2) := by
  unfold okT at h
  simp only [Bool.and_eq_true, decide_eq_true_eq, Bool.or_eq_true, Bool.not_eq_true'] at h
  obtain ⟨⟨h1, h2⟩, h3⟩ := h
  refine ⟨h1, h2, fun e => ?_⟩
  rcases h3 with h3 | h3
  · rw [e] at h3; cases h3
  · exact h3
theorem lett_size (s : Int) : (lett s).size ≤ 1 := by
  unfold lett lnames
  match (s % 7).toNat with
  | 0 => decide
  | 1 => decide
  | 2 => decide
  | 3 => decide
  | 4 => decide
  | 5 => decide
  | 6 => decide
  | _ + 7 => simp
theorem oct {s : Int} (h0 : 0 ≤ s) (h1 : s ≤ 20) : wrap64 (Int.tdiv s 7) = s / 7 := by
  rw [tdiv_pos 7 h0, w64 (by omega) (by omega)]
theorem itoa_s {s : Int} (h0 : 0 ≤ s) (h1 : s ≤ 20) : strconv_Itoa.f (wrap64 (Int.tdiv s 7)) = some (dig s) := by
  rw [oct h0 h1]
  unfold strconv_Itoa.f dig
  rw [if_pos (by omega), if_pos (by omega), Go.Lib.decDigits_one (by omega)]
theorem dec_0 : strOfNums [wrap64 (48 + 0) % 256] = ⟨#[UInt8.ofNat (48 + Int.toNat 0)]⟩ := by kernel_rfl
theorem dec_1 : strOfNums [wrap64 (48 + 1) % 256] = ⟨#[UInt8.ofNat (48 + Int.toNat 1)]⟩ := by kernel_rfl
theorem dec_2 : strOfNums [wrap64 (48 + 2) % 256] = ⟨#[UInt8.ofNat (48 + Int.toNat 2)]⟩ := by kernel_rfl
theorem dec_s {s : Int} (h0 : 0 ≤ s) (h1 : s ≤ 20) : EvP (fun k => spec_l6Dec.f k (wrap64 (Int.tdiv s 7))) (· = dig s) := by
  rw [oct h0 h1]
  refine EvP.step (fun k => rfl) (EvP.no (by omega) (EvP.no (by omega) (EvP.yes (by omega) (EvP.ret ?_))))
  unfold dig
  have h : s / 7 = 0 ∨ s / 7 = 1 ∨ s / 7 = 2 := by omega
  rcases h with h | h | h <;> rw [h]
  · exact dec_0
  · exact dec_1
  · exact dec_2
theorem impl_text {t : Tn} (h : okT t = true) : impl_Tone_text.f t.f0 t.f1 = some (txt t) := by
  obtain ⟨h0, h1, h2⟩ := ok_parts h
  unfold impl_Tone_text.f impl_Tone_letter.f
  rw [if_pos h0, itoa_s h0 h1]
  have hs : (lett t.f0).size ≤ 1 := lett_size _
  unfold txt
  unfold lett at hs ⊢
  by_cases hb : t.f1 = true
  · simp only [Option.bind_some, hb, if_true]
    exact if_pos (by rw [show (dig t.f0).size = 1 from rfl]; decide)
  · have hb' := Bool.eq_false_iff.mpr hb
    simp only [Option.bind_some, hb', Bool.false_eq_true, if_false]
    refine if_pos ?_
    have : (dig t.f0).size = 1 := rfl
    omega
theorem cut_letter : ∀ m : Nat, m < 7 → (⟨#[71, 65, 66, 67, 68, 69, 70]⟩ : ByteArray).extract m (m + 1) = lnames.getD m ByteArray.empty
  | 0, _ => by kernel_rfl
  | 1, _ => by kernel_rfl
  | 2, _ => by kernel_rfl
  | 3, _ => by kernel_rfl
  | 4, _ => by kernel_rfl
  | 5, _ => by kernel_rfl
  | 6, _ => by kernel_rfl
  | _ + 7, h => absurd h (by omega)
theorem spec_letter {t : Tn} (h : okT t = true) : spec_ToneLetter.f t.f0 t.f1 = some (lett t.f0) := by
  obtain ⟨h0, h1, h2⟩ := ok_parts h
  unfold spec_ToneLetter.f spec_l1Letter.f lett
  rw [spec_valid, h]
  simp only [Option.bind_some, if_true]
  rw [tmod_pos 7 h0]
  have hm0 : 0 ≤ t.f0 % 7 := by omega
  have hm1 : t.f0 % 7 < 7 := by omega
  generalize t.f0 % 7 = m at hm0 hm1
  obtain ⟨n, rfl⟩ := Int.eq_ofNat_of_zero_le hm0
  rw [w64 (by omega) (by omega), if_pos hm0, if_pos (by omega), if_pos (by omega), toNat_nat, toNat_succ, cut_letter n (by omega)]
theorem impl_letter {t : Tn} (h : okT t = true) : impl_ToneLetter.f t.f0 t.f1 = some (lett t.f0) := by
  obtain ⟨h0, h1, h2⟩ := ok_parts h
  unfold impl_ToneLetter.f impl_Tone_letter.f lett
  rw [impl_valid, h, if_pos h0]
  rfl
theorem impl_ttext (t : Tn) : impl_ToneText.f t.f0 t.f1 = some (if okT t = true then txt t else ⟨#[]⟩) := by
  unfold impl_ToneText.f
  rw [impl_valid]
  by_cases h : okT t = true
  · rw [h, if_pos rfl, impl_text h]; rfl
  · rw [Bool.eq_false_iff.mpr h]; rfl
theorem spec_ttext (t : Tn) : EvP (fun k => spec_ToneText.f k t.f0 t.f1) (· = (if okT t = true then txt t else ⟨#[]⟩)) := by
  simp only [spec_ToneText.f]
  refine EvP.bind (P := (· = okT t)) (EvP.con (spec_valid t) rfl) (fun _ e => ?_)
  subst e
  refine EvP.ite (fun h => ?_) (fun h => EvP.ret (by rw [if_neg h]))
  obtain ⟨h0, h1, h2⟩ := ok_parts h
  rw [if_pos h]
  unfold txt
  have hd : (dig t.f0).size = 1 := rfl
  refine EvP.ite (fun hb => ?_) (fun hb => ?_)
  · refine EvP.bind (dec_s h0 h1) (fun _ e => ?_)
    subst e
    refine EvP.yes (by omega) (EvP.ret ?_)
    rw [if_pos hb]
  · refine EvP.bind (P := (· = lett t.f0)) (EvP.con (spec_letter h) rfl) (fun _ e => ?_)
    subst e
    refine EvP.bind (dec_s h0 h1) (fun _ e => ?_)
    subst e
    have := lett_size t.f0
    refine EvP.yes (by omega) (EvP.ret ?_)
    rw [if_neg hb]
def tonesFrom : Nat → Int → List Tn
  | 0, _ => []
  | d + 1, i => (if okT ⟨i, false⟩ = true then [⟨i, false⟩] else []) ++ ((if okT ⟨i, true⟩ = true then [⟨i, true⟩] else []) ++ tonesFrom d (i + 1))
def tones : List Tn := [⟨0, false⟩, ⟨1, false⟩, ⟨2, false⟩, ⟨2, true⟩, ⟨3, false⟩, ⟨4, false⟩, ⟨5, false⟩, ⟨6, false⟩, ⟨7, false⟩, ⟨8, false⟩, ⟨9, false⟩, ⟨9, true⟩, ⟨10, false⟩, ⟨11, false⟩, ⟨12, false⟩, ⟨13, false⟩, ⟨14, false⟩, ⟨15, false⟩, ⟨16, false⟩, ⟨16, true⟩, ⟨17, false⟩, ⟨18, false⟩, ⟨19, false⟩, ⟨20, false⟩]
def stones : List Tn := [⟨0, false⟩, ⟨1, false⟩, ⟨2, true⟩, ⟨2, false⟩, ⟨3, false⟩, ⟨4, false⟩, ⟨5, false⟩, ⟨6, false⟩, ⟨7, false⟩, ⟨8, false⟩, ⟨9, true⟩, ⟨9, false⟩, ⟨10, false⟩, ⟨11, false⟩, ⟨12, false⟩, ⟨13, false⟩, ⟨14, false⟩, ⟨15, false⟩, ⟨16, true⟩, ⟨16, false⟩, ⟨17, false⟩, ⟨18, false⟩, ⟨19, false⟩, ⟨20, false⟩]
theorem tones_is : tonesFrom 21 0 = tones := by kernel_rfl
def fnd (L : List UInt8) : List Tn → Int × Bool × Bool
  | [] => (0, false, false)
  | t :: ts => if (txt t).toList = L then (t.f0, t.f1, true) else fnd L ts
theorem try_is (a0 : ByteArray) (i : Int) (b : Bool) (g : Int × Bool × Bool) : tfTry a0 i b (some g) = some (if okT ⟨i, b⟩ = true then (if (txt ⟨i, b⟩).toList = a0.toList then (i, b, true) else g) else g) := by
  unfold tfTry
  rw [show impl_Tone_valid.f i b = some (okT ⟨i, b⟩) from impl_valid ⟨i, b⟩]
  by_cases h : okT ⟨i, b⟩ = true
  · simp only [Option.bind_some, h, if_true]
    rw [show impl_Tone_text.f i b = some (txt ⟨i, b⟩) from impl_text h, Option.bind_some]
    by_cases e : (txt ⟨i, b⟩).toList = a0.toList
    · rw [if_pos e, if_pos e]
    · rw [if_neg e, if_neg e]
  · simp only [Option.bind_some, h]
    rfl
theorem loop_is (a0 : ByteArray) : ∀ (d : Nat) (i : Int), tfLoop a0 d i = some (fnd a0.toList (tonesFrom d i))
  | 0, i => rfl
  | d + 1, i => by
    unfold tfLoop tonesFrom
    rw [loop_is a0 d (i + 1), try_is, try_is]
    by_cases h1 : okT ⟨i, false⟩ = true
    · rw [if_pos h1, if_pos h1, List.singleton_append]
      simp only [fnd]
      by_cases h2 : okT ⟨i, true⟩ = true
      · rw [if_pos h2, if_pos h2, List.singleton_append]
        rfl
      · rw [if_neg h2, if_neg h2, List.nil_append]
    · rw [if_neg h1, if_neg h1, List.nil_append]
      by_cases h2 : okT ⟨i, true⟩ = true
      · rw [if_pos h2, if_pos h2, List.singleton_append]
        rfl
      · rw [if_neg h2, if_neg h2, List.nil_append]
theorem impl_from (s : ByteArray) : impl_ToneFrom.f s = some (fnd s.toList tones) := by
  unfold impl_ToneFrom.f
  rw [loop_is, tones_is]
theorem fnd_hits : ∀ t ∈ tones, fnd (txt t).toList tones = (t.f0, t.f1, true) ∧ fnd (txt t).toList stones = (t.f0, t.f1, true) := by
  have h : tones.all (fun t => decide (fnd (txt t).toList tones = (t.f0, t.f1, true)) && decide (fnd (txt t).toList stones = (t.f0, t.f1, true))) = true := by kernel_rfl
  intro t ht
  have := List.all_eq_true.mp h t ht
  rw [Bool.and_eq_true, decide_eq_true_eq, decide_eq_true_eq] at this
  exact this
theorem mem_tones {t : Tn} (h : okT t = true) : t ∈ tones := by
  obtain ⟨h0, h1, h2⟩ := ok_parts h
  obtain ⟨s, b⟩ := t
  simp only at h0 h1 h2
  obtain ⟨n, rfl⟩ := Int.eq_ofNat_of_zero_le h0
  have hn : n ≤ 20 := by omega
  cases b with
  | false =>
    have : n = 0 ∨ n = 1 ∨ n = 2 ∨ n = 3 ∨ n = 4 ∨ n = 5 ∨ n = 6 ∨ n = 7 ∨ n = 8 ∨ n = 9 ∨ n = 10 ∨ n = 11 ∨ n = 12 ∨ n = 13 ∨ n = 14 ∨ n = 15 ∨ n = 16 ∨ n = 17 ∨ n = 18 ∨ n = 19 ∨ n = 20 := by omega
    rcases this with rfl | rfl | rfl | rfl | rfl | rfl | rfl | rfl | rfl | rfl | rfl | rfl | rfl | rfl | rfl | rfl | rfl | rfl | rfl | rfl | rfl <;> simp [tones]
  | true =>
    have h3 := h2 rfl
    have : n = 2 ∨ n = 9 ∨ n = 16 := by omega
    rcases this with rfl | rfl | rfl <;> simp [tones]
end Go.Proofs.YtlinjleahnccgaaDoor.Pur
end
section
namespace Go.Proofs.YtlinjleahnccgaaDoor.Pur
open Go.RowKit Go.Proofs.YtlinjleahnccgaaDoorW.PrintWords Go.Proofs.YtlinjleahnccgaaDoor.E
def above (s k : Int) (b : Bool) : Int × Bool × Bool := if -20 ≤ k ∧ k ≤ 20 ∧ okT ⟨s + k, b⟩ = true then (s + k, b, true) else (0, false, false)
theorem impl_above {s : Int} {c : Bool} (h : okT ⟨s, c⟩ = true) (k : Int) (b : Bool) : EvP (fun n => impl_ToneAbove.f n s c k b) (· = above s k b) := by
  simp only [impl_ToneAbove.f]
  refine EvP.bind (P := (· = true)) (EvP.con (impl_valid ⟨s, c⟩) h) (fun _ e => ?_)
  subst e
  have hs : 0 ≤ s ∧ s ≤ 20 := by
    unfold okT at h
    simp only [Bool.and_eq_true, decide_eq_true_eq] at h
    exact h.1
  refine EvP.yes rfl ?_
  refine EvP.ite (fun h1 => ?_) (fun h1 => ?_)
  · refine EvP.succ ?_
    simp only [impl_ToneAbove.j0]
    refine EvP.con (if_pos trivial) ?_
    unfold above
    rw [if_neg (by omega)]
  · refine EvP.succ ?_
    simp only [impl_ToneAbove.j0]
    refine EvP.ite (fun h2 => EvP.ret ?_) (fun h2 => ?_)
    · have h3 := of_decide_eq_true h2
      unfold above
      rw [if_neg (by omega)]
    · have h3 : ¬ k > 20 := fun e => h2 (decide_eq_true e)
      have e1 : Hd (wrap64 (s + k) = s + k) := ⟨w64 (by omega) (by omega)⟩
      rw [e1.out]
      refine EvP.bind (P := (· = okT ⟨s + k, b⟩)) (EvP.con (impl_valid ⟨s + k, b⟩) rfl) (fun _ e => ?_)
      subst e
      refine EvP.ite (fun h4 => EvP.ret ?_) (fun h4 => EvP.ret ?_)
      · unfold above
        rw [if_pos ⟨by omega, by omega, h4⟩]
      · unfold above
        rw [if_neg (fun e => h4 e.2.2)]
end Go.Proofs.YtlinjleahnccgaaDoor.Pur
end
section
namespace Go.Proofs.YtlinjleahnccgaaDoor.Pur
open Go.RowKit Go.Proofs.YtlinjleahnccgaaDoorW.PrintWords Go.Proofs.YtlinjleahnccgaaDoorW.PrintMore Go.Proofs.YtlinjleahnccgaaDoor.E
def okB (B : List Int) : Prop := B.length ≤ 2000 ∧ ∀ x ∈ B, 0 ≤ x ∧ x ≤ 255
theorem byte_range {x : Int} (h : (Lit.int .u8 x).wf = true) : 0 ≤ x ∧ x ≤ 255 := by
  simp [Lit.wf, IntKind.min, IntKind.max, IntKind.signed, IntKind.bits] at h
  omega
theorem okB_rd {B : List Int} (h : okB B) (i : Int) : 0 ≤ rd B i ∧ rd B i ≤ 255 := by
  unfold rd
  rw [List.getD_eq_getElem?_getD]
  cases e : B[i.toNat]? with
  | none => simp
  | some v => simpa using h.2 v (List.mem_of_getElem? e)
theorem open_code (l : List Int) (h : ∀ x ∈ l, (Lit.int .u8 x).wf = true) : EvP (fun _ => spec_l6Open.f l) (fun r => okB r.1 ∧ r.2 = 0) := by
  unfold spec_l6Open.f
  refine EvP.ite (fun h1 => EvP.yes (by omega) (EvP.ret ⟨⟨by simp; omega, fun x hx => byte_range (h x (List.mem_of_mem_take hx))⟩, rfl⟩)) (fun h1 => EvP.ret ⟨⟨by dsimp only; omega, fun x hx => byte_range (h x hx)⟩, rfl⟩)
theorem xor_nn {x y : Int} (hx : 0 ≤ x) (hx' : x < 4611686018427387904) (hy : 0 ≤ y) (hy' : y < 4611686018427387904) : 0 ≤ Go.bits .xor .i64 x y := by
  obtain ⟨a, rfl⟩ := Int.eq_ofNat_of_zero_le hx
  obtain ⟨b, rfl⟩ := Int.eq_ofNat_of_zero_le hy
  have ha : a < 2 ^ 62 := by omega
  have hb : b < 2 ^ 62 := by omega
  have hx : a ^^^ b < 2 ^ 62 := Nat.xor_lt_two_pow ha hb
  have ea : a % 2 ^ IntKind.i64.bits = a := Nat.mod_eq_of_lt (by simp [IntKind.bits]; omega)
  have eb : b % 2 ^ IntKind.i64.bits = b := Nat.mod_eq_of_lt (by simp [IntKind.bits]; omega)
  simp only [Go.bits, BitVec.ofInt_natCast, BitVec.toNat_xor, BitVec.toNat_ofNat, ea, eb]
  rw [IntKind.wrap_i64]
  omega
theorem mix_ok (E n : Int) (h0 : 0 ≤ E) (h1 : E < 4611686018427387904) (hn : 1 ≤ n) :
    0 ≤ Int.tmod (Go.bits .xor .i64 E (wrap64 (Int.tdiv E 64))) n ∧ Int.tmod (Go.bits .xor .i64 E (wrap64 (Int.tdiv E 64))) n < n := by
  have hd : Int.tdiv E 64 = E / 64 := tdiv_pos 64 h0
  have h2 := xor_nn h0 h1 (y := wrap64 (Int.tdiv E 64)) (by rw [hd, w64 (by omega) (by omega)]; omega) (by rw [hd, w64 (by omega) (by omega)]; omega)
  exact ⟨Int.tmod_nonneg n h2, Int.tmod_lt_of_pos _ (by omega)⟩
theorem mixE (r1 r2 p q : Int) (a1 : 0 ≤ r1 ∧ r1 ≤ 255) (a2 : 0 ≤ r2 ∧ r2 ≤ 255) (hp : 0 ≤ p ∧ p ≤ 1000000000) (hq : 0 ≤ q ∧ q ≤ 1000000000) :
    (wrap64 ((wrap64 ((wrap64 ((wrap64 ((wrap64 r1) * 131)) + (wrap64 ((wrap64 r2) * 1117)))) + (wrap64 (p * 29)))) + (wrap64 ((wrap64 q) * 53)))) = r1 * 131 + r2 * 1117 + p * 29 + q * 53 := by
  rw [w64 (i := r1) (by omega) (by omega), w64 (i := r2) (by omega) (by omega), w64 (i := q) (by omega) (by omega), w64 (i := r1 * 131) (by omega) (by omega), w64 (i := r2 * 1117) (by omega) (by omega), w64 (i := p * 29) (by omega) (by omega),
    w64 (i := q * 53) (by omega) (by omega), w64 (i := r1 * 131 + r2 * 1117) (by omega) (by omega), w64 (i := r1 * 131 + r2 * 1117 + p * 29) (by omega) (by omega), w64 (by omega) (by omega)]
theorem pick_ok {B : List Int} (hB : okB B) (p n : Int) (hp : 0 ≤ p ∧ p ≤ 100000000) (hn : 1 ≤ n ∧ n ≤ 1000000) : EvP (fun k => spec_l6Rd_pick.f k B p n) (fun r => 0 ≤ r.1 ∧ r.1 < n ∧ r.2 = p + 1) := by
  unfold spec_l6Rd_pick.f
  have e1 : wrap64 (p + 1) = p + 1 := w64 (by omega) (by omega)
  have e2 : wrap64 (p + 1 - 1) = p := by rw [w64 (by omega) (by omega)]; omega
  have hl := hB.1
  rw [e1]
  refine EvP.no (by omega) ?_
  refine EvP.succ ?_
  simp only [spec_l6Rd_pick.j0, e2]
  clear e1 e2
  refine EvP.ite (fun h0 => EvP.ret ⟨by omega, by dsimp only; omega, rfl⟩) (fun h0 => ?_)
  have hpos : 0 < (B.length : Int) := by
    rw [beq_iff_eq] at h0
    omega
  refine EvP.ite (fun h1 => ?_) (fun h1 => ?_)
  · have hr := okB_rd hB p
    refine EvP.yes (by omega) (EvP.no (by omega) (EvP.ret ⟨?_, ?_, rfl⟩))
    · rw [w64 (by omega) (by omega)]; exact Int.tmod_nonneg n hr.1
    · exact Int.tmod_lt_of_pos _ (by omega)
  · refine EvP.no (by omega) ?_
    have m1 : Int.tmod p (B.length : Int) = p % (B.length : Int) := tmod_pos _ hp.1
    have hm1 : 0 ≤ Int.tmod p (B.length : Int) ∧ Int.tmod p (B.length : Int) < (B.length : Int) := by rw [m1]; exact ⟨Int.emod_nonneg _ (by omega), Int.emod_lt_of_pos _ hpos⟩
    have e3 : wrap64 ((wrap64 (p * 7)) + 3) = p * 7 + 3 := by rw [w64 (i := p * 7) (by omega) (by omega), w64 (by omega) (by omega)]
    rw [e3]
    clear e3
    have hm2 : 0 ≤ Int.tmod (p * 7 + 3) (B.length : Int) ∧ Int.tmod (p * 7 + 3) (B.length : Int) < (B.length : Int) := by rw [tmod_pos _ (by omega)]; exact ⟨Int.emod_nonneg _ (by omega), Int.emod_lt_of_pos _ hpos⟩
    have hq : 0 ≤ Int.tdiv p (B.length : Int) ∧ Int.tdiv p (B.length : Int) ≤ 1000000000 := by
      rw [tdiv_pos _ hp.1]
      have := Int.ediv_le_self (B.length : Int) hp.1
      exact ⟨Int.ediv_nonneg hp.1 (by omega), by omega⟩
    have a1 := okB_rd hB (Int.tmod p (B.length : Int))
    have a2 := okB_rd hB (Int.tmod (p * 7 + 3) (B.length : Int))
    refine EvP.yes hm1.1 (EvP.yes hm1.2 (EvP.yes hm2.1 (EvP.yes hm2.2 (EvP.no (by omega) ?_))))
    rw [mixE _ _ p _ a1 a2 (by omega) hq]
    have := mix_ok (rd B (Int.tmod p (B.length : Int)) * 131 + rd B (Int.tmod (p * 7 + 3) (B.length : Int)) * 1117 + p * 29 + Int.tdiv p (B.length : Int) * 53) n (by omega) (by omega) hn.1
    exact EvP.ret ⟨this.1, this.2, rfl⟩
end Go.Proofs.YtlinjleahnccgaaDoor.Pur
end
section
namespace Go.Proofs.YtlinjleahnccgaaDoor.E
open Go.RowKit Go.Proofs.YtlinjleahnccgaaDoorW.PrintWords Go.Proofs.YtlinjleahnccgaaDoorW.PrintLast Go.Proofs.YtlinjleahnccgaaDoorW.PrintMore
attribute [local go_sem] max2_int min2_int max_two min_two max_three min_three max_four min_four
set_option linter.unusedVariables false
set_option linter.unusedSimpArgs false
attribute [local go_sem] str_leq_ str_gtr_ str_geq_
def spec_l6Rd_of.f (k : Nat) (s0_0 : List Int) (s0_1 : Int) (l1 : List ByteArray) : Option (ByteArray × Int) := (spec_l6Rd_pick.f k s0_0 s0_1 (l1.length : Int)).bind fun bt229 => (if 0 ≤ bt229.1 then (if bt229.1 < (l1.length : Int) then (some (rdOf ByteArray.empty l1 bt229.1, bt229.2)) else (none)) else (none))
end Go.Proofs.YtlinjleahnccgaaDoor.E
end
section
namespace Go.Proofs.YtlinjleahnccgaaDoor.E
open Go.RowKit Go.Proofs.YtlinjleahnccgaaDoorW.PrintWords Go.Proofs.YtlinjleahnccgaaDoorW.PrintLast Go.Proofs.YtlinjleahnccgaaDoorW.PrintMore
attribute [local go_sem] max2_int min2_int max_two min_two max_three min_three max_four min_four
set_option linter.unusedVariables false
set_option linter.unusedSimpArgs false
attribute [local go_sem] str_leq_ str_gtr_ str_geq_
def laws_toTone.f (a0_0 : Int) (a0_1 : Bool) : Option (Int × Bool) := some (a0_0, a0_1)
end Go.Proofs.YtlinjleahnccgaaDoor.E
end
section
namespace Go.Proofs.YtlinjleahnccgaaDoor.E
open Go.RowKit Go.Proofs.YtlinjleahnccgaaDoorW.PrintWords Go.Proofs.YtlinjleahnccgaaDoorW.PrintLast Go.Proofs.YtlinjleahnccgaaDoorW.PrintMore
attribute [local go_sem] max2_int min2_int max_two min_two max_three min_three max_four min_four
set_option linter.unusedVariables false
set_option linter.unusedSimpArgs false
attribute [local go_sem] str_leq_ str_gtr_ str_geq_
def laws_FnExactToneLetter.f (a0_0 : Int) (a0_1 : Bool) : Option (Bool) := (laws_toTone.f a0_0 a0_1).bind fun bt115 => ((spec_ToneLetter.f bt115.1 bt115.2).bind fun t117 => ((laws_toTone.f a0_0 a0_1).bind fun bt118 => ((impl_ToneLetter.f bt118.1 bt118.2).bind fun t120 => (if t120.toList = t117.toList then (some true) else (none)))))
end Go.Proofs.YtlinjleahnccgaaDoor.E
end
section
namespace Go.Proofs.YtlinjleahnccgaaDoor.E
open Go.RowKit Go.Proofs.YtlinjleahnccgaaDoorW.PrintWords Go.Proofs.YtlinjleahnccgaaDoorW.PrintLast Go.Proofs.YtlinjleahnccgaaDoorW.PrintMore
attribute [local go_sem] max2_int min2_int max_two min_two max_three min_three max_four min_four
set_option linter.unusedVariables false
set_option linter.unusedSimpArgs false
attribute [local go_sem] str_leq_ str_gtr_ str_geq_
def laws_FnExactToneText.f (k : Nat) (a0_0 : Int) (a0_1 : Bool) : Option (Bool) := (laws_toTone.f a0_0 a0_1).bind fun bt142 => ((spec_ToneText.f k bt142.1 bt142.2).bind fun t144 => ((laws_toTone.f a0_0 a0_1).bind fun bt145 => ((impl_ToneText.f bt145.1 bt145.2).bind fun t147 => (if t147.toList = t144.toList then (some true) else (none)))))
end Go.Proofs.YtlinjleahnccgaaDoor.E
end
section
namespace Go.Proofs.YtlinjleahnccgaaDoor.E
open Go.RowKit Go.Proofs.YtlinjleahnccgaaDoorW.PrintWords Go.Proofs.YtlinjleahnccgaaDoorW.PrintLast Go.Proofs.YtlinjleahnccgaaDoorW.PrintMore
attribute [local go_sem] max2_int min2_int max_two min_two max_three min_three max_four min_four
set_option linter.unusedVariables false
set_option linter.unusedSimpArgs false
attribute [local go_sem] str_leq_ str_gtr_ str_geq_
def laws_eqTone.f (a0_0 : Int) (a0_1 : Bool) (a1_0 : Int) (a1_1 : Bool) : Option (Bool) := if a0_0 = a1_0 then (if (a0_1 != a1_1) = true then (some false) else (some true)) else (some false)
end Go.Proofs.YtlinjleahnccgaaDoor.E
end
section
namespace Go.Proofs.YtlinjleahnccgaaDoor.E
open Go.RowKit Go.Proofs.YtlinjleahnccgaaDoorW.PrintWords Go.Proofs.YtlinjleahnccgaaDoorW.PrintLast Go.Proofs.YtlinjleahnccgaaDoorW.PrintMore
attribute [local go_sem] max2_int min2_int max_two min_two max_three min_three max_four min_four
set_option linter.unusedVariables false
set_option linter.unusedSimpArgs false
attribute [local go_sem] str_leq_ str_gtr_ str_geq_
def laws_FnExactToneFrom.f (k : Nat) (a0 : ByteArray) : Option (Bool) := if (a0.size : Int) > 1048576 then (some true) else ((spec_ToneFrom.f k a0).bind fun bt170 => ((impl_ToneFrom.f a0).bind fun bt174 => ((laws_eqTone.f bt174.1 bt174.2.1 bt170.1 bt170.2.1).bind fun t178 => (if t178 = true then (if (bt174.2.2 != bt170.2.2) = true then (none) else (some true)) else (none)))))
def laws_FnExactToneFrom.Pure : Prop := ∀ (a0 : ByteArray), a0.size ≤ 140737488351232 → ∃ k, laws_FnExactToneFrom.f k a0 = some true
end Go.Proofs.YtlinjleahnccgaaDoor.E
end
section
namespace Go.Proofs.YtlinjleahnccgaaDoor.E
open Go.RowKit Go.Proofs.YtlinjleahnccgaaDoorW.PrintWords Go.Proofs.YtlinjleahnccgaaDoorW.PrintLast Go.Proofs.YtlinjleahnccgaaDoorW.PrintMore
attribute [local go_sem] max2_int min2_int max_two min_two max_three min_three max_four min_four
set_option linter.unusedVariables false
set_option linter.unusedSimpArgs false
attribute [local go_sem] str_leq_ str_gtr_ str_geq_
def spec_DrawToneFrom.f (k : Nat) (l0 : List Int) : Option (ByteArray) := (spec_l6Open.f l0).bind fun bt232 => ((spec_l6Rd_pick.f k bt232.1 bt232.2 4).bind fun bt235 => (if bt235.1 = 0 then ((spec_l6Rd_of.f k bt232.1 bt235.2 (([(⟨#[]⟩ : ByteArray), (⟨#[71]⟩ : ByteArray), (⟨#[71, 51]⟩ : ByteArray), (⟨#[72, 48]⟩ : ByteArray), (⟨#[98, 50]⟩ : ByteArray), (⟨#[66, 50]⟩ : ByteArray), (⟨#[99, 49]⟩ : ByteArray), (⟨#[70, 50]⟩ : ByteArray), (⟨#[71, 48, 32]⟩ : ByteArray), (⟨#[98, 48]⟩ : ByteArray)] : List ByteArray))).bind fun bt240 => (some bt240.1)) else ((spec_l91Tone.f k bt232.1 bt235.2).bind fun bt242 => ((spec_ToneText.f k bt242.1 bt242.2.1).bind fun t245 => (some t245)))))
end Go.Proofs.YtlinjleahnccgaaDoor.E
end
section
namespace Go.Proofs.YtlinjleahnccgaaDoor.E
open Go.RowKit Go.Proofs.YtlinjleahnccgaaDoorW.PrintWords Go.Proofs.YtlinjleahnccgaaDoorW.PrintLast Go.Proofs.YtlinjleahnccgaaDoorW.PrintMore
attribute [local go_sem] max2_int min2_int max_two min_two max_three min_three max_four min_four
set_option linter.unusedVariables false
set_option linter.unusedSimpArgs false
attribute [local go_sem] str_leq_ str_gtr_ str_geq_
def impl_ToneValid.f (a0_0 : Int) (a0_1 : Bool) : Option (Bool) := (impl_Tone_valid.f a0_0 a0_1).bind fun t247 => (some t247)
end Go.Proofs.YtlinjleahnccgaaDoor.E
end
section
namespace Go.Proofs.YtlinjleahnccgaaDoor.E
open Go.RowKit Go.Proofs.YtlinjleahnccgaaDoorW.PrintWords Go.Proofs.YtlinjleahnccgaaDoorW.PrintLast Go.Proofs.YtlinjleahnccgaaDoorW.PrintMore
attribute [local go_sem] max2_int min2_int max_two min_two max_three min_three max_four min_four
set_option linter.unusedVariables false
set_option linter.unusedSimpArgs false
attribute [local go_sem] str_leq_ str_gtr_ str_geq_
theorem eqA25 (d : Nat) (w : World) (x0 y0 : Int) (x1 y1 : Bool) :
  (Op.equalIn (d + 2) 25 (.agg #[.int .i64 x0, .bool x1]) (.agg #[.int .i64 y0, .bool y1])).run Tryd.prog w = .ok (x0 == y0 && (x1 == y1)) w := by
 refine eqA_of Tryd.underlying25 (by kernel_rfl) ?_
 refine eqf_cons (by rfl) (by go_simp; rfl) (by go_simp; rfl) (by go_simp) ?_
 exact eqf_last (by rfl) (by go_simp; rfl) (by go_simp; rfl) (by go_simp)
end Go.Proofs.YtlinjleahnccgaaDoor.E
end
section
namespace Go.Proofs.YtlinjleahnccgaaDoor.E
open Go.RowKit Go.Proofs.YtlinjleahnccgaaDoorW.PrintWords Go.Proofs.YtlinjleahnccgaaDoorW.PrintLast Go.Proofs.YtlinjleahnccgaaDoorW.PrintMore
attribute [local go_sem] max2_int min2_int max_two min_two max_three min_three max_four min_four
set_option linter.unusedVariables false
set_option linter.unusedSimpArgs false
attribute [local go_sem high] eqA25
attribute [local go_sem] str_leq_ str_gtr_ str_geq_
def laws_FnToneFrom.j0 : Nat → ByteArray → Bool → Bool → Bool → Int → Bool → Int → Bool → Option (Bool)
 | 0, _, _, _, _, _, _, _, _ => none
 | k + 1, x3, x5, x7, x38, x253000, x253001, x257000, x257001 => if x38 = true then (if (x5 == x7) = true then (some (x253000 == x257000 && (x253001 == x257001))) else (none)) else (if x3.size + 1 ≤ 9223372036854775807 then ((impl_ToneFrom.f (x3 ++ (⟨#[32]⟩ : ByteArray))).bind fun bt257 => (if 0 ≤ (wrap64 ((x3.size : Int) - 1)) then (if (wrap64 ((x3.size : Int) - 1)) ≤ (x3.size : Int) then ((impl_ToneFrom.f (x3.extract 0 ((wrap64 ((x3.size : Int) - 1)) : Int).toNat)).bind fun bt261 => ((impl_ToneValid.f x253000 x253001).bind fun t265 => (if t265 = true then ((impl_ToneText.f x253000 x253001).bind fun t266 => (if t266.toList = x3.toList then (if bt257.2.2 = true then (none) else (some (!bt261.2.2))) else (none))) else (none)))) else (none)) else (none))) else (none))
def laws_FnToneFrom.f (k : Nat) (l0 : List Int) : Option (Bool) := if (l0.length : Int) > 1048576 then (some true) else ((spec_DrawToneFrom.f k l0).bind fun t248 => ((impl_ToneFrom.f t248).bind fun bt249 => ((spec_ToneFrom.f k t248).bind fun bt253 => (if (bt249.2.2 != bt253.2.2) = true then (laws_FnToneFrom.j0 k t248 bt249.2.2 bt253.2.2 true bt249.1 bt249.2.1 bt253.1 bt253.2.1) else (if (!(bt249.1 == bt253.1) || (!(bt249.2.1 == bt253.2.1))) = true then (laws_FnToneFrom.j0 k t248 bt249.2.2 bt253.2.2 true bt249.1 bt249.2.1 bt253.1 bt253.2.1) else (laws_FnToneFrom.j0 k t248 bt249.2.2 bt253.2.2 (!bt249.2.2) bt249.1 bt249.2.1 bt253.1 bt253.2.1))))))
def laws_FnToneFrom.Pure : Prop := ∀ (l0 : List Int), l0.length ≤ maxLen → l0.length * 1 ≤ 140737488351232 → (∀ x ∈ l0, (Lit.int .u8 x).wf = true) → ∃ k, laws_FnToneFrom.f k l0 = some true
end Go.Proofs.YtlinjleahnccgaaDoor.E
end
section
namespace Go.Proofs.YtlinjleahnccgaaDoor.Pur
open Go.RowKit Go.Proofs.YtlinjleahnccgaaDoorW.PrintWords Go.Proofs.YtlinjleahnccgaaDoorW.PrintMore Go.Proofs.YtlinjleahnccgaaDoor.E
theorem draw_tone {B : List Int} (hB : okB B) (p : Int) (hp : 0 ≤ p ∧ p ≤ 100000) : EvP (fun k => spec_l91Tone.f k B p) (fun _ => True) := by
  simp only [spec_l91Tone.f]
  refine EvP.bind (pick_ok hB p 40 ⟨hp.1, by omega⟩ (by omega)) (fun r hr => ?_)
  refine EvP.ite (fun _ => ?_) (fun _ => ?_)
  · refine EvP.bind (P := (· = [(-1), 21, 20, 0])) (EvP.con rfl rfl) (fun _ e => ?_)
    subst e
    refine EvP.bind (pick_ok hB r.2 4 ⟨by omega, by omega⟩ (by omega)) (fun q hq => ?_)
    exact EvP.yes hq.1 (EvP.yes (by simp; omega) (EvP.ret trivial))
  refine EvP.ite (fun _ => ?_) (fun _ => ?_)
  · refine EvP.bind (pick_ok hB r.2 21 ⟨by omega, by omega⟩ (by omega)) (fun q hq => EvP.ret trivial)
  · refine EvP.bind (pick_ok hB r.2 11 ⟨by omega, by omega⟩ (by omega)) (fun q hq => ?_)
    refine EvP.bind (P := fun _ => True) (EvP.con (show spec_l1Letter.f _ = some _ from rfl) trivial) (fun _ _ => ?_)
    refine EvP.ite (fun _ => ?_) (fun _ => EvP.ret trivial)
    exact EvP.bind (pick_ok hB q.2 2 ⟨by omega, by omega⟩ (by omega)) (fun _ _ => EvP.ret trivial)
theorem draw_text (l : List Int) (h : ∀ x ∈ l, (Lit.int .u8 x).wf = true) : EvP (fun k => spec_DrawToneText.f k l) (fun _ => True) := by
  simp only [spec_DrawToneText.f]
  refine EvP.bind (open_code l h) (fun r hr => ?_)
  exact EvP.bind (draw_tone hr.1 r.2 (by omega)) (fun _ _ => EvP.ret trivial)
theorem nil_nil : ((⟨#[]⟩ : ByteArray).toList == ([] : List UInt8)) = true := by kernel_rfl
theorem law_text (l : List Int) (_ : (l.length : Int) ≤ 9223372036854775807) (h : ∀ x ∈ l, (Lit.int .u8 x).wf = true) : ∃ k, laws_FnToneText.f k l = some true := by
  refine EvP.rounds ?_
  simp only [laws_FnToneText.f]
  refine EvP.ite (fun _ => EvP.ret rfl) (fun _ => ?_)
  refine EvP.bind (draw_text l h) (fun r _ => ?_)
  obtain ⟨s, b⟩ := r
  refine EvP.bind (P := (· = (if okT ⟨s, b⟩ = true then txt ⟨s, b⟩ else ⟨#[]⟩))) (EvP.con (impl_ttext ⟨s, b⟩) rfl) (fun _ e => ?_)
  subst e
  refine EvP.bind (spec_ttext ⟨s, b⟩) (fun _ e => ?_)
  subst e
  refine EvP.yes rfl ?_
  by_cases hok : okT ⟨s, b⟩ = true
  · rw [if_pos hok]
    have hm := mem_tones hok
    refine EvP.succ ?_
    simp only [laws_FnToneText.j0]
    refine EvP.no ?_ ?_
    · have : tones.all (fun t => !((txt t).toList == ([] : List UInt8))) = true := by kernel_rfl
      have := List.all_eq_true.mp this _ hm
      simpa using this
    refine EvP.bind (P := (· = (s, b, true))) (EvP.con (impl_from _) (fnd_hits _ hm).1) (fun _ e => ?_)
    subst e
    refine EvP.bind (impl_above hok 7 b) (fun _ e => ?_)
    subst e
    refine EvP.bind (P := (· = lett s)) (EvP.con (impl_letter hok) rfl) (fun _ e => ?_)
    subst e
    have ht := impl_ttext ⟨(above s 7 b).1, (above s 7 b).2.1⟩
    simp only at ht ⊢
    rw [ht]
    clear ht
    refine EvP.con (r := true) ?_ rfl
    clear hok
    simp only [tones, List.mem_cons, List.not_mem_nil, or_false] at hm
    rcases hm with e | e | e | e | e | e | e | e | e | e | e | e | e | e | e | e | e | e | e | e | e | e | e | e <;> cases e <;> kernel_rfl
  · rw [if_neg hok]
    refine EvP.succ ?_
    simp only [laws_FnToneText.j0]
    exact EvP.yes nil_nil (EvP.ret (beq_self_eq_true _))
end Go.Proofs.YtlinjleahnccgaaDoor.Pur
end
section
namespace Go.Proofs.YtlinjleahnccgaaDoor.Head
set_option maxRecDepth 100000
theorem and_t {a b : Bool} (h : a = true) (k : b = true) : (a && b) = true := by rw [h, k]; rfl
theorem mayEnter_of {P : Program} {l : List String} {W rest : List (List Char)} (h : behindMainWord (wordsSigns P.initOrder.toList) = W) (hc : ∃ c r, W = c :: r ∧ (c == "gc".toList || c == "spec".toList) = false ∧ (c == "carried".toList) = false) (hs : stripLifts liftWords W = (l, "cut".toList :: rest))
    (hl : (l.contains "finals" || !P.laysLater) = true) (hb : (l.contains "reflectrows" || !P.bearsReflect) = true) (hr : (l.contains "reflectrows" || !l.contains "leanrows") = true) (hd : P.doorFits l = true) : P.mayEnter = true := by
  obtain ⟨c, r, rfl, h1, h2⟩ := hc
  unfold Program.mayEnter
  rw [h]
  dsimp only
  rw [hs, hl, hb, hr, hd, h1, h2]
  simp
theorem headLifts_of {P : Program} {l : List String} {W rest : List (List Char)} (h : behindMainWord (wordsSigns P.initOrder.toList) = W) (hs : stripLifts liftWords W = (l, "cut".toList :: rest)) : P.headLifts = l := by
  unfold Program.headLifts
  rw [h]
  dsimp only
  rw [hs]
  simp
theorem liftsFinal_of {P : Program} {l : List String} {W rest : List (List Char)} (h : behindMainWord (wordsSigns P.initOrder.toList) = W) (hc : ∃ c r, W = c :: r ∧ (c == "gc".toList || c == "spec".toList) = false ∧ (c == "carried".toList) = false) (hs : stripLifts liftWords W = (l, "cut".toList :: rest)) : P.liftsFinal = l.contains "finals" := by
  unfold Program.liftsFinal
  rw [headLifts_of h hs, h]
  obtain ⟨c, r, rfl, h1, h2⟩ := hc
  have h3 : ((c :: r).head? == some "carried".toList) = false := by
    rw [beq_eq_false_iff_ne] at h2 ⊢
    exact fun e => h2 (Option.some.inj e)
  dsimp only
  rw [h3, Bool.false_and, Bool.false_or]
theorem make_of {P : Program} {rest : List (List Char)} (h : behindMainWord (wordsSigns P.initOrder.toList) = "cut".toList :: rest) : P.make = some .cut := by
  unfold Program.make
  rw [h]
  dsimp only
  rw [if_neg (by decide), if_pos (by simp)]
theorem mainIs_of {P : Program} {s : List Char} {rest : List (List Char)} (h : wordsSigns P.initOrder.toList = "harness".toList :: s :: rest) (hs : isSumSigns s = true) : P.mainIs = some (true, s) := by
  unfold Program.mainIs
  rw [h]
  dsimp only
  rw [hs]
  simp
def io : List Nat := [104, 97, 114, 110, 101, 115, 115, 32, 98, 101, 49, 57, 49, 50, 55, 99, 99, 48, 99, 52, 52, 56, 99, 55, 56, 57, 99, 97, 98, 97, 54, 57, 98, 97, 102, 102, 51, 56, 56, 54, 56, 97, 49, 50, 102, 102, 52, 99, 54, 100, 98, 97, 50, 101, 54, 52, 99, 52, 55, 99, 49, 50, 53, 49, 98, 48, 49, 49, 55, 100, 52, 55, 32, 99, 117, 116, 32, 97, 116, 32, 108, 111, 111, 112, 46, 101, 120, 97, 109, 112, 108, 101, 47, 110, 101, 117, 109, 101, 115, 47, 108, 97, 119, 115, 46, 70, 110, 69, 120, 97, 99, 116, 84, 111, 110, 101, 76, 101, 116, 116, 101, 114, 32, 108, 111, 111, 112, 46, 101, 120, 97, 109, 112, 108, 101, 47, 110, 101, 117, 109, 101, 115, 47, 108, 97, 119, 115, 46, 70, 110, 69, 120, 97, 99, 116, 84, 111, 110, 101, 84, 101, 120, 116, 32, 108, 111, 111, 112, 46, 101, 120, 97, 109, 112, 108, 101, 47, 110, 101, 117, 109, 101, 115, 47, 108, 97, 119, 115, 46, 70, 110, 69, 120, 97, 99, 116, 84, 111, 110, 101, 70, 114, 111, 109, 32, 108, 111, 111, 112, 46, 101, 120, 97, 109, 112, 108, 101, 47, 110, 101, 117, 109, 101, 115, 47, 108, 97, 119, 115, 46, 70, 110, 84, 111, 110, 101, 84, 101, 120, 116, 32, 108, 111, 111, 112, 46, 101, 120, 97, 109, 112, 108, 101, 47, 110, 101, 117, 109, 101, 115, 47, 108, 97, 119, 115, 46, 70, 110, 84, 111, 110, 101, 70, 114, 111, 109, 32, 108, 111, 111, 112, 46, 101, 120, 97, 109, 112, 108, 101, 47, 110, 101, 117, 109, 101, 115, 47, 108, 97, 119, 115, 46, 70, 110, 69, 120, 97, 99, 116, 77, 101, 108, 111, 100, 121, 84, 101, 120, 116, 32, 108, 111, 111, 112, 46, 101, 120, 97, 109, 112, 108, 101, 47, 110, 101, 117, 109, 101, 115, 47, 108, 97, 119, 115, 46, 70, 110, 69, 120, 97, 99, 116, 77, 101, 108, 111, 100, 121, 70, 114, 111, 109, 32, 108, 111, 111, 112, 46, 101, 120, 97, 109, 112, 108, 101, 47, 110, 101, 117, 109, 101, 115, 47, 108, 97, 119, 115, 46, 70, 110, 77, 101, 108, 111, 100, 121, 77, 111, 118, 101, 79, 99, 116, 97, 118, 101]
def ws : List (List Nat) := [[104, 97, 114, 110, 101, 115, 115], [98, 101, 49, 57, 49, 50, 55, 99, 99, 48, 99, 52, 52, 56, 99, 55, 56, 57, 99, 97, 98, 97, 54, 57, 98, 97, 102, 102, 51, 56, 56, 54, 56, 97, 49, 50, 102, 102, 52, 99, 54, 100, 98, 97, 50, 101, 54, 52, 99, 52, 55, 99, 49, 50, 53, 49, 98, 48, 49, 49, 55, 100, 52, 55], [99, 117, 116], [97, 116], [108, 111, 111, 112, 46, 101, 120, 97, 109, 112, 108, 101, 47, 110, 101, 117, 109, 101, 115, 47, 108, 97, 119, 115, 46, 70, 110, 69, 120, 97, 99, 116, 84, 111, 110, 101, 76, 101, 116, 116, 101, 114], [108, 111, 111, 112, 46, 101, 120, 97, 109, 112, 108, 101, 47, 110, 101, 117, 109, 101, 115, 47, 108, 97, 119, 115, 46, 70, 110, 69, 120, 97, 99, 116, 84, 111, 110, 101, 84, 101, 120, 116], [108, 111, 111, 112, 46, 101, 120, 97, 109, 112, 108, 101, 47, 110, 101, 117, 109, 101, 115, 47, 108, 97, 119, 115, 46, 70, 110, 69, 120, 97, 99, 116, 84, 111, 110, 101, 70, 114, 111, 109], [108, 111, 111, 112, 46, 101, 120, 97, 109, 112, 108, 101, 47, 110, 101, 117, 109, 101, 115, 47, 108, 97, 119, 115, 46, 70, 110, 84, 111, 110, 101, 84, 101, 120, 116], [108, 111, 111, 112, 46, 101, 120, 97, 109, 112, 108, 101, 47, 110, 101, 117, 109, 101, 115, 47, 108, 97, 119, 115, 46, 70, 110, 84, 111, 110, 101, 70, 114, 111, 109], [108, 111, 111, 112, 46, 101, 120, 97, 109, 112, 108, 101, 47, 110, 101, 117, 109, 101, 115, 47, 108, 97, 119, 115, 46, 70, 110, 69, 120, 97, 99, 116, 77, 101, 108, 111, 100, 121, 84, 101, 120, 116], [108, 111, 111, 112, 46, 101, 120, 97, 109, 112, 108, 101, 47, 110, 101, 117, 109, 101, 115, 47, 108, 97, 119, 115, 46, 70, 110, 69, 120, 97, 99, 116, 77, 101, 108, 111, 100, 121, 70, 114, 111, 109], [108, 111, 111, 112, 46, 101, 120, 97, 109, 112, 108, 101, 47, 110, 101, 117, 109, 101, 115, 47, 108, 97, 119, 115, 46, 70, 110, 77, 101, 108, 111, 100, 121, 77, 111, 118, 101, 79, 99, 116, 97, 118, 101]]
def ch (w : List Nat) : List Char := w.map Char.ofNat
theorem io_is : Tryd.prog.initOrder = String.ofList (ch io) := by kernel_rfl
theorem io_ws : wordsSigns (ch io) = ws.map ch := by kernel_rfl
theorem io_all : wordsSigns Tryd.prog.initOrder.toList = ws.map ch := by rw [io_is, String.toList_ofList, io_ws]
theorem be : behindMainWord (ws.map ch) = (ws.drop 2).map ch := by kernel_rfl
theorem io_be : behindMainWord (wordsSigns Tryd.prog.initOrder.toList) = (ws.drop 2).map ch := by rw [io_all, be]
theorem first : ∃ c r, (ws.drop 2).map ch = c :: r ∧ (c == "gc".toList || c == "spec".toList) = false ∧ (c == "carried".toList) = false := ⟨ch (ws.getD 2 []), (ws.drop 3).map ch, by kernel_rfl, by kernel_rfl, by kernel_rfl⟩
theorem st : stripLifts liftWords ((ws.drop 2).map ch) = ([], "cut".toList :: ((ws.drop 3).map ch)) := by kernel_rfl
theorem ll : ([].contains "finals" || !Tryd.prog.laysLater) = true := by kernel_rfl
theorem br : ([].contains "reflectrows" || !Tryd.prog.bearsReflect) = true := by kernel_rfl
theorem rr : ([].contains "reflectrows" || ![].contains "leanrows") = true := by kernel_rfl
theorem df : Tryd.prog.doorFits [] = true := by kernel_rfl
theorem mayE : Tryd.prog.mayEnter = true := mayEnter_of io_be first st ll br rr df
theorem finE : Tryd.prog.liftsFinal = [].contains "finals" := liftsFinal_of io_be first st
theorem mainE : Tryd.prog.mainIs = some (true, ch [98, 101, 49, 57, 49, 50, 55, 99, 99, 48, 99, 52, 52, 56, 99, 55, 56, 57, 99, 97, 98, 97, 54, 57, 98, 97, 102, 102, 51, 56, 56, 54, 56, 97, 49, 50, 102, 102, 52, 99, 54, 100, 98, 97, 50, 101, 54, 52, 99, 52, 55, 99, 49, 50, 53, 49, 98, 48, 49, 49, 55, 100, 52, 55]) := mainIs_of (rest := (ws.drop 2).map ch) (io_all.trans (by kernel_rfl)) (by kernel_rfl)
theorem makeE : Tryd.prog.make = some .cut := make_of (io_be.trans (by kernel_rfl : (ws.drop 2).map ch = "cut".toList :: ((ws.drop 3).map ch)))
end Go.Proofs.YtlinjleahnccgaaDoor.Head
end
section
namespace Go.Proofs.YtlinjleahnccgaaDoor.Pur
open Go.RowKit Go.ChangeShapes Go.Deep Go.Proofs.YtlinjleahnccgaaDoorW.PrintWords Go.Proofs.YtlinjleahnccgaaDoor.E
theorem open_rowP {P : Program} {H : Type} {enc : TypeId × Value → H} {W : World} {α : Type} [Inhabited α] {d : Kd α} {p : α → Prop} {t e : TypeId} {fuel : Nat} {cs : List Value} {x : DataW H × List MemPlace} (ht : P.underlying t = some (.slice e)) (hc : P.cellsOf e = d.sz)
    (o : ∀ (fuel : Nat) (cs : List Value) (x : DataW H × List MemPlace), DataW.trod enc P W 0 (fun _ => true) true fuel e cs = some x → ∃ y, d.K W y cs ∧ p y)
    (h : DataW.trod enc P W 0 (fun _ => true) true fuel t cs = some x) : ∃ (A : Option Addr) (c : Nat) (l : List α), cs = [.slice A l.length c] ∧ l.length ≤ c ∧ (l.length : Int) ≤ 9223372036854775807 ∧ d.C W A l.length l ∧ ∀ y ∈ l, p y := by
  rcases open_slice ht h with ⟨rfl, _⟩ | ⟨a, len, cap, m, n, D, Pl, rfl, _, hl, hm, hmm, _, hx⟩
  · exact ⟨none, 0, [], rfl, Nat.le_refl _, by simp, ⟨rfl, by simp, fun h => absurd h (by simp)⟩, fun y hy => by cases hy⟩
  · have hlm : len ≤ m := by rw [hmm]; simp; omega
    unfold maxLen at hm
    obtain ⟨Y, hY⟩ := choose_lt (α := α) (n := len) (p := fun i y => ∃ cs', W.cells? 0 (a.add (i * P.cellsOf e)) (P.cellsOf e) = some cs' ∧ d.K W y cs' ∧ p y) (fun i hi => by
      obtain ⟨cs', h1, h2⟩ := hx i (by omega)
      obtain ⟨y, hy, hp⟩ := o _ _ _ h2
      exact ⟨y, cs', h1, hy, hp⟩)
    have hlen : ((List.range len).map Y).length = len := by simp
    refine ⟨some a, cap, (List.range len).map Y, by rw [hlen], by rw [hlen]; exact hl, by rw [hlen]; omega, ⟨rfl, by rw [hlen]; omega, fun _ => ⟨a, rfl, fun j q hj => ?_⟩⟩, fun y hy => ?_⟩
    · obtain ⟨hj1, hj2⟩ := List.getElem?_eq_some_iff.1 hj
      rw [hlen] at hj1
      simp only [List.getElem_map, List.getElem_range] at hj2
      subst hj2
      obtain ⟨cs', h1, h2, _⟩ := hY j hj1
      obtain ⟨_, g1, g2⟩ := World.cells?_some h1
      refine ⟨cs', by rw [g1, hc], h2, fun i u hu => ?_⟩
      have := g2 i (by rw [← g1]; exact (List.getElem?_eq_some_iff.1 hu).1)
      rw [Go.Deep.add_add, hc, hu] at this
      exact this
    · obtain ⟨j, hj, rfl⟩ := List.mem_map.mp hy
      obtain ⟨_, _, _, hp⟩ := hY j (List.mem_range.mp hj)
      exact hp
theorem open_intsR {P : Program} {H : Type} {enc : TypeId × Value → H} {W : World} {k : IntKind} {t e : TypeId} {fuel : Nat} {cs : List Value} {x : DataW H × List MemPlace} (ht : P.underlying t = some (.slice e)) (he : P.underlying e = some (.int k)) (hc : P.cellsOf e = 1) (h : DataW.trod enc P W 0 (fun _ => true) true fuel t cs = some x) :
    ∃ (A : Option Addr) (c : Nat) (l : List Int), cs = [.slice A l.length c] ∧ l.length ≤ c ∧ (l.length : Int) ≤ 9223372036854775807 ∧ (Kd.int k).C W A l.length l ∧ ∀ y ∈ l, (Lit.int k y).wf = true :=
  open_rowP ht hc (fun fuel cs x h => by
    obtain ⟨s, rfl, _, hs⟩ := DataW.trod_int he h
    exact ⟨s, rfl, hs⟩) h
end Go.Proofs.YtlinjleahnccgaaDoor.Pur
end
section
namespace Go.Proofs.YtlinjleahnccgaaDoor.Pur
open Go
variable {H : Type} {enc : TypeId × Value → H}
theorem handed_shaped_and {a : Assume} {C : Checked} {os : Os} {f : FuncId} {fn : Func} {s : ChangeSpec} {conds : List PathCond} {apart fresh handsOn again : Bool} {X : World → Array Value → Prop}
    (hX : ∀ (w w' : World) (args : Array Value), w.heap = w'.heap → X w args → X w' args)
    (own : ownKnob C.prog.godebug = none) (started : os.Started) (noInit : C.prog.inits.idxOf? f = none) (hfn : C.prog.funcs[f]? = some fn)
    (witness : ∃ (w : World) (tape : Tape) (i : Input), w.os = os ∧ (w.forCall tape i).Shaped C.prog ∧ i.vars = [] ∧ Input.okWide C.prog (w.forCall tape i) .any w.heap.size f i ∧
      ((s.pre enc C.prog fn conds apart (w.forCall tape i).memory i.args ∧ X (w.forCall tape i).memory i.args) ∧ sizedMet enc C.prog fn (OpenSpec.ofChange s) apart (w.forCall tape i).memory i.args) ∧ a.holds C.prog (lone (Frame.enter C.prog f i.args .normal) [] (w.forCall tape i)))
    (contract : ∀ (W : World) (base : Nat) (args : Array Value) (ds gs : List (DataW H)) (before : List MemPlace),
      (∀ (j : Nat) t v, fn.params[j]? = some t → args[j]? = some v → Value.okWide C.prog W .any base t v) →
      DataW.Whole enc C.prog fn.params.toList s.vars apart W args.toList ds gs before →
      conds.all (PathCond.test C.prog ⟨fn.params.toList, ds, s.plain.varTypes C.prog, gs⟩) = true →
      (DataW.weightsEach C.prog (fn.params.toList ++ s.plain.varTypes C.prog) (ds ++ gs)).all (· ≤ reachBytes) = true → X W args → W.ShapedOpen C.prog →
      a.holds C.prog (lone (Frame.enter C.prog f args .normal) [] W) →
      Calls C.prog f args W fun e W' => ∃ v, e = .returned v ∧ s.post enc C.prog fn apart fresh handsOn again W args v W') :
    ReturnsInHanded a C os f .any (fun w args => (s.pre enc C.prog fn conds apart w args ∧ X w args) ∧ sizedMet enc C.prog fn (OpenSpec.ofChange s) apart w args) (s.post enc C.prog fn apart fresh handsOn again) := by
  refine returnsInHanded_of_calls own started noInit witness ?_
  intro w tape i _ hsh _ hok hpre hholds
  obtain ⟨_, _, _, fn', hfn', _, _, _, _, hval⟩ := hok
  have e : fn' = fn := Option.some.inj (hfn'.symm.trans hfn)
  subst e
  obtain ⟨⟨⟨ds, gs, before, hw, hc⟩, hx⟩, hz⟩ := hpre
  have hw' := DataW.Whole.of_heap (w' := w.forCall tape i) (by rfl) hw
  refine (contract (w.forCall tape i) w.heap.size i.args ds gs before hval hw' hc (hz.weights hw) (hX _ _ _ (by rfl) hx) hsh hholds).mono fun e W' ⟨v, he, hp⟩ => ?_
  subst he
  exact ChangeSpec.post_blind hp
end Go.Proofs.YtlinjleahnccgaaDoor.Pur
end
section
namespace Go.Proofs.YtlinjleahnccgaaDoor.Pur
open Go.Proofs.YtlinjleahnccgaaDoor.E Go Go.RowKit
theorem laid_mem {P : Program} {W : World} {n : String} {d : DataW Unit} : ∀ {l : List (String × DataW Unit)} {ps : List MemPlace}, DataW.LaidVars P W l ps → (n, d) ∈ l →
    ∃ g t cs fuel p, P.globalNamed n = some g ∧ (P.globals[g]?).map (·.type) = some t ∧ W.var? P n = some cs ∧ DataW.trod (fun _ => ()) P W 0 (fun _ => true) false fuel t cs.toList = some (d, p)
  | [], _, _, h => by cases h
  | (n', d') :: r, ps, ⟨g, t, cs, fuel, p, q, h1, h2, h3, h4, h5, _⟩, h => by
    rcases List.mem_cons.mp h with e | e
    · cases e
      exact ⟨g, t, cs, fuel, p, h1, h2, h3, h4⟩
    · exact laid_mem h5 e
theorem vars_cons {H : Type} {enc : TypeId × Value → H} {P : Program} {w : World} {sp : Nat → Bool} {n : String} {ns : List String} {gs : List (DataW H)} {ps : List MemPlace} (h : DataW.TrodVars enc P w sp (n :: ns) gs ps) : ∃ g gs' q, gs = g :: gs' ∧ DataW.TrodVars enc P w sp ns gs' q := by
  cases gs with
  | nil => exact h.elim
  | cons g r =>
    obtain ⟨_, _, _, _, _, q, _, _, _, _, hs, _⟩ := h
    exact ⟨g, r, q, rfl, hs⟩
theorem vars_nil {H : Type} {enc : TypeId × Value → H} {P : Program} {w : World} {sp : Nat → Bool} {gs : List (DataW H)} {ps : List MemPlace} (h : DataW.TrodVars enc P w sp [] gs ps) : gs = [] := by
  cases gs with
  | nil => rfl
  | cons _ _ => exact h.elim
theorem laid_vars {P : Program} {l : List (String × DataW Unit)} {W : World} (h : laidMetH P l W) (hp : (l.all fun x => x.2.handleName?.isNone) = true) : ∃ ps, DataW.LaidVars P W l ps := by
  rw [MakeChecks.laidMetH_plain _ _ _ hp] at h
  obtain ⟨ps, h, _⟩ := h
  exact ⟨ps, h⟩
theorem ba_of_list {s : ByteArray} {l : List UInt8} (h : s.data.toList = l) : s = ⟨l.toArray⟩ := by
  obtain ⟨⟨d⟩⟩ := s
  subst h
  rfl
def names7 : Array Value := #[.string ⟨#[71]⟩, .string ⟨#[65]⟩, .string ⟨#[66]⟩, .string ⟨#[67]⟩, .string ⟨#[68]⟩, .string ⟨#[69]⟩, .string ⟨#[70]⟩]
theorem cells_s : Tryd.prog.cellsOf 9 = 1 := by kernel_rfl
theorem cells_n7 : Tryd.prog.cellsOf 78 = 7 := by kernel_rfl
theorem seven {l : List Value} (h : l.length = 7) : ∃ c0 c1 c2 c3 c4 c5 c6, l = [c0, c1, c2, c3, c4, c5, c6] := by
  match l, h with
  | [a, b, c, d, e, f, g], _ => exact ⟨a, b, c, d, e, f, g, rfl⟩
theorem names_cells {W : World} {l : List (String × DataW Unit)} {ps : List MemPlace} (h : DataW.LaidVars Tryd.prog W l ps) (hm : ("loop.example/neumes/impl.letterNames", Rows.laid_loop_example_neumes_impl_letterNames) ∈ l) :
    W.var? Tryd.prog "loop.example/neumes/impl.letterNames" = some names7 := by
  obtain ⟨g, t, cs, fuel, p, hg, ht, hvar, hd⟩ := laid_mem h hm
  obtain rfl := Option.some.inj ((show Tryd.prog.globalNamed "loop.example/neumes/impl.letterNames" = some 0 by kernel_rfl).symm.trans hg)
  obtain rfl := Option.some.inj ((show (Tryd.prog.globals[0]?).map (·.type) = some 78 by kernel_rfl).symm.trans ht)
  rw [hvar]
  congr 1
  obtain ⟨l⟩ := cs
  cases fuel with
  | zero => simp [DataW.trod] at hd
  | succ fuel =>
    simp only [DataW.trod, Tryd.underlying78, cells_n7, cells_s] at hd
    split at hd
    · rename_i hl
      obtain ⟨c0, c1, c2, c3, c4, c5, c6, rfl⟩ := seven hl
      have e : List.range 7 = [0, 1, 2, 3, 4, 5, 6] := rfl
      rw [e] at hd
      simp only [Option.map_eq_some_iff, List.mapM_cons, List.mapM_nil, Option.bind_eq_bind, Option.bind_eq_some_iff, Option.pure_def, Option.some.injEq] at hd
      obtain ⟨xs, ⟨y0, h0, _, ⟨y1, h1, _, ⟨y2, h2, _, ⟨y3, h3, _, ⟨y4, h4, _, ⟨y5, h5, _, ⟨y6, h6, _, rfl, rfl⟩, rfl⟩, rfl⟩, rfl⟩, rfl⟩, rfl⟩, rfl⟩, hx⟩ := hd
      obtain ⟨n0, e0, rfl, _⟩ := DataW.trod_string Tryd.underlying9 h0
      obtain ⟨n1, e1, rfl, _⟩ := DataW.trod_string Tryd.underlying9 h1
      obtain ⟨n2, e2, rfl, _⟩ := DataW.trod_string Tryd.underlying9 h2
      obtain ⟨n3, e3, rfl, _⟩ := DataW.trod_string Tryd.underlying9 h3
      obtain ⟨n4, e4, rfl, _⟩ := DataW.trod_string Tryd.underlying9 h4
      obtain ⟨n5, e5, rfl, _⟩ := DataW.trod_string Tryd.underlying9 h5
      obtain ⟨n6, e6, rfl, _⟩ := DataW.trod_string Tryd.underlying9 h6
      simp at e0 e1 e2 e3 e4 e5 e6
      subst e0 e1 e2 e3 e4 e5 e6
      simp [Rows.laid_loop_example_neumes_impl_letterNames] at hx
      obtain ⟨⟨e0, e1, e2, e3, e4, e5, e6⟩, _⟩ := hx
      rw [ba_of_list e0, ba_of_list e1, ba_of_list e2, ba_of_list e3, ba_of_list e4, ba_of_list e5, ba_of_list e6]
      rfl
    · cases hd
theorem gok_names {W : World} {l : List (String × DataW Unit)} (h : laidMetH Tryd.prog l W) (hp : (l.all fun x => x.2.handleName?.isNone) = true) (hm : ("loop.example/neumes/impl.letterNames", Rows.laid_loop_example_neumes_impl_letterNames) ∈ l) : GOk [0] W := by
  obtain ⟨ps, hv⟩ := laid_vars h hp
  intro n hn
  obtain rfl := List.mem_singleton.mp hn
  intro i hi
  rw [var?_cell (show Tryd.prog.globalNamed "loop.example/neumes/impl.letterNames" = some 0 by kernel_rfl) (names_cells hv hm)]
  match i, hi with
  | 0, _ => rfl
  | 1, _ => rfl
  | 2, _ => rfl
  | 3, _ => rfl
  | 4, _ => rfl
  | 5, _ => rfl
  | 6, _ => rfl
  | _ + 7, hi => exact absurd hi (by omega)
def heights7 : Array Value := #[.int .i64 0, .int .i64 2, .int .i64 4, .int .i64 5, .int .i64 7, .int .i64 9, .int .i64 10]
end Go.Proofs.YtlinjleahnccgaaDoor.Pur
end
