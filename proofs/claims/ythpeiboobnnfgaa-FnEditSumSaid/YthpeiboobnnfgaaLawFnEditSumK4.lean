/- Texts of this claim, joined by a program of this session's (wip/tools/pack.py). -/
import Derived.Test.YthpeiboobnnfgaaLawFnEditSumK3
section
namespace Go.Proofs.Ythpeiboobnnfgaa.E
open Go.RowKit Go.Proofs.YthpeiboobnnfgaaW.PrintWords Go.Proofs.YthpeiboobnnfgaaW.PrintLast Go.Proofs.YthpeiboobnnfgaaW.PrintMore
attribute [local go_sem] max2_int min2_int max_two min_two max_three min_three max_four min_four
set_option linter.unusedVariables false
set_option linter.unusedSimpArgs false
attribute [local go_sem] en63_mk1 en63_mk2 en63_mk3 en63_mk4
attribute [local go_sem] str_leq_ str_gtr_ str_geq_
def spec_l92Edited.l0 : Nat → List (S36) → List (S36) → Int → List Int → Int → Option ((List (S36)) × (List (S36)) × Int)
 | 0, _, _, _, _, _ => none
 | k + 1, x4, x5, x6, x1000, x1001 => if x6 < (x4.length : Int) then ((spec_l6Rd_pick.f k x1000 x1001 8).bind fun bt414 => (if bt414.1 = 0 then (spec_l92Edited.l0 k x4 x5 (wrap64 (x6 + 1)) x1000 bt414.2) else (if bt414.1 = 1 then (if 0 ≤ x6 then ((some (([(⟨(rd_T36 x4 x6).f0, (rd_T36 x4 x6).f1⟩ : S36), (⟨8, false⟩ : S36)] : List (S36)) : List (S36))).bind fun y417 => (if x5.length + y417.length < 8796093022208 then (spec_l92Edited.l0 k x4 (x5 ++ y417) (wrap64 (x6 + 1)) x1000 bt414.2) else (none))) else (none)) else (if bt414.1 = 2 then (if 0 ≤ x6 then (if x5.length < 8796093022208 then (spec_l92Edited.l0 k x4 (x5 ++ [(⟨mx 0 (wrap64 (((rd_T36 x4 x6).f0) - 1)), false⟩ : S36)]) (wrap64 (x6 + 1)) x1000 bt414.2) else (none)) else (none)) else (if bt414.1 = 3 then (if 0 ≤ x6 then ((spec_l1Letter.f (mx 0 ((rd_T36 x4 x6).f0))).bind fun t429 => (if t429 = 2 then (if x5.length < 8796093022208 then (spec_l92Edited.l0 k x4 (x5 ++ [(⟨(rd_T36 x4 x6).f0, !((rd_T36 x4 x6).f1)⟩ : S36)]) (wrap64 (x6 + 1)) x1000 bt414.2) else (none)) else (if x5.length < 8796093022208 then (spec_l92Edited.l0 k x4 (x5 ++ [(⟨(rd_T36 x4 x6).f0, false⟩ : S36)]) (wrap64 (x6 + 1)) x1000 bt414.2) else (none)))) else (none)) else (if 0 ≤ x6 then (if x5.length < 8796093022208 then (spec_l92Edited.l0 k x4 (x5 ++ [(⟨(rd_T36 x4 x6).f0, (rd_T36 x4 x6).f1⟩ : S36)]) (wrap64 (x6 + 1)) x1000 bt414.2) else (none)) else (none))))))) else (some (x4, x5, x1001))
def spec_l92Edited.f (k : Nat) (s0_0 : List Int) (s0_1 : Int) : Option ((List (S36)) × (List (S36)) × Int) := (spec_l91Melody.f k s0_0 s0_1 6).bind fun bt401 => ((spec_l6Rd_pick.f k s0_0 bt401.2 4).bind fun bt405 => (if bt405.1 = 0 then ((spec_l91Melody.f k s0_0 bt405.2 6).bind fun bt407 => (some (bt401.1, bt407.1, bt407.2))) else (spec_l92Edited.l0 k bt401.1 (([] : List (S36))) 0 s0_0 bt405.2)))
def spec_l92Edited.T16 : Bool × List (List Nat × List Nat) := (true, [([], []), ([], []), ([], []), ([1, 2], [1, 2]), ([3], [3]), ([4], [4]), ([], []), ([], []), ([6, 7], [6, 7]), ([8], [8]), ([9], [9]), ([10], [10]), ([11], [11]), ([12], [12]), ([13, 12], [13]), ([14], [14]), ([14], [14]), ([15, 16, 14], [14, 15, 16]), ([17, 14], [14, 17]), ([18, 14], [14, 18]), ([19, 14], [14, 19]), ([14, 20], [14, 20]), ([5, 21], [5, 21]), ([22], [22]), ([0, 23, 14], [0, 23]), ([24, 24, 0, 1, 2, 3, 4, 5, 6, 7, 8, 9, 10, 11, 12, 13, 14, 15, 16, 17, 18, 19, 20, 21, 22, 23, 24], [0, 24])])
def spec_l92Edited.B16 : List Nat := [0, 0, 0, 6, 14, 30, 0, 0, 192, 448, 960, 1984, 4032, 8128, 16320, 32704, 32704, 131008, 262080, 524224, 1048512, 2097088, 4194302, 8388606, 16777215, 33554431]
theorem spec_l92Edited.tab16 : rtab .any (opsOf Try.f42 16) = spec_l92Edited.T16 := by kernel_rfl
theorem spec_l92Edited.bits16 : waitsOk spec_l92Edited.T16.2 spec_l92Edited.B16 = true := by kernel_rfl
set_option maxHeartbeats 8000000 in
set_option maxRecDepth 100000 in
theorem spec_l92Edited.calls (k : Nat) (g : Nat) (s0_0 : List Int) (s0_1 : Int) (r1 : List (S36)) (r2 : List (S36)) (r3 : Int) (w0 w : World) (hI : IsS79 w0 w g s0_0 s0_1) (hB : Below w0.heap.size w0 w) (h : spec_l92Edited.f k s0_0 s0_1 = some (r1, r2, r3)) :
  Calls Try.prog 42 #[.pointer (some ⟨g, 0, none⟩)] w fun e w' => ∃ v0_ v1_ : Value, e = .returned (.tuple #[v0_, v1_]) ∧ Kd.R k36 36 w' w.heap.size (fun k_ => nb k_ (v1_)) v0_ r1 ∧ Kd.R k36 36 w' w.heap.size (fun k_ => nb k_ (v0_)) v1_ r2 ∧ IsS79 w0 w' g s0_0 r3 ∧ Below w0.heap.size w0 w' ∧ KeepBut w w' g none := by
 have hu36 := Try.underlying36
 have HI0 := Aside0.mk hI
 have HK := Q0_ (KeepBut.refl w g none)
 have HL := Aside0.mk hB.size
 clear hI
 have HW0 := Aside0.mk hB.size
 have HB := Aside0.mk hB
 clear hB
 have H : ((spec_l91Melody.f k s0_0 s0_1 6).bind fun bt401 => ((spec_l6Rd_pick.f k s0_0 bt401.2 4).bind fun bt405 => (if bt405.1 = 0 then ((spec_l91Melody.f k s0_0 bt405.2 6).bind fun bt407 => (some (bt401.1, bt407.1, bt407.2))) else (spec_l92Edited.l0 k bt401.1 (([] : List (S36))) 0 s0_0 bt405.2)))) = some (r1, r2, r3) := h
 clear h
 obtain ⟨⟨t401, t404⟩, A20, H⟩ := Option.bind_eq_some_iff.mp H
 try dsimp only at H
 have A2 := Aside0.mk A20
 clear A20
 obtain ⟨⟨t405, t406⟩, A30, H⟩ := Option.bind_eq_some_iff.mp H
 try dsimp only at H
 have A3 := Aside0.mk A30
 clear A30
 by_cases c4 : t405 = 0
 ·rw [if_pos c4] at H
  have c4b0 : (t405 == 0) = true := beq_iff_eq.mpr c4
  have c4b1 : (t405 != 0) = false := bne_eq_false_iff_eq.mpr c4
  clear c4
  obtain ⟨⟨t407, t410⟩, A50, H⟩ := Option.bind_eq_some_iff.mp H
  try dsimp only at H
  have A5 := Aside0.mk A50
  clear A50
  simp only [Option.some.injEq, Prod.mk.injEq] at H
  obtain ⟨rfl, rfl, rfl⟩ := H
  go_enter Try.func42, Try.ntmps42
  go_wp2_with (first | ((with_reducible refine gate_callee (f := 50) rfl ?_); refine goesL_ (some 8) rfl rfl Try.func50 (by kernel_rfl) rfl #[.pointer (some ⟨g, 0, none⟩), .int .i64 6] rfl hM ?_; (with_reducible refine (spec_l91Melody.calls k g s0_0 s0_1 6 t401 t404 w0 _ ?side1 ?side2 A2.out).mono ?_); (case side1 => repeat (first | (with_reducible first | exact HI0.out | apply IsS79.alloc | apply IsS79.drewN | apply IsS79.drew | apply IsS79.set_1) | exact HI0.out)); (case side2 => repeat (first | (with_reducible first | exact HB.out | apply below_alloc | apply pw_below_drewN | apply below_drew1 | refine below_set ?_ (IsS79.ge HI0.out)) | exact HB.out)); rintro e w6 ⟨v402, rfl, ho0, hi, hb, hk⟩; refine ⟨_, rfl, ?_⟩; have n0_ := Q0_ (Kd.R_lower ho0 (keep_size (w := w) (g := g) (row := none) (by repeat (first | (with_reducible first | exact HK.out | apply KeepBut.set_ | apply keep_drewN | apply keep_drew | apply keep_alloc) | exact HK.out)))); have n1_ := Q0_ (KeepBut.trans (by repeat (first | (with_reducible first | exact HK.out | apply KeepBut.set_ | apply keep_drewN | apply keep_drew | apply keep_alloc) | exact HK.out)) hk (.inl rfl)); have n2_ := Q0_ (hb); have n3_ := Q0_ (hi); clear HK HB HI0; revert n0_ n1_ n2_ n3_; intro HO403 HK HB HI0; (try clear hb); (try clear hb2); (try clear hk); (try clear hi); (try clear ho0)) | ((with_reducible refine gate_callee (f := 51) rfl ?_); refine goesL_ (some 10) rfl rfl Try.func51 (by kernel_rfl) rfl #[.pointer (some ⟨g, 0, none⟩), .int .i64 4] rfl hM ?_; (with_reducible refine (spec_l6Rd_pick.calls k g s0_0 t404 4 t405 t406 w0 _ ?side1 ?side2 A3.out).mono ?_); (case side1 => repeat (first | (with_reducible first | exact HI0.out | apply IsS79.alloc | apply IsS79.drewN | apply IsS79.drew | apply IsS79.set_1) | exact HI0.out)); (case side2 => repeat (first | (with_reducible first | exact HB.out | apply below_alloc | apply pw_below_drewN | apply below_drew1 | refine below_set ?_ (IsS79.ge HI0.out)) | exact HB.out)); rintro e w7 ⟨rfl, hi, hb, hk⟩; refine ⟨_, rfl, ?_⟩; have n0_ := Q0_ (Kd.R_mono (Kd.R_keep (IsS79.apart (show IsS79 w0 _ g s0_0 t404 from by repeat (first | (with_reducible first | exact HI0.out | apply IsS79.alloc | apply IsS79.drewN | apply IsS79.drew | apply IsS79.set_1) | exact HI0.out)) (upR HO403) (by decide)) hk (fun _ h => h.2)) (fun _ h => h.1)); have n1_ := Q0_ (KeepBut.trans (by repeat (first | (with_reducible first | exact HK.out | apply KeepBut.set_ | apply keep_drewN | apply keep_drew | apply keep_alloc) | exact HK.out)) hk (.inl rfl)); have n2_ := Q0_ (hb); have n3_ := Q0_ (hi); clear HO403 HK HB HI0; revert n0_ n1_ n2_ n3_; intro HO403 HK HB HI0; (try clear hb); (try clear hb2); (try clear hk); (try clear hi)) | ((with_reducible refine gate_callee (f := 50) rfl ?_); refine goesL_ (some 14) rfl rfl Try.func50 (by kernel_rfl) rfl #[.pointer (some ⟨g, 0, none⟩), .int .i64 6] rfl hM ?_; (with_reducible refine (spec_l91Melody.calls k g s0_0 t406 6 t407 t410 w0 _ ?side1 ?side2 A5.out).mono ?_); (case side1 => repeat (first | (with_reducible first | exact HI0.out | apply IsS79.alloc | apply IsS79.drewN | apply IsS79.drew | apply IsS79.set_1) | exact HI0.out)); (case side2 => repeat (first | (with_reducible first | exact HB.out | apply below_alloc | apply pw_below_drewN | apply below_drew1 | refine below_set ?_ (IsS79.ge HI0.out)) | exact HB.out)); rintro e w8 ⟨v408, rfl, ho0, hi, hb, hk⟩; refine ⟨_, rfl, ?_⟩; have n0_ := Q0_ (Kd.R_mono (Kd.R_told (Kd.R_oldK (IsS79.apart (show IsS79 w0 _ g s0_0 t406 from by repeat (first | (with_reducible first | exact HI0.out | apply IsS79.alloc | apply IsS79.drewN | apply IsS79.drew | apply IsS79.set_1) | exact HI0.out)) (upR HO403) (by decide)) hk) (Kd.R_base ho0)) (fun _ h_ => h_.1)); have n1_ := Q0_ (Kd.R_lower (Kd.R_new' ho0 (Kd.R_lt (upR HO403))) (keep_size (w := w) (g := g) (row := none) (by repeat (first | (with_reducible first | exact HK.out | apply KeepBut.set_ | apply keep_drewN | apply keep_drew | apply keep_alloc) | exact HK.out)))); have n2_ := Q0_ (KeepBut.trans (by repeat (first | (with_reducible first | exact HK.out | apply KeepBut.set_ | apply keep_drewN | apply keep_drew | apply keep_alloc) | exact HK.out)) hk (.inl rfl)); have n3_ := Q0_ (hb); have n4_ := Q0_ (hi); clear HO403 HK HB HI0; revert n0_ n1_ n2_ n3_ n4_; intro HO403 HO409 HK HB HI0; (try clear hb); (try clear hb2); (try clear hk); (try clear hi); (try clear ho0)))
  go_ret2
  exact ⟨_, _, by first | rfl | (simp [errW_none, errW_some] <;> rfl) | (simp [*, errW_none, errW_some] <;> rfl), by (with_reducible repeat (first | apply Kd.R_alloc | apply Kd.R_drewN | apply Kd.R_drew)); exact Kd.R_mono HO403.out (fun _ hk => hk.2), by (with_reducible repeat (first | apply Kd.R_alloc | apply Kd.R_drewN | apply Kd.R_drew)); exact Kd.R_mono HO409.out (fun _ hk => hk.2), by repeat (first | (with_reducible first | exact HI0.out | apply IsS79.alloc | apply IsS79.drewN | apply IsS79.drew | apply IsS79.set_1) | exact HI0.out), by repeat (first | (with_reducible first | exact HB.out | apply below_alloc | apply pw_below_drewN | apply below_drew1 | refine below_set ?_ (IsS79.ge HI0.out)) | exact HB.out), by repeat (first | (with_reducible first | exact HK.out | apply KeepBut.set_ | apply keep_drewN | apply keep_drew | apply keep_alloc) | exact HK.out)⟩
 rw [if_neg c4] at H
 have c4b0 : (t405 == 0) = false := beq_eq_false_iff_ne.mpr c4
 have c4b1 : (t405 != 0) = true := bne_iff_ne.mpr c4
 obtain ⟨y411, hy411⟩ : ∃ y_ : List (S36), y_ = (([] : List (S36))) := ⟨_, rfl⟩
 replace H : (spec_l92Edited.l0 k t401 y411 0 s0_0 t406) = some (r1, r2, r3) := by first | (rw [hy411]; with_reducible exact H) | (have H2_ := (Option.bind_some _ _).symm.trans H; rw [hy411]; with_reducible exact H2_) | (have H2_ := (Option.bind_some _ _).symm.trans H; with_reducible exact H2_) | with_reducible exact H | (rw [hy411]; exact H) | exact H
 have Ny411 := Aside0.mk hy411
 clear hy411
 have H' := Aside0.mk H
 clear H
 go_enter Try.func42, Try.ntmps42
 go_wp2_with (first | ((with_reducible refine gate_callee (f := 50) rfl ?_); refine goesL_ (some 8) rfl rfl Try.func50 (by kernel_rfl) rfl #[.pointer (some ⟨g, 0, none⟩), .int .i64 6] rfl hM ?_; (with_reducible refine (spec_l91Melody.calls k g s0_0 s0_1 6 t401 t404 w0 _ ?side1 ?side2 A2.out).mono ?_); (case side1 => repeat (first | (with_reducible first | exact HI0.out | apply IsS79.alloc | apply IsS79.drewN | apply IsS79.drew | apply IsS79.set_1) | exact HI0.out)); (case side2 => repeat (first | (with_reducible first | exact HB.out | apply below_alloc | apply pw_below_drewN | apply below_drew1 | refine below_set ?_ (IsS79.ge HI0.out)) | exact HB.out)); rintro e w9 ⟨v402, rfl, ho0, hi, hb, hk⟩; refine ⟨_, rfl, ?_⟩; have n0_ := Q0_ (Kd.R_lower ho0 (keep_size (w := w) (g := g) (row := none) (by repeat (first | (with_reducible first | exact HK.out | apply KeepBut.set_ | apply keep_drewN | apply keep_drew | apply keep_alloc) | exact HK.out)))); have n1_ := Q0_ (KeepBut.trans (by repeat (first | (with_reducible first | exact HK.out | apply KeepBut.set_ | apply keep_drewN | apply keep_drew | apply keep_alloc) | exact HK.out)) hk (.inl rfl)); have n2_ := Q0_ (hb); have n3_ := Q0_ (hi); clear HK HB HI0; revert n0_ n1_ n2_ n3_; intro HO403 HK HB HI0; (try clear hb); (try clear hb2); (try clear hk); (try clear hi); (try clear ho0)) | ((with_reducible refine gate_callee (f := 51) rfl ?_); refine goesL_ (some 10) rfl rfl Try.func51 (by kernel_rfl) rfl #[.pointer (some ⟨g, 0, none⟩), .int .i64 4] rfl hM ?_; (with_reducible refine (spec_l6Rd_pick.calls k g s0_0 t404 4 t405 t406 w0 _ ?side1 ?side2 A3.out).mono ?_); (case side1 => repeat (first | (with_reducible first | exact HI0.out | apply IsS79.alloc | apply IsS79.drewN | apply IsS79.drew | apply IsS79.set_1) | exact HI0.out)); (case side2 => repeat (first | (with_reducible first | exact HB.out | apply below_alloc | apply pw_below_drewN | apply below_drew1 | refine below_set ?_ (IsS79.ge HI0.out)) | exact HB.out)); rintro e w10 ⟨rfl, hi, hb, hk⟩; refine ⟨_, rfl, ?_⟩; have n0_ := Q0_ (Kd.R_mono (Kd.R_keep (IsS79.apart (show IsS79 w0 _ g s0_0 t404 from by repeat (first | (with_reducible first | exact HI0.out | apply IsS79.alloc | apply IsS79.drewN | apply IsS79.drew | apply IsS79.set_1) | exact HI0.out)) (upR HO403) (by decide)) hk (fun _ h => h.2)) (fun _ h => h.1)); have n1_ := Q0_ (KeepBut.trans (by repeat (first | (with_reducible first | exact HK.out | apply KeepBut.set_ | apply keep_drewN | apply keep_drew | apply keep_alloc) | exact HK.out)) hk (.inl rfl)); have n2_ := Q0_ (hb); have n3_ := Q0_ (hi); clear HO403 HK HB HI0; revert n0_ n1_ n2_ n3_; intro HO403 HK HB HI0; (try clear hb); (try clear hb2); (try clear hk); (try clear hi)) | ((with_reducible refine gate_dst (N := 15) rfl ?_); refine Kd.R_lit k36 _ 36 ?hg (N := 15) ?hd (xs := ([] : List (S36))) (inner := []) (ok := fun _ => True) (okp := fun _ => True) ?hr ?hp (fun _ hk => hk) trivial (Below.refl _ _) (Nat.le_refl _) (by simp) ?_; (case hd => rfl); (case hg => rfl); (case hr => first | (go_simp; done) | (go_simp; rfl)); (case hp => exact (Reps.none _ _)); intro v412 w11 ho12 hb hg_ hnew_; clear hg_ hnew_; (first | rw [← Ny411.out] at ho12 | (simp only [Int.reduceToNat] at ho12; rw [← Ny411.out] at ho12)); have n0_ := Q0_ (Kd.R_elder' (upR HO403) (Kd.R_base ho12) hb); have n1_ := Q0_ (Kd.R_lower (Kd.R_new' ho12 (Kd.R_lt (upR HO403))) (keep_size (w := w) (g := g) (row := none) (by repeat (first | (with_reducible first | exact HK.out | apply KeepBut.set_ | apply keep_drewN | apply keep_drew | apply keep_alloc) | exact HK.out)))); have n2_ := Q0_ (IsS79.below (by repeat (first | (with_reducible first | exact HI0.out | apply IsS79.alloc | apply IsS79.drewN | apply IsS79.drew | apply IsS79.set_1) | exact HI0.out)) hb); have n3_ := Q0_ (KeepBut.trans (by repeat (first | (with_reducible first | exact HK.out | apply KeepBut.set_ | apply keep_drewN | apply keep_drew | apply keep_alloc) | exact HK.out)) (KeepBut.of_below hb g none) (.inl rfl)); have n4_ := Q0_ (below_step (by repeat (first | (with_reducible first | exact HB.out | apply below_alloc | apply pw_below_drewN | apply below_drew1 | refine below_set ?_ (IsS79.ge HI0.out)) | exact HB.out)) hb); clear HO403 HI0 HK HB; revert n0_ n1_ n2_ n3_ n4_; intro HO403 HO413 HI0 HK HB; clear hb ho12))
 go_loopg [5, 6] k (fun kq v5 v6 w' => ∃ (x5_1 : List (S36)) (x6_1 : Int) (x1001_1 : Int), v6 = .int .i64 x6_1 ∧ Aside0 (spec_l92Edited.l0 kq t401 x5_1 x6_1 s0_0 x1001_1 = some (r1, r2, r3)) ∧ Aside0 (kq ≤ k) ∧ Aside0 (Kd.R k36 36 w' w.heap.size (fun k_ => nb k_ (v5)) v402 t401) ∧ Aside0 (Kd.R k36 36 w' w.heap.size (fun k_ => nb k_ (v402)) v5 x5_1) ∧ Aside0 (IsS79 w0 w' g s0_0 x1001_1) ∧ Aside0 (KeepBut w w' g none) ∧ Aside0 (Below w0.heap.size w0 w'))
 case atStart => exact ⟨(y411), (0), (t406), eX, H', ⟨Nat.le_refl _⟩, ⟨by (with_reducible repeat (first | apply Kd.R_alloc | apply Kd.R_drewN | apply Kd.R_drew)); exact Kd.R_mono HO403.out (fun _ hk => hk.2)⟩, ⟨by (with_reducible repeat (first | apply Kd.R_alloc | apply Kd.R_drewN | apply Kd.R_drew)); exact Kd.R_mono HO413.out (fun _ hk => hk.2)⟩, ⟨by repeat (first | (with_reducible first | exact HI0.out | apply IsS79.alloc | apply IsS79.drewN | apply IsS79.drew | apply IsS79.set_1) | exact HI0.out)⟩, ⟨by repeat (first | (with_reducible first | exact HK.out | apply KeepBut.set_ | apply keep_drewN | apply keep_drew | apply keep_alloc) | exact HK.out)⟩, ⟨by repeat (first | (with_reducible first | exact HB.out | apply below_alloc | apply pw_below_drewN | apply below_drew1 | refine below_set ?_ (IsS79.ge HI0.out)) | exact HB.out)⟩⟩
 case round =>
  clear H'
  try clear p2
  try clear c4
  try clear c4b0
  try clear c4b1
  try clear c5
  obtain ⟨x5_1, x6_1, x1001_1, rfl, HA, HK1, HO_4, HO_5, HI0, HK, HB⟩ := hrel
  cases gk with
  | zero => exact absurd HA.out (by simp [spec_l92Edited.l0])
  | succ k1 =>
   have H := HA.out
   clear HA
   simp only [spec_l92Edited.l0] at H
   by_cases c13 : x6_1 < (t401.length : Int)
   rotate_left
   ·rw [if_neg c13] at H
    have c13b0 : decide (x6_1 < (t401.length : Int)) = false := decide_eq_false c13
    clear c13
    simp only [Option.some.injEq, Prod.mk.injEq] at H
    obtain ⟨rfl, rfl, rfl⟩ := H
    obtain ⟨Ao54, co54, eo54⟩ := Kd.R_slice HO_4.out
    subst eo54
    go_wp2
    go_ret2
    exact ⟨_, _, by first | rfl | (simp [errW_none, errW_some] <;> rfl) | (simp [*, errW_none, errW_some] <;> rfl), by (with_reducible repeat (first | apply Kd.R_alloc | apply Kd.R_drewN | apply Kd.R_drew)); exact HO_4.out, by (with_reducible repeat (first | apply Kd.R_alloc | apply Kd.R_drewN | apply Kd.R_drew)); exact HO_5.out, by repeat (first | (with_reducible first | exact HI0.out | apply IsS79.alloc | apply IsS79.drewN | apply IsS79.drew | apply IsS79.set_1) | exact HI0.out), by repeat (first | (with_reducible first | exact HB.out | apply below_alloc | apply pw_below_drewN | apply below_drew1 | refine below_set ?_ (IsS79.ge HI0.out)) | exact HB.out), by repeat (first | (with_reducible first | exact HK.out | apply KeepBut.set_ | apply keep_drewN | apply keep_drew | apply keep_alloc) | exact HK.out)⟩
   rw [if_pos c13] at H
   have c13b0 : decide (x6_1 < (t401.length : Int)) = true := decide_eq_true c13
   clear c13
   obtain ⟨⟨t414, t415⟩, A140, H⟩ := Option.bind_eq_some_iff.mp H
   try dsimp only at H
   have A14 := Aside0.mk A140
   clear A140
   by_cases c15 : t414 = 0
   ·rw [if_pos c15] at H
    have c15b0 : (t414 == 0) = true := beq_iff_eq.mpr c15
    have c15b1 : (t414 != 0) = false := bne_eq_false_iff_eq.mpr c15
    clear c15
    have H' := Aside0.mk H
    clear H
    obtain ⟨Ao16, co16, eo16⟩ := Kd.R_slice HO_4.out
    subst eo16
    go_wp2_with (first | ((with_reducible refine gate_callee (f := 51) rfl ?_); refine goesL_ (some 23) rfl rfl Try.func51 (by kernel_rfl) rfl #[.pointer (some ⟨g, 0, none⟩), .int .i64 8] rfl hM ?_; (with_reducible refine (spec_l6Rd_pick.calls k1 g s0_0 x1001_1 8 t414 t415 w0 _ ?side1 ?side2 A14.out).mono ?_); (case side1 => repeat (first | (with_reducible first | exact HI0.out | apply IsS79.alloc | apply IsS79.drewN | apply IsS79.drew | apply IsS79.set_1) | exact HI0.out)); (case side2 => repeat (first | (with_reducible first | exact HB.out | apply below_alloc | apply pw_below_drewN | apply below_drew1 | refine below_set ?_ (IsS79.ge HI0.out)) | exact HB.out)); rintro e w17 ⟨rfl, hi, hb, hk⟩; refine ⟨_, rfl, ?_⟩; have n0_ := Q0_ (Kd.R_mono (Kd.R_keep (IsS79.apart (show IsS79 w0 _ g s0_0 x1001_1 from by repeat (first | (with_reducible first | exact HI0.out | apply IsS79.alloc | apply IsS79.drewN | apply IsS79.drew | apply IsS79.set_1) | exact HI0.out)) (upR HO_4) (by decide)) hk (fun _ h => h.2)) (fun _ h => h.1)); have n1_ := Q0_ (Kd.R_mono (Kd.R_keep (IsS79.apart (show IsS79 w0 _ g s0_0 x1001_1 from by repeat (first | (with_reducible first | exact HI0.out | apply IsS79.alloc | apply IsS79.drewN | apply IsS79.drew | apply IsS79.set_1) | exact HI0.out)) (upR HO_5) (by decide)) hk (fun _ h => h.2)) (fun _ h => h.1)); have n2_ := Q0_ (KeepBut.trans (by repeat (first | (with_reducible first | exact HK.out | apply KeepBut.set_ | apply keep_drewN | apply keep_drew | apply keep_alloc) | exact HK.out)) hk (.inl rfl)); have n3_ := Q0_ (hb); have n4_ := Q0_ (hi); clear HO_4 HO_5 HK HB HI0; revert n0_ n1_ n2_ n3_ n4_; intro HO_4 HO_5 HK HB HI0; (try clear hb); (try clear hb2); (try clear hk); (try clear hi)))
    go_roundg k1
    case measure => have := HK1.out; omega
    case rel => exact ⟨(x5_1), (wrap64 (x6_1 + 1)), (t415), eX, H', ⟨by have := HK1.out; omega⟩, ⟨by (with_reducible repeat (first | apply Kd.R_alloc | apply Kd.R_drewN | apply Kd.R_drew)); exact HO_4.out⟩, ⟨by (with_reducible repeat (first | apply Kd.R_alloc | apply Kd.R_drewN | apply Kd.R_drew)); exact HO_5.out⟩, ⟨by repeat (first | (with_reducible first | exact HI0.out | apply IsS79.alloc | apply IsS79.drewN | apply IsS79.drew | apply IsS79.set_1) | exact HI0.out)⟩, ⟨by repeat (first | (with_reducible first | exact HK.out | apply KeepBut.set_ | apply keep_drewN | apply keep_drew | apply keep_alloc) | exact HK.out)⟩, ⟨by repeat (first | (with_reducible first | exact HB.out | apply below_alloc | apply pw_below_drewN | apply below_drew1 | refine below_set ?_ (IsS79.ge HI0.out)) | exact HB.out)⟩⟩
   rw [if_neg c15] at H
   have c15b0 : (t414 == 0) = false := beq_eq_false_iff_ne.mpr c15
   have c15b1 : (t414 != 0) = true := bne_iff_ne.mpr c15
   by_cases c18 : t414 = 1
   ·rw [if_pos c18] at H
    have c18b0 : (t414 == 1) = true := beq_iff_eq.mpr c18
    have c18b1 : (t414 != 1) = false := bne_eq_false_iff_eq.mpr c18
    clear c18
    by_cases c19 : 0 ≤ x6_1
    rotate_left
    ·rw [if_neg c19] at H
     exact absurd H (by simp)
    rw [if_pos c19] at H
    have c19b0 : decide (0 ≤ x6_1) = true := decide_eq_true c19
    clear c19
    obtain ⟨y417, hy417⟩ : ∃ y_ : List (S36), y_ = (([(⟨(rd_T36 t401 x6_1).f0, (rd_T36 t401 x6_1).f1⟩ : S36), (⟨8, false⟩ : S36)] : List (S36))) := ⟨_, rfl⟩
    replace H : (if x5_1.length + y417.length < 8796093022208 then (spec_l92Edited.l0 k1 t401 (x5_1 ++ y417) (wrap64 (x6_1 + 1)) s0_0 t415) else (none)) = some (r1, r2, r3) := by first | (rw [hy417]; with_reducible exact H) | (have H2_ := (Option.bind_some _ _).symm.trans H; rw [hy417]; with_reducible exact H2_) | (have H2_ := (Option.bind_some _ _).symm.trans H; with_reducible exact H2_) | with_reducible exact H | (rw [hy417]; exact H) | exact H
    have Ny417 := Aside0.mk hy417
    clear hy417
    by_cases c20 : x5_1.length + y417.length < 8796093022208
    rotate_left
    ·rw [if_neg c20] at H
     exact absurd H (by simp)
    rw [if_pos c20] at H
    have LMc20 := Aside0.mk c20
    clear c20
    obtain ⟨y420, hy420⟩ : ∃ y_ : List (S36), y_ = (x5_1 ++ y417) := ⟨_, rfl⟩
    replace H : (spec_l92Edited.l0 k1 t401 y420 (wrap64 (x6_1 + 1)) s0_0 t415) = some (r1, r2, r3) := by first | (rw [hy420]; with_reducible exact H) | (have H2_ := (Option.bind_some _ _).symm.trans H; rw [hy420]; with_reducible exact H2_) | (have H2_ := (Option.bind_some _ _).symm.trans H; with_reducible exact H2_) | with_reducible exact H | (rw [hy420]; exact H) | exact H
    have Ny420 := Aside0.mk hy420
    clear hy420
    have H' := Aside0.mk H
    clear H
    obtain ⟨Ao21, co21, eo21⟩ := Kd.R_slice HO_4.out
    subst eo21
    go_wp2_with (first | ((with_reducible refine gate_callee (f := 51) rfl ?_); refine goesL_ (some 23) rfl rfl Try.func51 (by kernel_rfl) rfl #[.pointer (some ⟨g, 0, none⟩), .int .i64 8] rfl hM ?_; (with_reducible refine (spec_l6Rd_pick.calls k1 g s0_0 x1001_1 8 t414 t415 w0 _ ?side1 ?side2 A14.out).mono ?_); (case side1 => repeat (first | (with_reducible first | exact HI0.out | apply IsS79.alloc | apply IsS79.drewN | apply IsS79.drew | apply IsS79.set_1) | exact HI0.out)); (case side2 => repeat (first | (with_reducible first | exact HB.out | apply below_alloc | apply pw_below_drewN | apply below_drew1 | refine below_set ?_ (IsS79.ge HI0.out)) | exact HB.out)); rintro e w22 ⟨rfl, hi, hb, hk⟩; refine ⟨_, rfl, ?_⟩; have n0_ := Q0_ (Kd.R_mono (Kd.R_keep (IsS79.apart (show IsS79 w0 _ g s0_0 x1001_1 from by repeat (first | (with_reducible first | exact HI0.out | apply IsS79.alloc | apply IsS79.drewN | apply IsS79.drew | apply IsS79.set_1) | exact HI0.out)) (upR HO_4) (by decide)) hk (fun _ h => h.2)) (fun _ h => h.1)); have n1_ := Q0_ (Kd.R_mono (Kd.R_keep (IsS79.apart (show IsS79 w0 _ g s0_0 x1001_1 from by repeat (first | (with_reducible first | exact HI0.out | apply IsS79.alloc | apply IsS79.drewN | apply IsS79.drew | apply IsS79.set_1) | exact HI0.out)) (upR HO_5) (by decide)) hk (fun _ h => h.2)) (fun _ h => h.1)); have n2_ := Q0_ (KeepBut.trans (by repeat (first | (with_reducible first | exact HK.out | apply KeepBut.set_ | apply keep_drewN | apply keep_drew | apply keep_alloc) | exact HK.out)) hk (.inl rfl)); have n3_ := Q0_ (hb); have n4_ := Q0_ (hi); clear HO_4 HO_5 HK HB HI0; revert n0_ n1_ n2_ n3_ n4_; intro HO_4 HO_5 HK HB HI0; (try clear hb); (try clear hb2); (try clear hk); (try clear hi); have p416 : 0 ≤ (x6_1 : Int) := of_decide_eq_true aS; have q416 : x6_1 < (t401.length : Int) := of_decide_eq_true aS; obtain ⟨ad416, e416, hx416_0, hx416_1⟩ := at_T36 (Kd.R_reads' HO_4.out).2.2 x6_1 p416 q416; cases e416; replace p416 := eq_true p416; replace q416 := eq_true q416) | ((with_reducible refine gate_dst (N := 41) rfl ?_); refine Kd.R_lit k36 _ 36 ?hg (N := 41) ?hd (xs := ([(⟨(rd_T36 t401 x6_1).f0, (rd_T36 t401 x6_1).f1⟩ : S36), (⟨8, false⟩ : S36)] : List (S36))) (inner := [.int .i64 ((rd_T36 t401 x6_1).f0), .bool ((rd_T36 t401 x6_1).f1), .int .i64 8, .bool false]) (ok := fun _ => True) (okp := fun _ => True) ?hr ?hp (fun _ hk => hk) trivial (Below.refl _ _) (Nat.le_refl _) (by simp) ?_; (case hd => rfl); (case hg => rfl); (case hr => first | (go_simp; done) | (go_simp; rfl)); (case hp => exact (Reps.c2 (show Kd.M k36 _ _ _ (⟨(rd_T36 t401 x6_1).f0, (rd_T36 t401 x6_1).f1⟩ : S36) [.int .i64 ((rd_T36 t401 x6_1).f0), .bool ((rd_T36 t401 x6_1).f1)] from (k36_mkM _ _ _ (⟨(rd_T36 t401 x6_1).f0, (rd_T36 t401 x6_1).f1⟩ : S36) )) (Reps.c2 (show Kd.M k36 _ _ _ (⟨8, false⟩ : S36) [.int .i64 8, .bool false] from (k36_mkM _ _ _ (⟨8, false⟩ : S36) )) (Reps.none _ _)))); intro v418 w23 ho24 hb hg_ hnew_; clear hg_ hnew_; (first | rw [← Ny417.out] at ho24 | (simp only [Int.reduceToNat] at ho24; rw [← Ny417.out] at ho24)); have n0_ := Q0_ (Kd.R_elder' (upR HO_4) (Kd.R_base ho24) hb); have n1_ := Q0_ (Kd.R_elder' (upR HO_5) (Kd.R_base ho24) hb); have n2_ := Q0_ (Kd.R_lower (Kd.R_new' (Kd.R_new' ho24 (Kd.R_lt (upR HO_4))) (Kd.R_lt (upR HO_5))) (keep_size (w := w) (g := g) (row := none) (by repeat (first | (with_reducible first | exact HK.out | apply KeepBut.set_ | apply keep_drewN | apply keep_drew | apply keep_alloc) | exact HK.out)))); have n3_ := Q0_ (IsS79.below (by repeat (first | (with_reducible first | exact HI0.out | apply IsS79.alloc | apply IsS79.drewN | apply IsS79.drew | apply IsS79.set_1) | exact HI0.out)) hb); have n4_ := Q0_ (KeepBut.trans (by repeat (first | (with_reducible first | exact HK.out | apply KeepBut.set_ | apply keep_drewN | apply keep_drew | apply keep_alloc) | exact HK.out)) (KeepBut.of_below hb g none) (.inl rfl)); have n5_ := Q0_ (below_step (by repeat (first | (with_reducible first | exact HB.out | apply below_alloc | apply pw_below_drewN | apply below_drew1 | refine below_set ?_ (IsS79.ge HI0.out)) | exact HB.out)) hb); clear HO_4 HO_5 HI0 HK HB; revert n0_ n1_ n2_ n3_ n4_ n5_; intro HO_4 HO_5 HO419 HI0 HK HB; clear hb ho24; obtain ⟨Ao26, co26, eo26⟩ := Kd.R_slice HO419.out; subst eo26) | ((with_reducible refine gate_builtin (b := .append) (xs := #[.tmp 35, .tmp 41]) rfl ?_); at_builtin; refine Kd.R_append_rows k36 w.heap.size rfl (.tmp 35) (.tmp 41) 25 36 (.agg #[(.int .i64 0), (.bool false)]) 16 rfl Try.underlying25 info36 rfl (by decide) (by omega) u5 x5_1 y417 _ _ _ (fun k_ => nb k_ (.slice (some ad416) t401.length co21) ∧ nb k_ (.slice Ao26 y417.length co26)) (fun _ => False) rfl rfl ?aO ?aR (fun _ _ h => h) (fun _ h => h.elim) ?aF (Below.refl _ _) ?aS ?aL ?_; (case aR => repeat (first | exact (Kd.R_reads' HO419.out).2.2 | (with_reducible refine Kd.C_alloc ?_ _) | (with_reducible refine Kd.C_drewN ?_ _) | (with_reducible refine Kd.C_drew ?_))); (case aF => exact (fun k_ hk => ⟨Kd.fresh' (Kd.R_lt (upR HO_4)) k_ hk, Kd.fresh' (Kd.R_lt (upR HO419)) k_ hk⟩)); (case aO => exact (upR HO_5)); (case aS => exact (keep_size (w := w) (g := g) (row := none) (by repeat (first | (with_reducible first | exact HK.out | apply KeepBut.set_ | apply keep_drewN | apply keep_drew | apply keep_alloc) | exact HK.out)))); (case aL => have := LMc20.out; omega); intro v421 w25 ho hb hg hat; rw [← Ny420.out] at ho; have n0_ := Q0_ (Kd.R_after (ok := (fun k_ => nb k_ (.slice Ao26 y417.length co26))) (upR' (Kd.R_mono HO_4.out (fun _ hk => ⟨hk.2, hk.1⟩))) hg hat); have n1_ := Q0_ (IsS79.grown (by repeat (first | (with_reducible first | exact HI0.out | apply IsS79.alloc | apply IsS79.drewN | apply IsS79.drew | apply IsS79.set_1) | exact HI0.out)) hg (IsS79.own_ne HI0.out HO_5.out (by decide))); have n2_ := Q0_ (Kd.R_after (ok := (fun k_ => nb k_ (.slice (some ad416) t401.length co21))) (upR' (Kd.R_mono HO419.out (fun _ hk => ⟨hk.1.2, hk.2⟩))) hg hat); have n3_ := Q0_ (below_weaken (by repeat (first | (with_reducible first | exact HB.out | apply below_alloc | apply pw_below_drewN | apply below_drew1 | refine below_set ?_ (IsS79.ge HI0.out)) | exact HB.out)) HL.out hb); have n4_ := Q0_ (KeepBut.trans (by repeat (first | (with_reducible first | exact HK.out | apply KeepBut.set_ | apply keep_drewN | apply keep_drew | apply keep_alloc) | exact HK.out)) (KeepBut.of_grown hg g) (Kd.R_base2 HO_5.out)); have n5_ := Q0_ (ho); clear HO_4 HI0 HO419 HB HK HO_5; revert n0_ n1_ n2_ n3_ n4_ n5_; intro HO_4 HI0 HO419 HB HK HO422; clear ho hb hg hat))
    go_roundg k1
    case measure => have := HK1.out; omega
    case rel => exact ⟨(y420), (wrap64 (x6_1 + 1)), (t415), eX, H', ⟨by have := HK1.out; omega⟩, ⟨by (with_reducible repeat (first | apply Kd.R_alloc | apply Kd.R_drewN | apply Kd.R_drew)); exact Kd.R_mono HO_4.out (fun _ hk => hk.2)⟩, ⟨by (with_reducible repeat (first | apply Kd.R_alloc | apply Kd.R_drewN | apply Kd.R_drew)); exact Kd.R_mono HO422.out (fun _ hk => hk.1)⟩, ⟨by repeat (first | (with_reducible first | exact HI0.out | apply IsS79.alloc | apply IsS79.drewN | apply IsS79.drew | apply IsS79.set_1) | exact HI0.out)⟩, ⟨by repeat (first | (with_reducible first | exact HK.out | apply KeepBut.set_ | apply keep_drewN | apply keep_drew | apply keep_alloc) | exact HK.out)⟩, ⟨by repeat (first | (with_reducible first | exact HB.out | apply below_alloc | apply pw_below_drewN | apply below_drew1 | refine below_set ?_ (IsS79.ge HI0.out)) | exact HB.out)⟩⟩
   rw [if_neg c18] at H
   have c18b0 : (t414 == 1) = false := beq_eq_false_iff_ne.mpr c18
   have c18b1 : (t414 != 1) = true := bne_iff_ne.mpr c18
   by_cases c27 : t414 = 2
   ·rw [if_pos c27] at H
    have c27b0 : (t414 == 2) = true := beq_iff_eq.mpr c27
    have c27b1 : (t414 != 2) = false := bne_eq_false_iff_eq.mpr c27
    clear c27
    by_cases c28 : 0 ≤ x6_1
    rotate_left
    ·rw [if_neg c28] at H
     exact absurd H (by simp)
    rw [if_pos c28] at H
    have c28b0 : decide (0 ≤ x6_1) = true := decide_eq_true c28
    clear c28
    obtain ⟨ji29, hji29⟩ : ∃ j_ : Int, (mx 0 (wrap64 (((rd_T36 t401 x6_1).f0) - 1))) = j_ := ⟨_, rfl⟩
    replace H : (if x5_1.length < 8796093022208 then (spec_l92Edited.l0 k1 t401 (x5_1 ++ [(⟨ji29, false⟩ : S36)]) (wrap64 (x6_1 + 1)) s0_0 t415) else (none)) = some (r1, r2, r3) := by first | (rw [hji29] at H; exact H) | (simp only [hji29] at H ⊢; exact H)
    (try rw [hji29] at A14)
    have hji29_ : (if 0 < (wrap64 (((rd_T36 t401 x6_1).f0) - 1)) then (wrap64 (((rd_T36 t401 x6_1).f0) - 1)) else 0) = ji29 := hji29
    by_cases c30 : x5_1.length < 8796093022208
    rotate_left
    ·rw [if_neg c30] at H
     exact absurd H (by simp)
    rw [if_pos c30] at H
    have LMc30 := Aside0.mk c30
    clear c30
    obtain ⟨y424, hy424⟩ : ∃ y_ : List (S36), y_ = (x5_1 ++ [(⟨ji29, false⟩ : S36)]) := ⟨_, rfl⟩
    replace H : (spec_l92Edited.l0 k1 t401 y424 (wrap64 (x6_1 + 1)) s0_0 t415) = some (r1, r2, r3) := by first | (rw [hy424]; with_reducible exact H) | (have H2_ := (Option.bind_some _ _).symm.trans H; rw [hy424]; with_reducible exact H2_) | (have H2_ := (Option.bind_some _ _).symm.trans H; with_reducible exact H2_) | with_reducible exact H | (rw [hy424]; exact H) | exact H
    have Ny424 := Aside0.mk hy424
    clear hy424
    have H' := Aside0.mk H
    clear H
    obtain ⟨Ao31, co31, eo31⟩ := Kd.R_slice HO_4.out
    subst eo31
    go_wp2_with (first | ((with_reducible refine gate_callee (f := 51) rfl ?_); refine goesL_ (some 23) rfl rfl Try.func51 (by kernel_rfl) rfl #[.pointer (some ⟨g, 0, none⟩), .int .i64 8] rfl hM ?_; (with_reducible refine (spec_l6Rd_pick.calls k1 g s0_0 x1001_1 8 t414 t415 w0 _ ?side1 ?side2 A14.out).mono ?_); (case side1 => repeat (first | (with_reducible first | exact HI0.out | apply IsS79.alloc | apply IsS79.drewN | apply IsS79.drew | apply IsS79.set_1) | exact HI0.out)); (case side2 => repeat (first | (with_reducible first | exact HB.out | apply below_alloc | apply pw_below_drewN | apply below_drew1 | refine below_set ?_ (IsS79.ge HI0.out)) | exact HB.out)); rintro e w32 ⟨rfl, hi, hb, hk⟩; refine ⟨_, rfl, ?_⟩; have n0_ := Q0_ (Kd.R_mono (Kd.R_keep (IsS79.apart (show IsS79 w0 _ g s0_0 x1001_1 from by repeat (first | (with_reducible first | exact HI0.out | apply IsS79.alloc | apply IsS79.drewN | apply IsS79.drew | apply IsS79.set_1) | exact HI0.out)) (upR HO_4) (by decide)) hk (fun _ h => h.2)) (fun _ h => h.1)); have n1_ := Q0_ (Kd.R_mono (Kd.R_keep (IsS79.apart (show IsS79 w0 _ g s0_0 x1001_1 from by repeat (first | (with_reducible first | exact HI0.out | apply IsS79.alloc | apply IsS79.drewN | apply IsS79.drew | apply IsS79.set_1) | exact HI0.out)) (upR HO_5) (by decide)) hk (fun _ h => h.2)) (fun _ h => h.1)); have n2_ := Q0_ (KeepBut.trans (by repeat (first | (with_reducible first | exact HK.out | apply KeepBut.set_ | apply keep_drewN | apply keep_drew | apply keep_alloc) | exact HK.out)) hk (.inl rfl)); have n3_ := Q0_ (hb); have n4_ := Q0_ (hi); clear HO_4 HO_5 HK HB HI0; revert n0_ n1_ n2_ n3_ n4_; intro HO_4 HO_5 HK HB HI0; (try clear hb); (try clear hb2); (try clear hk); (try clear hi); have p423 : 0 ≤ (x6_1 : Int) := of_decide_eq_true aS; have q423 : x6_1 < (t401.length : Int) := of_decide_eq_true aS; obtain ⟨ad423, e423, hx423_0, hx423_1⟩ := at_T36 (Kd.R_reads' HO_4.out).2.2 x6_1 p423 q423; cases e423; replace p423 := eq_true p423; replace q423 := eq_true q423) | ((with_reducible refine gate_builtin (b := .append) (xs := #[.tmp 45, .tmp 54]) rfl ?_); at_builtin; refine Kd.R_append k36 w.heap.size rfl (.tmp 45) (.tmp 54) 25 36 (.agg #[(.int .i64 0), (.bool false)]) 16 rfl Try.underlying25 info36 rfl (by decide) (by omega) u5 x5_1 (⟨ji29, false⟩ : S36) [.int .i64 ji29, .bool false] (fun k_ => nb k_ (.slice (some ad423) t401.length co31)) (fun _ => False) rfl rfl ?aP (fun _ hk => hk.elim) ?aF ?aO (Below.refl _ _) ?aS ?aL ?_; (case aP => exact k36_mkM _ _ _ (⟨ji29, false⟩ : S36)); (case aF => exact (fun k_ hk => Kd.fresh' (Kd.R_lt (upR HO_4)) k_ hk)); (case aO => exact (upR HO_5)); (case aS => exact (keep_size (w := w) (g := g) (row := none) (by repeat (first | (with_reducible first | exact HK.out | apply KeepBut.set_ | apply keep_drewN | apply keep_drew | apply keep_alloc) | exact HK.out)))); (case aL => have := LMc30.out; omega); intro v425 w33 ho hb hg hat; rw [← Ny424.out] at ho; have n0_ := Q0_ (Kd.R_after (ok := (fun _ => True)) (upR' (Kd.R_mono HO_4.out (fun _ hk => ⟨trivial, hk⟩))) hg hat); have n1_ := Q0_ (IsS79.grown (by repeat (first | (with_reducible first | exact HI0.out | apply IsS79.alloc | apply IsS79.drewN | apply IsS79.drew | apply IsS79.set_1) | exact HI0.out)) hg (IsS79.own_ne HI0.out HO_5.out (by decide))); have n2_ := Q0_ (below_weaken (by repeat (first | (with_reducible first | exact HB.out | apply below_alloc | apply pw_below_drewN | apply below_drew1 | refine below_set ?_ (IsS79.ge HI0.out)) | exact HB.out)) HL.out hb); have n3_ := Q0_ (KeepBut.trans (by repeat (first | (with_reducible first | exact HK.out | apply KeepBut.set_ | apply keep_drewN | apply keep_drew | apply keep_alloc) | exact HK.out)) (KeepBut.of_grown hg g) (Kd.R_base2 HO_5.out)); have n4_ := Q0_ (ho); clear HO_4 HI0 HB HK HO_5; revert n0_ n1_ n2_ n3_ n4_; intro HO_4 HI0 HB HK HO426; clear ho hb hg hat))
    first | go_roundg k1 | ((try simp only [← hji29] at H' ⊢); go_roundg k1)
    case measure => have := HK1.out; omega
    case rel => exact ⟨(y424), (wrap64 (x6_1 + 1)), (t415), eX, H', ⟨by have := HK1.out; omega⟩, ⟨by (with_reducible repeat (first | apply Kd.R_alloc | apply Kd.R_drewN | apply Kd.R_drew)); exact Kd.R_mono HO_4.out (fun _ hk => hk.2)⟩, ⟨by (with_reducible repeat (first | apply Kd.R_alloc | apply Kd.R_drewN | apply Kd.R_drew)); exact HO426.out⟩, ⟨by repeat (first | (with_reducible first | exact HI0.out | apply IsS79.alloc | apply IsS79.drewN | apply IsS79.drew | apply IsS79.set_1) | exact HI0.out)⟩, ⟨by repeat (first | (with_reducible first | exact HK.out | apply KeepBut.set_ | apply keep_drewN | apply keep_drew | apply keep_alloc) | exact HK.out)⟩, ⟨by repeat (first | (with_reducible first | exact HB.out | apply below_alloc | apply pw_below_drewN | apply below_drew1 | refine below_set ?_ (IsS79.ge HI0.out)) | exact HB.out)⟩⟩
   rw [if_neg c27] at H
   have c27b0 : (t414 == 2) = false := beq_eq_false_iff_ne.mpr c27
   have c27b1 : (t414 != 2) = true := bne_iff_ne.mpr c27
   by_cases c34 : t414 = 3
   rotate_left
   ·rw [if_neg c34] at H
    have c34b0 : (t414 == 3) = false := beq_eq_false_iff_ne.mpr c34
    have c34b1 : (t414 != 3) = true := bne_iff_ne.mpr c34
    by_cases c49 : 0 ≤ x6_1
    rotate_left
    ·rw [if_neg c49] at H
     exact absurd H (by simp)
    rw [if_pos c49] at H
    have c49b0 : decide (0 ≤ x6_1) = true := decide_eq_true c49
    clear c49
    by_cases c50 : x5_1.length < 8796093022208
    rotate_left
    ·rw [if_neg c50] at H
     exact absurd H (by simp)
    rw [if_pos c50] at H
    have LMc50 := Aside0.mk c50
    clear c50
    obtain ⟨y438, hy438⟩ : ∃ y_ : List (S36), y_ = (x5_1 ++ [(⟨(rd_T36 t401 x6_1).f0, (rd_T36 t401 x6_1).f1⟩ : S36)]) := ⟨_, rfl⟩
    replace H : (spec_l92Edited.l0 k1 t401 y438 (wrap64 (x6_1 + 1)) s0_0 t415) = some (r1, r2, r3) := by first | (rw [hy438]; with_reducible exact H) | (have H2_ := (Option.bind_some _ _).symm.trans H; rw [hy438]; with_reducible exact H2_) | (have H2_ := (Option.bind_some _ _).symm.trans H; with_reducible exact H2_) | with_reducible exact H | (rw [hy438]; exact H) | exact H
    have Ny438 := Aside0.mk hy438
    clear hy438
    have H' := Aside0.mk H
    clear H
    obtain ⟨Ao51, co51, eo51⟩ := Kd.R_slice HO_4.out
    subst eo51
    go_wp2_with (first | ((with_reducible refine gate_callee (f := 51) rfl ?_); refine goesL_ (some 23) rfl rfl Try.func51 (by kernel_rfl) rfl #[.pointer (some ⟨g, 0, none⟩), .int .i64 8] rfl hM ?_; (with_reducible refine (spec_l6Rd_pick.calls k1 g s0_0 x1001_1 8 t414 t415 w0 _ ?side1 ?side2 A14.out).mono ?_); (case side1 => repeat (first | (with_reducible first | exact HI0.out | apply IsS79.alloc | apply IsS79.drewN | apply IsS79.drew | apply IsS79.set_1) | exact HI0.out)); (case side2 => repeat (first | (with_reducible first | exact HB.out | apply below_alloc | apply pw_below_drewN | apply below_drew1 | refine below_set ?_ (IsS79.ge HI0.out)) | exact HB.out)); rintro e w52 ⟨rfl, hi, hb, hk⟩; refine ⟨_, rfl, ?_⟩; have n0_ := Q0_ (Kd.R_mono (Kd.R_keep (IsS79.apart (show IsS79 w0 _ g s0_0 x1001_1 from by repeat (first | (with_reducible first | exact HI0.out | apply IsS79.alloc | apply IsS79.drewN | apply IsS79.drew | apply IsS79.set_1) | exact HI0.out)) (upR HO_4) (by decide)) hk (fun _ h => h.2)) (fun _ h => h.1)); have n1_ := Q0_ (Kd.R_mono (Kd.R_keep (IsS79.apart (show IsS79 w0 _ g s0_0 x1001_1 from by repeat (first | (with_reducible first | exact HI0.out | apply IsS79.alloc | apply IsS79.drewN | apply IsS79.drew | apply IsS79.set_1) | exact HI0.out)) (upR HO_5) (by decide)) hk (fun _ h => h.2)) (fun _ h => h.1)); have n2_ := Q0_ (KeepBut.trans (by repeat (first | (with_reducible first | exact HK.out | apply KeepBut.set_ | apply keep_drewN | apply keep_drew | apply keep_alloc) | exact HK.out)) hk (.inl rfl)); have n3_ := Q0_ (hb); have n4_ := Q0_ (hi); clear HO_4 HO_5 HK HB HI0; revert n0_ n1_ n2_ n3_ n4_; intro HO_4 HO_5 HK HB HI0; (try clear hb); (try clear hb2); (try clear hk); (try clear hi); have p437 : 0 ≤ (x6_1 : Int) := of_decide_eq_true aS; have q437 : x6_1 < (t401.length : Int) := of_decide_eq_true aS; obtain ⟨ad437, e437, hx437_0, hx437_1⟩ := at_T36 (Kd.R_reads' HO_4.out).2.2 x6_1 p437 q437; cases e437; replace p437 := eq_true p437; replace q437 := eq_true q437) | ((with_reducible refine gate_builtin (b := .append) (xs := #[.tmp 24, .tmp 29]) rfl ?_); at_builtin; refine Kd.R_append k36 w.heap.size rfl (.tmp 24) (.tmp 29) 25 36 (.agg #[(.int .i64 0), (.bool false)]) 16 rfl Try.underlying25 info36 rfl (by decide) (by omega) u5 x5_1 (⟨(rd_T36 t401 x6_1).f0, (rd_T36 t401 x6_1).f1⟩ : S36) [.int .i64 ((rd_T36 t401 x6_1).f0), .bool ((rd_T36 t401 x6_1).f1)] (fun k_ => nb k_ (.slice (some ad437) t401.length co51)) (fun _ => False) rfl rfl ?aP (fun _ hk => hk.elim) ?aF ?aO (Below.refl _ _) ?aS ?aL ?_; (case aP => exact k36_mkM _ _ _ (⟨(rd_T36 t401 x6_1).f0, (rd_T36 t401 x6_1).f1⟩ : S36)); (case aF => exact (fun k_ hk => Kd.fresh' (Kd.R_lt (upR HO_4)) k_ hk)); (case aO => exact (upR HO_5)); (case aS => exact (keep_size (w := w) (g := g) (row := none) (by repeat (first | (with_reducible first | exact HK.out | apply KeepBut.set_ | apply keep_drewN | apply keep_drew | apply keep_alloc) | exact HK.out)))); (case aL => have := LMc50.out; omega); intro v439 w53 ho hb hg hat; rw [← Ny438.out] at ho; have n0_ := Q0_ (Kd.R_after (ok := (fun _ => True)) (upR' (Kd.R_mono HO_4.out (fun _ hk => ⟨trivial, hk⟩))) hg hat); have n1_ := Q0_ (IsS79.grown (by repeat (first | (with_reducible first | exact HI0.out | apply IsS79.alloc | apply IsS79.drewN | apply IsS79.drew | apply IsS79.set_1) | exact HI0.out)) hg (IsS79.own_ne HI0.out HO_5.out (by decide))); have n2_ := Q0_ (below_weaken (by repeat (first | (with_reducible first | exact HB.out | apply below_alloc | apply pw_below_drewN | apply below_drew1 | refine below_set ?_ (IsS79.ge HI0.out)) | exact HB.out)) HL.out hb); have n3_ := Q0_ (KeepBut.trans (by repeat (first | (with_reducible first | exact HK.out | apply KeepBut.set_ | apply keep_drewN | apply keep_drew | apply keep_alloc) | exact HK.out)) (KeepBut.of_grown hg g) (Kd.R_base2 HO_5.out)); have n4_ := Q0_ (ho); clear HO_4 HI0 HB HK HO_5; revert n0_ n1_ n2_ n3_ n4_; intro HO_4 HI0 HB HK HO440; clear ho hb hg hat))
    first | go_roundg k1 | ((try simp only [← hji29] at H' ⊢); go_roundg k1)
    case measure => have := HK1.out; omega
    case rel => exact ⟨(y438), (wrap64 (x6_1 + 1)), (t415), eX, H', ⟨by have := HK1.out; omega⟩, ⟨by (with_reducible repeat (first | apply Kd.R_alloc | apply Kd.R_drewN | apply Kd.R_drew)); exact Kd.R_mono HO_4.out (fun _ hk => hk.2)⟩, ⟨by (with_reducible repeat (first | apply Kd.R_alloc | apply Kd.R_drewN | apply Kd.R_drew)); exact HO440.out⟩, ⟨by repeat (first | (with_reducible first | exact HI0.out | apply IsS79.alloc | apply IsS79.drewN | apply IsS79.drew | apply IsS79.set_1) | exact HI0.out)⟩, ⟨by repeat (first | (with_reducible first | exact HK.out | apply KeepBut.set_ | apply keep_drewN | apply keep_drew | apply keep_alloc) | exact HK.out)⟩, ⟨by repeat (first | (with_reducible first | exact HB.out | apply below_alloc | apply pw_below_drewN | apply below_drew1 | refine below_set ?_ (IsS79.ge HI0.out)) | exact HB.out)⟩⟩
   rw [if_pos c34] at H
   have c34b0 : (t414 == 3) = true := beq_iff_eq.mpr c34
   have c34b1 : (t414 != 3) = false := bne_eq_false_iff_eq.mpr c34
   clear c34
   by_cases c35 : 0 ≤ x6_1
   rotate_left
   ·rw [if_neg c35] at H
    exact absurd H (by simp)
   rw [if_pos c35] at H
   have c35b0 : decide (0 ≤ x6_1) = true := decide_eq_true c35
   clear c35
   obtain ⟨ji36, hji36⟩ : ∃ j_ : Int, (mx 0 ((rd_T36 t401 x6_1).f0)) = j_ := ⟨_, rfl⟩
   replace H : ((spec_l1Letter.f (ji36)).bind fun t429 => (if t429 = 2 then (if x5_1.length < 8796093022208 then (spec_l92Edited.l0 k1 t401 (x5_1 ++ [(⟨(rd_T36 t401 x6_1).f0, !((rd_T36 t401 x6_1).f1)⟩ : S36)]) (wrap64 (x6_1 + 1)) s0_0 t415) else (none)) else (if x5_1.length < 8796093022208 then (spec_l92Edited.l0 k1 t401 (x5_1 ++ [(⟨(rd_T36 t401 x6_1).f0, false⟩ : S36)]) (wrap64 (x6_1 + 1)) s0_0 t415) else (none)))) = some (r1, r2, r3) := by first | (rw [hji36] at H; exact H) | (simp only [hji36] at H ⊢; exact H)
   (try rw [hji36] at A14)
   have hji36_ : (if 0 < ((rd_T36 t401 x6_1).f0) then ((rd_T36 t401 x6_1).f0) else 0) = ji36 := hji36
   obtain ⟨t429, A370, H⟩ := Option.bind_eq_some_iff.mp H
   try dsimp only at H
   have A37 := Aside0.mk A370
   clear A370
   by_cases c38 : t429 = 2
   rotate_left
   ·rw [if_neg c38] at H
    have c38b0 : (t429 == 2) = false := beq_eq_false_iff_ne.mpr c38
    have c38b1 : (t429 != 2) = true := bne_iff_ne.mpr c38
    by_cases c44 : x5_1.length < 8796093022208
    rotate_left
    ·rw [if_neg c44] at H
     exact absurd H (by simp)
    rw [if_pos c44] at H
    have LMc44 := Aside0.mk c44
    clear c44
    obtain ⟨y434, hy434⟩ : ∃ y_ : List (S36), y_ = (x5_1 ++ [(⟨(rd_T36 t401 x6_1).f0, false⟩ : S36)]) := ⟨_, rfl⟩
    replace H : (spec_l92Edited.l0 k1 t401 y434 (wrap64 (x6_1 + 1)) s0_0 t415) = some (r1, r2, r3) := by first | (rw [hy434]; with_reducible exact H) | (have H2_ := (Option.bind_some _ _).symm.trans H; rw [hy434]; with_reducible exact H2_) | (have H2_ := (Option.bind_some _ _).symm.trans H; with_reducible exact H2_) | with_reducible exact H | (rw [hy434]; exact H) | exact H
    have Ny434 := Aside0.mk hy434
    clear hy434
    have H' := Aside0.mk H
    clear H
    obtain ⟨Ao45, co45, eo45⟩ := Kd.R_slice HO_4.out
    subst eo45
    try go_wp2_with (first | ((with_reducible refine gate_callee (f := 51) rfl ?_); refine goesL_ (some 23) rfl rfl Try.func51 (by kernel_rfl) rfl #[.pointer (some ⟨g, 0, none⟩), .int .i64 8] rfl hM ?_; (with_reducible refine (spec_l6Rd_pick.calls k1 g s0_0 x1001_1 8 t414 t415 w0 _ ?side1 ?side2 A14.out).mono ?_); (case side1 => repeat (first | (with_reducible first | exact HI0.out | apply IsS79.alloc | apply IsS79.drewN | apply IsS79.drew | apply IsS79.set_1) | exact HI0.out)); (case side2 => repeat (first | (with_reducible first | exact HB.out | apply below_alloc | apply pw_below_drewN | apply below_drew1 | refine below_set ?_ (IsS79.ge HI0.out)) | exact HB.out)); rintro e w46 ⟨rfl, hi, hb, hk⟩; refine ⟨_, rfl, ?_⟩; have n0_ := Q0_ (Kd.R_mono (Kd.R_keep (IsS79.apart (show IsS79 w0 _ g s0_0 x1001_1 from by repeat (first | (with_reducible first | exact HI0.out | apply IsS79.alloc | apply IsS79.drewN | apply IsS79.drew | apply IsS79.set_1) | exact HI0.out)) (upR HO_4) (by decide)) hk (fun _ h => h.2)) (fun _ h => h.1)); have n1_ := Q0_ (Kd.R_mono (Kd.R_keep (IsS79.apart (show IsS79 w0 _ g s0_0 x1001_1 from by repeat (first | (with_reducible first | exact HI0.out | apply IsS79.alloc | apply IsS79.drewN | apply IsS79.drew | apply IsS79.set_1) | exact HI0.out)) (upR HO_5) (by decide)) hk (fun _ h => h.2)) (fun _ h => h.1)); have n2_ := Q0_ (KeepBut.trans (by repeat (first | (with_reducible first | exact HK.out | apply KeepBut.set_ | apply keep_drewN | apply keep_drew | apply keep_alloc) | exact HK.out)) hk (.inl rfl)); have n3_ := Q0_ (hb); have n4_ := Q0_ (hi); clear HO_4 HO_5 HK HB HI0; revert n0_ n1_ n2_ n3_ n4_; intro HO_4 HO_5 HK HB HI0; (try clear hb); (try clear hb2); (try clear hk); (try clear hi)))
    have n0_ := Q0_ (Kd.R_drew HO_4.out)
    have n1_ := Q0_ (Kd.R_drew HO_5.out)
    have n2_ := Q0_ (IsS79.drew HI0.out)
    have n3_ := Q0_ (keep_drew HK.out)
    have n4_ := Q0_ (below_drew1 HB.out)
    clear HO_4 HO_5 HI0 HK HB; revert n0_ n1_ n2_ n3_ n4_; intro HO_4 HO_5 HI0 HK HB
    have p427 : 0 ≤ (x6_1 : Int) := of_decide_eq_true aS
    have q427 : x6_1 < (t401.length : Int) := of_decide_eq_true aS
    obtain ⟨ad427, e427, hx427_0, hx427_1⟩ := at_T36 (Kd.R_reads' HO_4.out).2.2 x6_1 p427 q427
    cases e427
    replace p427 := eq_true p427
    replace q427 := eq_true q427
    have p428 : 0 ≤ (x6_1 : Int) := of_decide_eq_true aS
    have q428 : x6_1 < (t401.length : Int) := of_decide_eq_true aS
    obtain ⟨ad428, e428, hx428_0, hx428_1⟩ := at_T36 (Kd.R_reads' HO_4.out).2.2 x6_1 p428 q428
    obtain rfl : ad427 = ad428 := (by injection e428)
    replace p428 := eq_true p428
    replace q428 := eq_true q428
    refine start_ (n := 26) (S := fun w' => w'.cell? (ad427.add ((x6_1).toNat * 2)) = some (.int .i64 ((rd_T36 t401 x6_1).f0)) ∧ w'.cell? ⟨(ad427.add ((x6_1).toNat * 2)).block, (ad427.add ((x6_1).toNat * 2)).off + 1, none⟩ = some (.bool ((rd_T36 t401 x6_1).f1)) ∧ w'.cell? (ad427.add ((x6_1).toNat * 2)) = some (.int .i64 ((rd_T36 t401 x6_1).f0)) ∧ w'.cell? ⟨(ad427.add ((x6_1).toNat * 2)).block, (ad427.add ((x6_1).toNat * 2)).off + 1, none⟩ = some (.bool ((rd_T36 t401 x6_1).f1))) (ds := [23]) #[ff,ff,ff,ff,ff,ff,ff,ff,ff,ff,ff,ff,ff,ff,ff,ff,ff,ff,ff,ff,ff,ff,ff,ff,ff,ff] (by kernel_rfl) rfl rfl ⟨hx427_0, hx427_1, hx428_0, hx428_1⟩ (fun hHeld => ?_); refine with_tabW spec_l92Edited.tab16 spec_l92Edited.bits16 (fun HT_ HW_ => ?_)
    generalize w46.drew = w47 at HO_4 HO_5 HI0 HK HB hx427_0 hx427_1 hx428_0 hx428_1 hHeld ⊢
    refine pQ HT_ 0 (some 58) #[tt,ff,ff,ff,ff,ff,ff,ff,ff,ff,ff,ff,ff,ff,ff,ff,ff,ff,ff,ff,ff,ff,ff,ff,ff,ff] rfl rfl ?_
    refine pQ HT_ 1 (some 59) #[tt,tt,ff,ff,ff,ff,ff,ff,ff,ff,ff,ff,ff,ff,ff,ff,ff,ff,ff,ff,ff,ff,ff,ff,ff,ff] rfl rfl ?_
    refine pQ HT_ 2 (some 60) #[tt,tt,tt,ff,ff,ff,ff,ff,ff,ff,ff,ff,ff,ff,ff,ff,ff,ff,ff,ff,ff,ff,ff,ff,ff,ff] rfl rfl ?_
    refine pQ HT_ 3 (some 61) #[tt,tt,tt,tt,ff,ff,ff,ff,ff,ff,ff,ff,ff,ff,ff,ff,ff,ff,ff,ff,ff,ff,ff,ff,ff,ff] rfl rfl ?_
    refine pQ HT_ 4 (some 62) #[tt,tt,tt,tt,tt,ff,ff,ff,ff,ff,ff,ff,ff,ff,ff,ff,ff,ff,ff,ff,ff,ff,ff,ff,ff,ff] rfl rfl ?_
    refine pQ HT_ 6 (some 64) #[tt,tt,tt,tt,tt,ff,tt,ff,ff,ff,ff,ff,ff,ff,ff,ff,ff,ff,ff,ff,ff,ff,ff,ff,ff,ff] rfl rfl ?_
    refine pQ HT_ 7 (some 65) #[tt,tt,tt,tt,tt,ff,tt,tt,ff,ff,ff,ff,ff,ff,ff,ff,ff,ff,ff,ff,ff,ff,ff,ff,ff,ff] rfl rfl ?_
    refine pQ HT_ 8 (some 66) #[tt,tt,tt,tt,tt,ff,tt,tt,tt,ff,ff,ff,ff,ff,ff,ff,ff,ff,ff,ff,ff,ff,ff,ff,ff,ff] rfl rfl ?_
    refine pQ HT_ 9 (some 67) #[tt,tt,tt,tt,tt,ff,tt,tt,tt,tt,ff,ff,ff,ff,ff,ff,ff,ff,ff,ff,ff,ff,ff,ff,ff,ff] rfl rfl ?_
    refine tQ HT_ HW_ 5 (some 63) #[tt,tt,tt,tt,tt,tt,tt,tt,tt,tt,ff,ff,ff,ff,ff,ff,ff,ff,ff,ff,ff,ff,ff,ff,ff,ff] rfl rfl hHeld (by rintro w' ⟨s0, s1, s2, s3⟩; go_simp; with_reducible rfl) ?_
    refine tQ HT_ HW_ 10 (some 68) #[tt,tt,tt,tt,tt,tt,tt,tt,tt,tt,tt,ff,ff,ff,ff,ff,ff,ff,ff,ff,ff,ff,ff,ff,ff,ff] rfl rfl hHeld (by rintro w' ⟨s0, s1, s2, s3⟩; go_simp; with_reducible rfl) ?_
    refine pQ HT_ 11 (some 69) #[tt,tt,tt,tt,tt,tt,tt,tt,tt,tt,tt,tt,ff,ff,ff,ff,ff,ff,ff,ff,ff,ff,ff,ff,ff,ff] rfl rfl ?_
    refine one_ (i := 12) (N := some 70) #[tt,tt,tt,tt,tt,tt,tt,tt,tt,tt,tt,tt,tt,ff,ff,ff,ff,ff,ff,ff,ff,ff,ff,ff,ff,ff] rfl rfl (one_of HT_.out (by kernel_rfl)) (by decide) (fun K hK => ?_)
    refine goes_ Try.func52 (by kernel_rfl) rfl #[.int .i64 ji36] (by rfl) rfl rfl (by (try simp only [List.map_toArray, List.map_cons, List.map_nil]); first | done | (simp only [hji36]; rfl) | rfl | (simp only [List.length_drop, List.length_take]; rfl)) ?_
    with_reducible refine (spec_l1Letter.calls ji36 t429 _ A37.out).mono ?_
    rintro e w' ⟨rfl, ⟨nd, rfl⟩⟩
    refine ⟨_, rfl, ?_⟩
    refine hK.out _ _ ⟨hHeld.1, hHeld.2.1, hHeld.2.2.1, hHeld.2.2.2⟩ (fun hHeld => ?_)
    clear hK K
    refine norm_ (a' := ?_) ?_ ?_
    rotate_left
    ·show Act.put _ (some 70) _ = _
     simp only [Act.put, sI, s0, sS, i64_w, i32_w]
     rfl
    refine pQ HT_ 13 (some 71) #[tt,tt,tt,tt,tt,tt,tt,tt,tt,tt,tt,tt,tt,tt,ff,ff,ff,ff,ff,ff,ff,ff,ff,ff,ff,ff] rfl rfl ?_
    refine pQ HT_ 14 (some 72) #[tt,tt,tt,tt,tt,tt,tt,tt,tt,tt,tt,tt,tt,tt,tt,ff,ff,ff,ff,ff,ff,ff,ff,ff,ff,ff] rfl rfl ?_
    refine pU HT_ 15 (some 73) #[tt,tt,tt,tt,tt,tt,tt,tt,tt,tt,tt,tt,tt,tt,tt,tt,ff,ff,ff,ff,ff,ff,ff,ff,ff,ff] rfl rfl ?_
    refine pU HT_ 16 (some 74) #[tt,tt,tt,tt,tt,tt,tt,tt,tt,tt,tt,tt,tt,tt,tt,tt,tt,ff,ff,ff,ff,ff,ff,ff,ff,ff] rfl rfl ?_
    refine pU HT_ 17 (some 75) #[tt,tt,tt,tt,tt,tt,tt,tt,tt,tt,tt,tt,tt,tt,tt,tt,tt,tt,ff,ff,ff,ff,ff,ff,ff,ff] rfl rfl ?_
    refine pU HT_ 18 (some 76) #[tt,tt,tt,tt,tt,tt,tt,tt,tt,tt,tt,tt,tt,tt,tt,tt,tt,tt,tt,ff,ff,ff,ff,ff,ff,ff] rfl rfl ?_
    refine pU HT_ 19 (some 77) #[tt,tt,tt,tt,tt,tt,tt,tt,tt,tt,tt,tt,tt,tt,tt,tt,tt,tt,tt,tt,ff,ff,ff,ff,ff,ff] rfl rfl ?_
    refine pU HT_ 20 (some 78) #[tt,tt,tt,tt,tt,tt,tt,tt,tt,tt,tt,tt,tt,tt,tt,tt,tt,tt,tt,tt,tt,ff,ff,ff,ff,ff] rfl rfl ?_
    refine pQ HT_ 21 (some 79) #[tt,tt,tt,tt,tt,tt,tt,tt,tt,tt,tt,tt,tt,tt,tt,tt,tt,tt,tt,tt,tt,tt,ff,ff,ff,ff] rfl rfl ?_
    refine pQ HT_ 22 (some 80) #[tt,tt,tt,tt,tt,tt,tt,tt,tt,tt,tt,tt,tt,tt,tt,tt,tt,tt,tt,tt,tt,tt,tt,ff,ff,ff] rfl rfl ?_
    refine last_ (i := 23) (N := some 81) #[tt,tt,tt,tt,tt,tt,tt,tt,tt,tt,tt,tt,tt,tt,tt,tt,tt,tt,tt,tt,tt,tt,tt,tt,ff,ff] rfl rfl (one_of HT_.out (by kernel_rfl)) (by decide) (fun K hK => ?_)
    refine value_ (w1 := ?_) (v := ?_) (by rfl) rfl ?_ ?_
    rotate_left 2
    ·go_simp
     constructor
     ·rfl
     ·rfl
    refine hK.out _ _ ?_
    clear hK K
    refine norm_ (a' := ?_) ?_ ?_
    rotate_left
    ·show Act.put _ (some 81) _ = _
     simp only [Act.put, sI, s0, sS, i64_w, i32_w]
     rfl
    refine one_ (i := 24) (N := some 82) #[tt,tt,tt,tt,tt,tt,tt,tt,tt,tt,tt,tt,tt,tt,tt,tt,tt,tt,tt,tt,tt,tt,tt,tt,tt,ff] rfl rfl (one_of HT_.out (by kernel_rfl)) (by decide) (fun K hK => ?_)
    refine Kd.R_append_step k36 w.heap.size (by rfl) (.tmp 58) (.tmp 81) 25 36 (.agg #[(.int .i64 0), (.bool false)]) 16 rfl Try.underlying25 info36 rfl (by decide) (by omega) u5 x5_1 (⟨(rd_T36 t401 x6_1).f0, false⟩ : S36) [.int .i64 ((rd_T36 t401 x6_1).f0), .bool false] (fun k_ => nb k_ (.slice (some ad427) t401.length co45)) (fun _ => False) rfl rfl ?aP (fun _ hk => hk.elim) ?aF ?aO (Below.refl _ _) ?aS ?aL ?_
    (case aP => exact k36_mkM _ _ _ (⟨(rd_T36 t401 x6_1).f0, false⟩ : S36))
    (case aF => exact (fun k_ hk => Kd.fresh' (Kd.R_lt (upR HO_4)) k_ hk))
    (case aO => exact (upR HO_5))
    (case aS => exact (keep_size (w := w) (g := g) (row := none) (by repeat (first | (with_reducible first | exact HK.out | apply KeepBut.set_ | apply keep_drewN | apply keep_drew | apply keep_alloc) | exact HK.out))))
    (case aL => have := LMc44.out; omega)
    intro v435 w48 ho hb hg hat
    have HS0_ := cell_grown hg (hHeld.1) (by first | (rw [add_block]; exact (fun e_ => ((HO_5.out.1 _ e_.symm)) rfl)) | (show some (Addr.add _ _).block ≠ _; rw [add_block]; exact (fun e_ => ((HO_5.out.1 _ e_.symm)) rfl)) | exact (fun e_ => ((HO_5.out.1 _ e_.symm)) rfl))
    have HS1_ := cell_grown hg (hHeld.2.1) (by first | (rw [add_block]; exact (fun e_ => ((HO_5.out.1 _ e_.symm)) rfl)) | (show some (Addr.add _ _).block ≠ _; rw [add_block]; exact (fun e_ => ((HO_5.out.1 _ e_.symm)) rfl)) | exact (fun e_ => ((HO_5.out.1 _ e_.symm)) rfl))
    have HS2_ := cell_grown hg (hHeld.2.2.1) (by first | (rw [add_block]; exact (fun e_ => ((HO_5.out.1 _ e_.symm)) rfl)) | (show some (Addr.add _ _).block ≠ _; rw [add_block]; exact (fun e_ => ((HO_5.out.1 _ e_.symm)) rfl)) | exact (fun e_ => ((HO_5.out.1 _ e_.symm)) rfl))
    have HS3_ := cell_grown hg (hHeld.2.2.2) (by first | (rw [add_block]; exact (fun e_ => ((HO_5.out.1 _ e_.symm)) rfl)) | (show some (Addr.add _ _).block ≠ _; rw [add_block]; exact (fun e_ => ((HO_5.out.1 _ e_.symm)) rfl)) | exact (fun e_ => ((HO_5.out.1 _ e_.symm)) rfl))
    rw [← Ny434.out] at ho
    have n0_ := Q0_ (Kd.R_after (ok := (fun _ => True)) (upR' (Kd.R_mono HO_4.out (fun _ hk => ⟨trivial, hk⟩))) hg hat)
    have n1_ := Q0_ (IsS79.grown (by repeat (first | (with_reducible first | exact HI0.out | apply IsS79.alloc | apply IsS79.drewN | apply IsS79.drew | apply IsS79.set_1) | exact HI0.out)) hg (IsS79.own_ne HI0.out HO_5.out (by decide)))
    have n2_ := Q0_ (below_weaken (by repeat (first | (with_reducible first | exact HB.out | apply below_alloc | apply pw_below_drewN | apply below_drew1 | refine below_set ?_ (IsS79.ge HI0.out)) | exact HB.out)) HL.out hb)
    have n3_ := Q0_ (KeepBut.trans (by repeat (first | (with_reducible first | exact HK.out | apply KeepBut.set_ | apply keep_drewN | apply keep_drew | apply keep_alloc) | exact HK.out)) (KeepBut.of_grown hg g) (Kd.R_base2 HO_5.out))
    have n4_ := Q0_ (ho)
    clear HO_4 HI0 HB HK HO_5; revert n0_ n1_ n2_ n3_ n4_; intro HO_4 HI0 HB HK HO436
    clear ho hb hg hat
    refine hK.out _ _ ⟨HS0_, HS1_, HS2_, HS3_⟩ (fun hHeld => ?_)
    clear hK K
    refine norm_ (a' := ?_) ?_ ?_
    rotate_left
    ·show Act.put _ (some 82) _ = _
     simp only [Act.put, sI, s0, sS, i64_w, i32_w]
     rfl
    refine pQ HT_ 25 (some 5) #[tt,tt,tt,tt,tt,tt,tt,tt,tt,tt,tt,tt,tt,tt,tt,tt,tt,tt,tt,tt,tt,tt,tt,tt,tt,tt] rfl rfl ?_
    refine done_ (done_of HT_.out (by kernel_rfl)) ?_
    try go_wp2
    first | go_roundg k1 | ((try simp only [← hji29] at H' ⊢); (try simp only [← hji36] at H' ⊢); go_roundg k1)
    case measure => have := HK1.out; omega
    case rel => exact ⟨(y434), (wrap64 (x6_1 + 1)), (t415), eX, H', ⟨by have := HK1.out; omega⟩, ⟨by (with_reducible repeat (first | apply Kd.R_alloc | apply Kd.R_drewN | apply Kd.R_drew)); exact Kd.R_mono HO_4.out (fun _ hk => hk.2)⟩, ⟨by (with_reducible repeat (first | apply Kd.R_alloc | apply Kd.R_drewN | apply Kd.R_drew)); exact HO436.out⟩, ⟨by repeat (first | (with_reducible first | exact HI0.out | apply IsS79.alloc | apply IsS79.drewN | apply IsS79.drew | apply IsS79.set_1) | exact HI0.out)⟩, ⟨by repeat (first | (with_reducible first | exact HK.out | apply KeepBut.set_ | apply keep_drewN | apply keep_drew | apply keep_alloc) | exact HK.out)⟩, ⟨by repeat (first | (with_reducible first | exact HB.out | apply below_alloc | apply pw_below_drewN | apply below_drew1 | refine below_set ?_ (IsS79.ge HI0.out)) | exact HB.out)⟩⟩
   rw [if_pos c38] at H
   have c38b0 : (t429 == 2) = true := beq_iff_eq.mpr c38
   have c38b1 : (t429 != 2) = false := bne_eq_false_iff_eq.mpr c38
   clear c38
   by_cases c39 : x5_1.length < 8796093022208
   rotate_left
   ·rw [if_neg c39] at H
    exact absurd H (by simp)
   rw [if_pos c39] at H
   have LMc39 := Aside0.mk c39
   clear c39
   obtain ⟨y431, hy431⟩ : ∃ y_ : List (S36), y_ = (x5_1 ++ [(⟨(rd_T36 t401 x6_1).f0, !((rd_T36 t401 x6_1).f1)⟩ : S36)]) := ⟨_, rfl⟩
   replace H : (spec_l92Edited.l0 k1 t401 y431 (wrap64 (x6_1 + 1)) s0_0 t415) = some (r1, r2, r3) := by first | (rw [hy431]; with_reducible exact H) | (have H2_ := (Option.bind_some _ _).symm.trans H; rw [hy431]; with_reducible exact H2_) | (have H2_ := (Option.bind_some _ _).symm.trans H; with_reducible exact H2_) | with_reducible exact H | (rw [hy431]; exact H) | exact H
   have Ny431 := Aside0.mk hy431
   clear hy431
   have H' := Aside0.mk H
   clear H
   obtain ⟨Ao40, co40, eo40⟩ := Kd.R_slice HO_4.out
   subst eo40
   try go_wp2_with (first | ((with_reducible refine gate_callee (f := 51) rfl ?_); refine goesL_ (some 23) rfl rfl Try.func51 (by kernel_rfl) rfl #[.pointer (some ⟨g, 0, none⟩), .int .i64 8] rfl hM ?_; (with_reducible refine (spec_l6Rd_pick.calls k1 g s0_0 x1001_1 8 t414 t415 w0 _ ?side1 ?side2 A14.out).mono ?_); (case side1 => repeat (first | (with_reducible first | exact HI0.out | apply IsS79.alloc | apply IsS79.drewN | apply IsS79.drew | apply IsS79.set_1) | exact HI0.out)); (case side2 => repeat (first | (with_reducible first | exact HB.out | apply below_alloc | apply pw_below_drewN | apply below_drew1 | refine below_set ?_ (IsS79.ge HI0.out)) | exact HB.out)); rintro e w41 ⟨rfl, hi, hb, hk⟩; refine ⟨_, rfl, ?_⟩; have n0_ := Q0_ (Kd.R_mono (Kd.R_keep (IsS79.apart (show IsS79 w0 _ g s0_0 x1001_1 from by repeat (first | (with_reducible first | exact HI0.out | apply IsS79.alloc | apply IsS79.drewN | apply IsS79.drew | apply IsS79.set_1) | exact HI0.out)) (upR HO_4) (by decide)) hk (fun _ h => h.2)) (fun _ h => h.1)); have n1_ := Q0_ (Kd.R_mono (Kd.R_keep (IsS79.apart (show IsS79 w0 _ g s0_0 x1001_1 from by repeat (first | (with_reducible first | exact HI0.out | apply IsS79.alloc | apply IsS79.drewN | apply IsS79.drew | apply IsS79.set_1) | exact HI0.out)) (upR HO_5) (by decide)) hk (fun _ h => h.2)) (fun _ h => h.1)); have n2_ := Q0_ (KeepBut.trans (by repeat (first | (with_reducible first | exact HK.out | apply KeepBut.set_ | apply keep_drewN | apply keep_drew | apply keep_alloc) | exact HK.out)) hk (.inl rfl)); have n3_ := Q0_ (hb); have n4_ := Q0_ (hi); clear HO_4 HO_5 HK HB HI0; revert n0_ n1_ n2_ n3_ n4_; intro HO_4 HO_5 HK HB HI0; (try clear hb); (try clear hb2); (try clear hk); (try clear hi)))
   have n0_ := Q0_ (Kd.R_drew HO_4.out)
   have n1_ := Q0_ (Kd.R_drew HO_5.out)
   have n2_ := Q0_ (IsS79.drew HI0.out)
   have n3_ := Q0_ (keep_drew HK.out)
   have n4_ := Q0_ (below_drew1 HB.out)
   clear HO_4 HO_5 HI0 HK HB; revert n0_ n1_ n2_ n3_ n4_; intro HO_4 HO_5 HI0 HK HB
   have p427 : 0 ≤ (x6_1 : Int) := of_decide_eq_true aS
   have q427 : x6_1 < (t401.length : Int) := of_decide_eq_true aS
   obtain ⟨ad427, e427, hx427_0, hx427_1⟩ := at_T36 (Kd.R_reads' HO_4.out).2.2 x6_1 p427 q427
   cases e427
   replace p427 := eq_true p427
   replace q427 := eq_true q427
   have p428 : 0 ≤ (x6_1 : Int) := of_decide_eq_true aS
   have q428 : x6_1 < (t401.length : Int) := of_decide_eq_true aS
   obtain ⟨ad428, e428, hx428_0, hx428_1⟩ := at_T36 (Kd.R_reads' HO_4.out).2.2 x6_1 p428 q428
   obtain rfl : ad427 = ad428 := (by injection e428)
   replace p428 := eq_true p428
   replace q428 := eq_true q428
   have p430 : 0 ≤ (x6_1 : Int) := of_decide_eq_true aS
   have q430 : x6_1 < (t401.length : Int) := of_decide_eq_true aS
   obtain ⟨ad430, e430, hx430_0, hx430_1⟩ := at_T36 (Kd.R_reads' HO_4.out).2.2 x6_1 p430 q430
   obtain rfl : ad427 = ad430 := (by injection e430)
   replace p430 := eq_true p430
   replace q430 := eq_true q430
   refine start_ (n := 26) (S := fun w' => w'.cell? (ad427.add ((x6_1).toNat * 2)) = some (.int .i64 ((rd_T36 t401 x6_1).f0)) ∧ w'.cell? ⟨(ad427.add ((x6_1).toNat * 2)).block, (ad427.add ((x6_1).toNat * 2)).off + 1, none⟩ = some (.bool ((rd_T36 t401 x6_1).f1)) ∧ w'.cell? (ad427.add ((x6_1).toNat * 2)) = some (.int .i64 ((rd_T36 t401 x6_1).f0)) ∧ w'.cell? ⟨(ad427.add ((x6_1).toNat * 2)).block, (ad427.add ((x6_1).toNat * 2)).off + 1, none⟩ = some (.bool ((rd_T36 t401 x6_1).f1)) ∧ w'.cell? (ad427.add ((x6_1).toNat * 2)) = some (.int .i64 ((rd_T36 t401 x6_1).f0)) ∧ w'.cell? ⟨(ad427.add ((x6_1).toNat * 2)).block, (ad427.add ((x6_1).toNat * 2)).off + 1, none⟩ = some (.bool ((rd_T36 t401 x6_1).f1))) (ds := [23]) #[ff,ff,ff,ff,ff,ff,ff,ff,ff,ff,ff,ff,ff,ff,ff,ff,ff,ff,ff,ff,ff,ff,ff,ff,ff,ff] (by kernel_rfl) rfl rfl ⟨hx427_0, hx427_1, hx428_0, hx428_1, hx430_0, hx430_1⟩ (fun hHeld => ?_); refine with_tabW spec_l92Edited.tab16 spec_l92Edited.bits16 (fun HT_ HW_ => ?_)
   generalize w41.drew = w42 at HO_4 HO_5 HI0 HK HB hx427_0 hx427_1 hx428_0 hx428_1 hx430_0 hx430_1 hHeld ⊢
   refine pQ HT_ 0 (some 58) #[tt,ff,ff,ff,ff,ff,ff,ff,ff,ff,ff,ff,ff,ff,ff,ff,ff,ff,ff,ff,ff,ff,ff,ff,ff,ff] rfl rfl ?_
   refine pQ HT_ 1 (some 59) #[tt,tt,ff,ff,ff,ff,ff,ff,ff,ff,ff,ff,ff,ff,ff,ff,ff,ff,ff,ff,ff,ff,ff,ff,ff,ff] rfl rfl ?_
   refine pQ HT_ 2 (some 60) #[tt,tt,tt,ff,ff,ff,ff,ff,ff,ff,ff,ff,ff,ff,ff,ff,ff,ff,ff,ff,ff,ff,ff,ff,ff,ff] rfl rfl ?_
   refine pQ HT_ 3 (some 61) #[tt,tt,tt,tt,ff,ff,ff,ff,ff,ff,ff,ff,ff,ff,ff,ff,ff,ff,ff,ff,ff,ff,ff,ff,ff,ff] rfl rfl ?_
   refine pQ HT_ 4 (some 62) #[tt,tt,tt,tt,tt,ff,ff,ff,ff,ff,ff,ff,ff,ff,ff,ff,ff,ff,ff,ff,ff,ff,ff,ff,ff,ff] rfl rfl ?_
   refine pQ HT_ 6 (some 64) #[tt,tt,tt,tt,tt,ff,tt,ff,ff,ff,ff,ff,ff,ff,ff,ff,ff,ff,ff,ff,ff,ff,ff,ff,ff,ff] rfl rfl ?_
   refine pQ HT_ 7 (some 65) #[tt,tt,tt,tt,tt,ff,tt,tt,ff,ff,ff,ff,ff,ff,ff,ff,ff,ff,ff,ff,ff,ff,ff,ff,ff,ff] rfl rfl ?_
   refine pQ HT_ 8 (some 66) #[tt,tt,tt,tt,tt,ff,tt,tt,tt,ff,ff,ff,ff,ff,ff,ff,ff,ff,ff,ff,ff,ff,ff,ff,ff,ff] rfl rfl ?_
   refine pQ HT_ 9 (some 67) #[tt,tt,tt,tt,tt,ff,tt,tt,tt,tt,ff,ff,ff,ff,ff,ff,ff,ff,ff,ff,ff,ff,ff,ff,ff,ff] rfl rfl ?_
   refine tQ HT_ HW_ 5 (some 63) #[tt,tt,tt,tt,tt,tt,tt,tt,tt,tt,ff,ff,ff,ff,ff,ff,ff,ff,ff,ff,ff,ff,ff,ff,ff,ff] rfl rfl hHeld (by rintro w' ⟨s0, s1, s2, s3, s4, s5⟩; go_simp; with_reducible rfl) ?_
   refine tQ HT_ HW_ 10 (some 68) #[tt,tt,tt,tt,tt,tt,tt,tt,tt,tt,tt,ff,ff,ff,ff,ff,ff,ff,ff,ff,ff,ff,ff,ff,ff,ff] rfl rfl hHeld (by rintro w' ⟨s0, s1, s2, s3, s4, s5⟩; go_simp; with_reducible rfl) ?_
   refine pQ HT_ 11 (some 69) #[tt,tt,tt,tt,tt,tt,tt,tt,tt,tt,tt,tt,ff,ff,ff,ff,ff,ff,ff,ff,ff,ff,ff,ff,ff,ff] rfl rfl ?_
   refine one_ (i := 12) (N := some 70) #[tt,tt,tt,tt,tt,tt,tt,tt,tt,tt,tt,tt,tt,ff,ff,ff,ff,ff,ff,ff,ff,ff,ff,ff,ff,ff] rfl rfl (one_of HT_.out (by kernel_rfl)) (by decide) (fun K hK => ?_)
   refine goes_ Try.func52 (by kernel_rfl) rfl #[.int .i64 ji36] (by rfl) rfl rfl (by (try simp only [List.map_toArray, List.map_cons, List.map_nil]); first | done | (simp only [hji36]; rfl) | rfl | (simp only [List.length_drop, List.length_take]; rfl)) ?_
   with_reducible refine (spec_l1Letter.calls ji36 t429 _ A37.out).mono ?_
   rintro e w' ⟨rfl, ⟨nd, rfl⟩⟩
   refine ⟨_, rfl, ?_⟩
   refine hK.out _ _ ⟨hHeld.1, hHeld.2.1, hHeld.2.2.1, hHeld.2.2.2.1, hHeld.2.2.2.2.1, hHeld.2.2.2.2.2⟩ (fun hHeld => ?_)
   clear hK K
   refine norm_ (a' := ?_) ?_ ?_
   rotate_left
   ·show Act.put _ (some 70) _ = _
    simp only [Act.put, sI, s0, sS, i64_w, i32_w]
    rfl
   refine pQ HT_ 13 (some 71) #[tt,tt,tt,tt,tt,tt,tt,tt,tt,tt,tt,tt,tt,tt,ff,ff,ff,ff,ff,ff,ff,ff,ff,ff,ff,ff] rfl rfl ?_
   refine pQ HT_ 14 (some 72) #[tt,tt,tt,tt,tt,tt,tt,tt,tt,tt,tt,tt,tt,tt,tt,ff,ff,ff,ff,ff,ff,ff,ff,ff,ff,ff] rfl rfl ?_
   refine pQ HT_ 15 (some 73) #[tt,tt,tt,tt,tt,tt,tt,tt,tt,tt,tt,tt,tt,tt,tt,tt,ff,ff,ff,ff,ff,ff,ff,ff,ff,ff] rfl rfl ?_
   refine pQ HT_ 16 (some 74) #[tt,tt,tt,tt,tt,tt,tt,tt,tt,tt,tt,tt,tt,tt,tt,tt,tt,ff,ff,ff,ff,ff,ff,ff,ff,ff] rfl rfl ?_
   refine pQ HT_ 17 (some 75) #[tt,tt,tt,tt,tt,tt,tt,tt,tt,tt,tt,tt,tt,tt,tt,tt,tt,tt,ff,ff,ff,ff,ff,ff,ff,ff] rfl rfl ?_
   refine pQ HT_ 18 (some 76) #[tt,tt,tt,tt,tt,tt,tt,tt,tt,tt,tt,tt,tt,tt,tt,tt,tt,tt,tt,ff,ff,ff,ff,ff,ff,ff] rfl rfl ?_
   refine tQ HT_ HW_ 19 (some 77) #[tt,tt,tt,tt,tt,tt,tt,tt,tt,tt,tt,tt,tt,tt,tt,tt,tt,tt,tt,tt,ff,ff,ff,ff,ff,ff] rfl rfl hHeld (by rintro w' ⟨s0, s1, s2, s3, s4, s5⟩; go_simp; with_reducible rfl) ?_
   refine pQ HT_ 20 (some 78) #[tt,tt,tt,tt,tt,tt,tt,tt,tt,tt,tt,tt,tt,tt,tt,tt,tt,tt,tt,tt,tt,ff,ff,ff,ff,ff] rfl rfl ?_
   refine pQ HT_ 21 (some 79) #[tt,tt,tt,tt,tt,tt,tt,tt,tt,tt,tt,tt,tt,tt,tt,tt,tt,tt,tt,tt,tt,tt,ff,ff,ff,ff] rfl rfl ?_
   refine pQ HT_ 22 (some 80) #[tt,tt,tt,tt,tt,tt,tt,tt,tt,tt,tt,tt,tt,tt,tt,tt,tt,tt,tt,tt,tt,tt,tt,ff,ff,ff] rfl rfl ?_
   refine last_ (i := 23) (N := some 81) #[tt,tt,tt,tt,tt,tt,tt,tt,tt,tt,tt,tt,tt,tt,tt,tt,tt,tt,tt,tt,tt,tt,tt,tt,ff,ff] rfl rfl (one_of HT_.out (by kernel_rfl)) (by decide) (fun K hK => ?_)
   refine value_ (w1 := ?_) (v := ?_) (by rfl) rfl ?_ ?_
   rotate_left 2
   ·go_simp
    constructor
    ·rfl
    ·rfl
   refine hK.out _ _ ?_
   clear hK K
   refine norm_ (a' := ?_) ?_ ?_
   rotate_left
   ·show Act.put _ (some 81) _ = _
    simp only [Act.put, sI, s0, sS, i64_w, i32_w]
    rfl
   refine one_ (i := 24) (N := some 82) #[tt,tt,tt,tt,tt,tt,tt,tt,tt,tt,tt,tt,tt,tt,tt,tt,tt,tt,tt,tt,tt,tt,tt,tt,tt,ff] rfl rfl (one_of HT_.out (by kernel_rfl)) (by decide) (fun K hK => ?_)
   refine Kd.R_append_step k36 w.heap.size (by rfl) (.tmp 58) (.tmp 81) 25 36 (.agg #[(.int .i64 0), (.bool false)]) 16 rfl Try.underlying25 info36 rfl (by decide) (by omega) u5 x5_1 (⟨(rd_T36 t401 x6_1).f0, !((rd_T36 t401 x6_1).f1)⟩ : S36) [.int .i64 ((rd_T36 t401 x6_1).f0), .bool (!((rd_T36 t401 x6_1).f1))] (fun k_ => nb k_ (.slice (some ad427) t401.length co40)) (fun _ => False) rfl rfl ?aP (fun _ hk => hk.elim) ?aF ?aO (Below.refl _ _) ?aS ?aL ?_
   (case aP => exact k36_mkM _ _ _ (⟨(rd_T36 t401 x6_1).f0, !((rd_T36 t401 x6_1).f1)⟩ : S36))
   (case aF => exact (fun k_ hk => Kd.fresh' (Kd.R_lt (upR HO_4)) k_ hk))
   (case aO => exact (upR HO_5))
   (case aS => exact (keep_size (w := w) (g := g) (row := none) (by repeat (first | (with_reducible first | exact HK.out | apply KeepBut.set_ | apply keep_drewN | apply keep_drew | apply keep_alloc) | exact HK.out))))
   (case aL => have := LMc39.out; omega)
   intro v432 w43 ho hb hg hat
   have HS0_ := cell_grown hg (hHeld.1) (by first | (rw [add_block]; exact (fun e_ => ((HO_5.out.1 _ e_.symm)) rfl)) | (show some (Addr.add _ _).block ≠ _; rw [add_block]; exact (fun e_ => ((HO_5.out.1 _ e_.symm)) rfl)) | exact (fun e_ => ((HO_5.out.1 _ e_.symm)) rfl))
   have HS1_ := cell_grown hg (hHeld.2.1) (by first | (rw [add_block]; exact (fun e_ => ((HO_5.out.1 _ e_.symm)) rfl)) | (show some (Addr.add _ _).block ≠ _; rw [add_block]; exact (fun e_ => ((HO_5.out.1 _ e_.symm)) rfl)) | exact (fun e_ => ((HO_5.out.1 _ e_.symm)) rfl))
   have HS2_ := cell_grown hg (hHeld.2.2.1) (by first | (rw [add_block]; exact (fun e_ => ((HO_5.out.1 _ e_.symm)) rfl)) | (show some (Addr.add _ _).block ≠ _; rw [add_block]; exact (fun e_ => ((HO_5.out.1 _ e_.symm)) rfl)) | exact (fun e_ => ((HO_5.out.1 _ e_.symm)) rfl))
   have HS3_ := cell_grown hg (hHeld.2.2.2.1) (by first | (rw [add_block]; exact (fun e_ => ((HO_5.out.1 _ e_.symm)) rfl)) | (show some (Addr.add _ _).block ≠ _; rw [add_block]; exact (fun e_ => ((HO_5.out.1 _ e_.symm)) rfl)) | exact (fun e_ => ((HO_5.out.1 _ e_.symm)) rfl))
   have HS4_ := cell_grown hg (hHeld.2.2.2.2.1) (by first | (rw [add_block]; exact (fun e_ => ((HO_5.out.1 _ e_.symm)) rfl)) | (show some (Addr.add _ _).block ≠ _; rw [add_block]; exact (fun e_ => ((HO_5.out.1 _ e_.symm)) rfl)) | exact (fun e_ => ((HO_5.out.1 _ e_.symm)) rfl))
   have HS5_ := cell_grown hg (hHeld.2.2.2.2.2) (by first | (rw [add_block]; exact (fun e_ => ((HO_5.out.1 _ e_.symm)) rfl)) | (show some (Addr.add _ _).block ≠ _; rw [add_block]; exact (fun e_ => ((HO_5.out.1 _ e_.symm)) rfl)) | exact (fun e_ => ((HO_5.out.1 _ e_.symm)) rfl))
   rw [← Ny431.out] at ho
   have n0_ := Q0_ (Kd.R_after (ok := (fun _ => True)) (upR' (Kd.R_mono HO_4.out (fun _ hk => ⟨trivial, hk⟩))) hg hat)
   have n1_ := Q0_ (IsS79.grown (by repeat (first | (with_reducible first | exact HI0.out | apply IsS79.alloc | apply IsS79.drewN | apply IsS79.drew | apply IsS79.set_1) | exact HI0.out)) hg (IsS79.own_ne HI0.out HO_5.out (by decide)))
   have n2_ := Q0_ (below_weaken (by repeat (first | (with_reducible first | exact HB.out | apply below_alloc | apply pw_below_drewN | apply below_drew1 | refine below_set ?_ (IsS79.ge HI0.out)) | exact HB.out)) HL.out hb)
   have n3_ := Q0_ (KeepBut.trans (by repeat (first | (with_reducible first | exact HK.out | apply KeepBut.set_ | apply keep_drewN | apply keep_drew | apply keep_alloc) | exact HK.out)) (KeepBut.of_grown hg g) (Kd.R_base2 HO_5.out))
   have n4_ := Q0_ (ho)
   clear HO_4 HI0 HB HK HO_5; revert n0_ n1_ n2_ n3_ n4_; intro HO_4 HI0 HB HK HO433
   clear ho hb hg hat
   refine hK.out _ _ ⟨HS0_, HS1_, HS2_, HS3_, HS4_, HS5_⟩ (fun hHeld => ?_)
   clear hK K
   refine norm_ (a' := ?_) ?_ ?_
   rotate_left
   ·show Act.put _ (some 82) _ = _
    simp only [Act.put, sI, s0, sS, i64_w, i32_w]
    rfl
   refine pQ HT_ 25 (some 5) #[tt,tt,tt,tt,tt,tt,tt,tt,tt,tt,tt,tt,tt,tt,tt,tt,tt,tt,tt,tt,tt,tt,tt,tt,tt,tt] rfl rfl ?_
   refine done_ (done_of HT_.out (by kernel_rfl)) ?_
   try go_wp2
   first | go_roundg k1 | ((try simp only [← hji29] at H' ⊢); (try simp only [← hji36] at H' ⊢); go_roundg k1)
   case measure => have := HK1.out; omega
   case rel => exact ⟨(y431), (wrap64 (x6_1 + 1)), (t415), eX, H', ⟨by have := HK1.out; omega⟩, ⟨by (with_reducible repeat (first | apply Kd.R_alloc | apply Kd.R_drewN | apply Kd.R_drew)); exact Kd.R_mono HO_4.out (fun _ hk => hk.2)⟩, ⟨by (with_reducible repeat (first | apply Kd.R_alloc | apply Kd.R_drewN | apply Kd.R_drew)); exact HO433.out⟩, ⟨by repeat (first | (with_reducible first | exact HI0.out | apply IsS79.alloc | apply IsS79.drewN | apply IsS79.drew | apply IsS79.set_1) | exact HI0.out)⟩, ⟨by repeat (first | (with_reducible first | exact HK.out | apply KeepBut.set_ | apply keep_drewN | apply keep_drew | apply keep_alloc) | exact HK.out)⟩, ⟨by repeat (first | (with_reducible first | exact HB.out | apply below_alloc | apply pw_below_drewN | apply below_drew1 | refine below_set ?_ (IsS79.ge HI0.out)) | exact HB.out)⟩⟩
end Go.Proofs.Ythpeiboobnnfgaa.E
end
section
namespace Go.Proofs.Ythpeiboobnnfgaa.E
open Go.RowKit Go.Proofs.YthpeiboobnnfgaaW.PrintWords Go.Proofs.YthpeiboobnnfgaaW.PrintLast Go.Proofs.YthpeiboobnnfgaaW.PrintMore
attribute [local go_sem] max2_int min2_int max_two min_two max_three min_three max_four min_four
set_option linter.unusedVariables false
set_option linter.unusedSimpArgs false
attribute [local go_sem] en63_mk1 en63_mk2 en63_mk3 en63_mk4
attribute [local go_sem] str_leq_ str_gtr_ str_geq_
def spec_l6Rd_of.f (k : Nat) (s0_0 : List Int) (s0_1 : Int) (l1 : List ByteArray) : Option (ByteArray × Int) := (spec_l6Rd_pick.f k s0_0 s0_1 (l1.length : Int)).bind fun bt441 => (if 0 ≤ bt441.1 then (if bt441.1 < (l1.length : Int) then (some (rdOf ByteArray.empty l1 bt441.1, bt441.2)) else (none)) else (none))
set_option maxHeartbeats 8000000 in
set_option maxRecDepth 100000 in
theorem spec_l6Rd_of.calls (k : Nat) (g : Nat) (s0_0 : List Int) (s0_1 : Int) (A1 : Option Addr) (c1 : Nat) (l1 : List ByteArray) (r1 : ByteArray) (r2 : Int) (w0 w : World) (hI : IsS79 w0 w g s0_0 s0_1) (hB : Below w0.heap.size w0 w) (hr1 : Kd.C Kd.string w A1 l1.length l1) (hc1 : l1.length ≤ c1) (hf1 : ∀ ad, A1 = some ad → 0 < l1.length → ad.block ≠ g) (h : spec_l6Rd_of.f k s0_0 s0_1 l1 = some (r1, r2)) :
  Calls Try.prog 53 #[.pointer (some ⟨g, 0, none⟩), .slice A1 l1.length c1] w fun e w' => e = .returned (.string r1) ∧ IsS79 w0 w' g s0_0 r2 ∧ Below w0.heap.size w0 w' ∧ KeepBut w w' g none := by
 have HR1 := Aside0.mk hr1
 have HC1 := Aside0.mk hc1
 clear hr1 hc1
 have HI0 := Aside0.mk hI
 have HK := Q0_ (KeepBut.refl w g none)
 have HL := Aside0.mk hB.size
 clear hI
 have HW0 := Aside0.mk hB.size
 have HB := Aside0.mk hB
 clear hB
 have H : ((spec_l6Rd_pick.f k s0_0 s0_1 (l1.length : Int)).bind fun bt441 => (if 0 ≤ bt441.1 then (if bt441.1 < (l1.length : Int) then (some (rdOf ByteArray.empty l1 bt441.1, bt441.2)) else (none)) else (none))) = some (r1, r2) := h
 clear h
 obtain ⟨⟨t441, t442⟩, A30, H⟩ := Option.bind_eq_some_iff.mp H
 try dsimp only at H
 have A3 := Aside0.mk A30
 clear A30
 by_cases c4 : 0 ≤ t441
 rotate_left
 ·rw [if_neg c4] at H
  exact absurd H (by simp)
 rw [if_pos c4] at H
 have c4b0 : decide (0 ≤ t441) = true := decide_eq_true c4
 clear c4
 by_cases c5 : t441 < (l1.length : Int)
 rotate_left
 ·rw [if_neg c5] at H
  exact absurd H (by simp)
 rw [if_pos c5] at H
 have c5b0 : decide (t441 < (l1.length : Int)) = true := decide_eq_true c5
 clear c5
 simp only [Option.some.injEq, Prod.mk.injEq] at H
 obtain ⟨rfl, rfl⟩ := H
 go_enter Try.func53, Try.ntmps53
 go_wp2_with (first | ((with_reducible refine gate_callee (f := 51) rfl ?_); refine goesL_ (some 9) rfl rfl Try.func51 (by kernel_rfl) rfl #[.pointer (some ⟨g, 0, none⟩), .int .i64 (l1.length : Int)] rfl hM ?_; (with_reducible refine (spec_l6Rd_pick.calls k g s0_0 s0_1 (l1.length : Int) t441 t442 w0 _ ?side1 ?side2 A3.out).mono ?_); (case side1 => repeat (first | (with_reducible first | exact HI0.out | apply IsS79.alloc | apply IsS79.drewN | apply IsS79.drew | apply IsS79.set_1) | exact HI0.out)); (case side2 => repeat (first | (with_reducible first | exact HB.out | apply below_alloc | apply pw_below_drewN | apply below_drew1 | refine below_set ?_ (IsS79.ge HI0.out)) | exact HB.out)); rintro e w6 ⟨rfl, hi, hb, hk⟩; refine ⟨_, rfl, ?_⟩; have n0_ := Q0_ (KeepBut.trans (by repeat (first | (with_reducible first | exact HK.out | apply KeepBut.set_ | apply keep_drewN | apply keep_drew | apply keep_alloc) | exact HK.out)) hk (.inl rfl)); have n1_ := Q0_ (hb); have n2_ := Q0_ (hi); clear HK HB HI0; revert n0_ n1_ n2_; intro HK HB HI0; (try clear hb); (try clear hb2); (try clear hk); (try clear hi); have p443 : 0 ≤ (t441 : Int) := of_decide_eq_true aS; have q443 : t441 < (l1.length : Int) := of_decide_eq_true aS; obtain ⟨ad443, e443, hx443_0⟩ := Kd.at_string HR1.out t441 p443 q443; cases e443; replace hx443_0 := keep_cell HK.out hx443_0 (by first | (rw [add_block]; exact hf1 _ rfl (by omega)) | exact hf1 _ rfl (by omega) | exact hf1 ad443 rfl (by omega)); replace p443 := eq_true p443; replace q443 := eq_true q443))
 go_ret
 exact ⟨by first | rfl | (simp [errW_none, errW_some] <;> rfl) | (simp [*, errW_none, errW_some] <;> rfl), by repeat (first | (with_reducible first | exact HI0.out | apply IsS79.alloc | apply IsS79.drewN | apply IsS79.drew | apply IsS79.set_1) | exact HI0.out), by repeat (first | (with_reducible first | exact HB.out | apply below_alloc | apply pw_below_drewN | apply below_drew1 | refine below_set ?_ (IsS79.ge HI0.out)) | exact HB.out), by repeat (first | (with_reducible first | exact HK.out | apply KeepBut.set_ | apply keep_drewN | apply keep_drew | apply keep_alloc) | exact HK.out)⟩
end Go.Proofs.Ythpeiboobnnfgaa.E
end
section
namespace Go.Proofs.Ythpeiboobnnfgaa.E
open Go.RowKit Go.Proofs.YthpeiboobnnfgaaW.PrintWords Go.Proofs.YthpeiboobnnfgaaW.PrintLast Go.Proofs.YthpeiboobnnfgaaW.PrintMore
attribute [local go_sem] max2_int min2_int max_two min_two max_three min_three max_four min_four
set_option linter.unusedVariables false
set_option linter.unusedSimpArgs false
attribute [local go_sem high] eqA36
attribute [local go_sem] en63_mk1 en63_mk2 en63_mk3 en63_mk4
attribute [local go_sem] str_leq_ str_gtr_ str_geq_
mutual
def spec_l92Aligned.l0 : Nat → List (S36) → List (S36) → ByteArray → Int → Int → List Int → Int → Option ((List (S36)) × (List (S36)) × ByteArray × Int)
 | 0, _, _, _, _, _, _, _ => none
 | k + 1, x5, x6, x9, x10, x11, x1000, x1001 => if x10 < (x5.length : Int) then (spec_l92Aligned.j1 k x5 x6 x9 x10 x11 true x1000 x1001) else (spec_l92Aligned.j1 k x5 x6 x9 x10 x11 (decide (x11 < (x6.length : Int))) x1000 x1001)
def spec_l92Aligned.j1 : Nat → List (S36) → List (S36) → ByteArray → Int → Int → Bool → List Int → Int → Option ((List (S36)) × (List (S36)) × ByteArray × Int)
 | 0, _, _, _, _, _, _, _, _ => none
 | k + 1, x5, x6, x9, x10, x11, x46, x1000, x1001 => if x46 = true then (if x11 = (x6.length : Int) then (spec_l92Aligned.j2 k x5 x6 x9 x10 x11 true x1000 x1001) else (if x10 < (x5.length : Int) then ((spec_l6Rd_pick.f k x1000 x1001 3).bind fun bt462 => (spec_l92Aligned.j2 k x5 x6 x9 x10 x11 (bt462.1 == 0) x1000 bt462.2)) else (spec_l92Aligned.j2 k x5 x6 x9 x10 x11 false x1000 x1001))) else (some (x5, x6, x9, x1001))
def spec_l92Aligned.j2 : Nat → List (S36) → List (S36) → ByteArray → Int → Int → Bool → List Int → Int → Option ((List (S36)) × (List (S36)) × ByteArray × Int)
 | 0, _, _, _, _, _, _, _, _ => none
 | k + 1, x5, x6, x9, x10, x11, x53, x1000, x1001 => if x53 = true then (if x9.size + 1 ≤ 9223372036854775807 then (spec_l92Aligned.l0 k x5 x6 (x9 ++ (⟨#[111]⟩ : ByteArray)) (wrap64 (x10 + 1)) x11 x1000 x1001) else (none)) else (if x10 = (x5.length : Int) then (spec_l92Aligned.j3 k x5 x6 x9 x10 x11 true x1000 x1001) else ((spec_l6Rd_pick.f k x1000 x1001 2).bind fun bt464 => (spec_l92Aligned.j3 k x5 x6 x9 x10 x11 (bt464.1 == 0) x1000 bt464.2)))
def spec_l92Aligned.j3 : Nat → List (S36) → List (S36) → ByteArray → Int → Int → Bool → List Int → Int → Option ((List (S36)) × (List (S36)) × ByteArray × Int)
 | 0, _, _, _, _, _, _, _, _ => none
 | k + 1, x5, x6, x9, x10, x11, x73, x1000, x1001 => if x73 = true then (if x9.size + 1 ≤ 9223372036854775807 then (spec_l92Aligned.l0 k x5 x6 (x9 ++ (⟨#[105]⟩ : ByteArray)) x10 (wrap64 (x11 + 1)) x1000 x1001) else (none)) else (if 0 ≤ x10 then (if x10 < (x5.length : Int) then (if 0 ≤ x11 then (if x11 < (x6.length : Int) then (if (((rd_T36 x5 x10).f0) == ((rd_T36 x6 x11).f0) && (((rd_T36 x5 x10).f1) == ((rd_T36 x6 x11).f1))) = true then (if x9.size + 1 ≤ 9223372036854775807 then (spec_l92Aligned.l0 k x5 x6 (x9 ++ (⟨#[107]⟩ : ByteArray)) (wrap64 (x10 + 1)) (wrap64 (x11 + 1)) x1000 x1001) else (none)) else (if x9.size + 1 ≤ 9223372036854775807 then (spec_l92Aligned.l0 k x5 x6 (x9 ++ (⟨#[114]⟩ : ByteArray)) (wrap64 (x10 + 1)) (wrap64 (x11 + 1)) x1000 x1001) else (none))) else (none)) else (none)) else (none)) else (none))
end
def spec_l92Aligned.f (k : Nat) (s0_0 : List Int) (s0_1 : Int) : Option ((List (S36)) × (List (S36)) × ByteArray × Int) := (spec_l92Edited.f k s0_0 s0_1).bind fun bt444 => ((spec_l6Rd_pick.f k s0_0 bt444.2.2 2).bind fun bt451 => (if bt451.1 = 0 then ((spec_EditText.f k bt444.1 bt444.2.1).bind fun bt453 => ((spec_l6Rd_pick.f k s0_0 bt451.2 6).bind fun bt455 => (if bt455.1 = 0 then ((spec_l6Rd_of.f k s0_0 bt455.2 (([(⟨#[107]⟩ : ByteArray), (⟨#[105]⟩ : ByteArray), (⟨#[120]⟩ : ByteArray)] : List ByteArray))).bind fun bt460 => (if bt453.1.size + bt460.1.size ≤ 9223372036854775807 then (some (bt444.1, bt444.2.1, bt453.1 ++ bt460.1, bt460.2)) else (none))) else (some (bt444.1, bt444.2.1, bt453.1, bt455.2))))) else (spec_l92Aligned.l0 k bt444.1 bt444.2.1 (⟨#[]⟩ : ByteArray) 0 0 s0_0 bt451.2)))
set_option maxHeartbeats 8000000 in
set_option maxRecDepth 100000 in
theorem spec_l92Aligned.calls (k : Nat) (g : Nat) (s0_0 : List Int) (s0_1 : Int) (r1 : List (S36)) (r2 : List (S36)) (r3 : ByteArray) (r4 : Int) (w0 w : World) (hI : IsS79 w0 w g s0_0 s0_1) (hB : Below w0.heap.size w0 w) (h : spec_l92Aligned.f k s0_0 s0_1 = some (r1, r2, r3, r4)) :
  Calls Try.prog 46 #[.pointer (some ⟨g, 0, none⟩)] w fun e w' => ∃ v0_ v1_ : Value, e = .returned (.tuple #[v0_, v1_, .string r3]) ∧ Kd.R k36 36 w' w.heap.size (fun k_ => nb k_ (v1_)) v0_ r1 ∧ Kd.R k36 36 w' w.heap.size (fun k_ => nb k_ (v0_)) v1_ r2 ∧ IsS79 w0 w' g s0_0 r4 ∧ Below w0.heap.size w0 w' ∧ KeepBut w w' g none := by
 have hu36 := Try.underlying36
 have HI0 := Aside0.mk hI
 have HK := Q0_ (KeepBut.refl w g none)
 have HL := Aside0.mk hB.size
 clear hI
 have HW0 := Aside0.mk hB.size
 have HB := Aside0.mk hB
 clear hB
 have H : ((spec_l92Edited.f k s0_0 s0_1).bind fun bt444 => ((spec_l6Rd_pick.f k s0_0 bt444.2.2 2).bind fun bt451 => (if bt451.1 = 0 then ((spec_EditText.f k bt444.1 bt444.2.1).bind fun bt453 => ((spec_l6Rd_pick.f k s0_0 bt451.2 6).bind fun bt455 => (if bt455.1 = 0 then ((spec_l6Rd_of.f k s0_0 bt455.2 (([(⟨#[107]⟩ : ByteArray), (⟨#[105]⟩ : ByteArray), (⟨#[120]⟩ : ByteArray)] : List ByteArray))).bind fun bt460 => (if bt453.1.size + bt460.1.size ≤ 9223372036854775807 then (some (bt444.1, bt444.2.1, bt453.1 ++ bt460.1, bt460.2)) else (none))) else (some (bt444.1, bt444.2.1, bt453.1, bt455.2))))) else (spec_l92Aligned.l0 k bt444.1 bt444.2.1 (⟨#[]⟩ : ByteArray) 0 0 s0_0 bt451.2)))) = some (r1, r2, r3, r4) := h
 clear h
 obtain ⟨⟨t444, t447, t450⟩, A20, H⟩ := Option.bind_eq_some_iff.mp H
 try dsimp only at H
 have A2 := Aside0.mk A20
 clear A20
 obtain ⟨⟨t451, t452⟩, A30, H⟩ := Option.bind_eq_some_iff.mp H
 try dsimp only at H
 have A3 := Aside0.mk A30
 clear A30
 by_cases c4 : t451 = 0
 ·rw [if_pos c4] at H
  have c4b0 : (t451 == 0) = true := beq_iff_eq.mpr c4
  have c4b1 : (t451 != 0) = false := bne_eq_false_iff_eq.mpr c4
  clear c4
  obtain ⟨⟨t453, t454⟩, A50, H⟩ := Option.bind_eq_some_iff.mp H
  try dsimp only at H
  have A5 := Aside0.mk A50
  clear A50
  obtain ⟨⟨t455, t456⟩, A60, H⟩ := Option.bind_eq_some_iff.mp H
  try dsimp only at H
  have A6 := Aside0.mk A60
  clear A60
  by_cases c7 : t455 = 0
  rotate_left
  ·rw [if_neg c7] at H
   have c7b0 : (t455 == 0) = false := beq_eq_false_iff_ne.mpr c7
   have c7b1 : (t455 != 0) = true := bne_iff_ne.mpr c7
   simp only [Option.some.injEq, Prod.mk.injEq] at H
   obtain ⟨rfl, rfl, rfl, rfl⟩ := H
   go_enter Try.func46, Try.ntmps46
   go_wp2_with (first | (go_at_call 42; (with_reducible refine (spec_l92Edited.calls k g s0_0 s0_1 t444 t447 t450 w0 _ ?side1 ?side2 A2.out).mono ?_); (case side1 => repeat (first | (with_reducible first | exact HI0.out | apply IsS79.alloc | apply IsS79.drewN | apply IsS79.drew | apply IsS79.set_1) | exact HI0.out)); (case side2 => repeat (first | (with_reducible first | exact HB.out | apply below_alloc | apply pw_below_drewN | apply below_drew1 | refine below_set ?_ (IsS79.ge HI0.out)) | exact HB.out)); rintro e w20 ⟨v445, v448, rfl, ho0, ho1, hi, hb, hk⟩; have n0_ := Q0_ (Kd.R_lower ho0 (keep_size (w := w) (g := g) (row := none) (by repeat (first | (with_reducible first | exact HK.out | apply KeepBut.set_ | apply keep_drewN | apply keep_drew | apply keep_alloc) | exact HK.out)))); have n1_ := Q0_ (Kd.R_lower ho1 (keep_size (w := w) (g := g) (row := none) (by repeat (first | (with_reducible first | exact HK.out | apply KeepBut.set_ | apply keep_drewN | apply keep_drew | apply keep_alloc) | exact HK.out)))); have n2_ := Q0_ (KeepBut.trans (by repeat (first | (with_reducible first | exact HK.out | apply KeepBut.set_ | apply keep_drewN | apply keep_drew | apply keep_alloc) | exact HK.out)) hk (.inl rfl)); have n3_ := Q0_ (hb); have n4_ := Q0_ (hi); clear HK HB HI0; revert n0_ n1_ n2_ n3_ n4_; intro HO446 HO449 HK HB HI0; (try clear hb); (try clear hb2); (try clear hk); (try clear hi); (try clear ho0); (try clear ho1)) | (go_at_call 51; (with_reducible refine (spec_l6Rd_pick.calls k g s0_0 t450 2 t451 t452 w0 _ ?side1 ?side2 A3.out).mono ?_); (case side1 => repeat (first | (with_reducible first | exact HI0.out | apply IsS79.alloc | apply IsS79.drewN | apply IsS79.drew | apply IsS79.set_1) | exact HI0.out)); (case side2 => repeat (first | (with_reducible first | exact HB.out | apply below_alloc | apply pw_below_drewN | apply below_drew1 | refine below_set ?_ (IsS79.ge HI0.out)) | exact HB.out)); rintro e w21 ⟨rfl, hi, hb, hk⟩; have n0_ := Q0_ (Kd.R_mono (Kd.R_keep (IsS79.apart (show IsS79 w0 _ g s0_0 t450 from by repeat (first | (with_reducible first | exact HI0.out | apply IsS79.alloc | apply IsS79.drewN | apply IsS79.drew | apply IsS79.set_1) | exact HI0.out)) (upR HO446) (by decide)) hk (fun _ h => h.2)) (fun _ h => h.1)); have n1_ := Q0_ (Kd.R_mono (Kd.R_keep (IsS79.apart (show IsS79 w0 _ g s0_0 t450 from by repeat (first | (with_reducible first | exact HI0.out | apply IsS79.alloc | apply IsS79.drewN | apply IsS79.drew | apply IsS79.set_1) | exact HI0.out)) (upR HO449) (by decide)) hk (fun _ h => h.2)) (fun _ h => h.1)); have n2_ := Q0_ (KeepBut.trans (by repeat (first | (with_reducible first | exact HK.out | apply KeepBut.set_ | apply keep_drewN | apply keep_drew | apply keep_alloc) | exact HK.out)) hk (.inl rfl)); have n3_ := Q0_ (hb); have n4_ := Q0_ (hi); clear HO446 HO449 HK HB HI0; revert n0_ n1_ n2_ n3_ n4_; intro HO446 HO449 HK HB HI0; (try clear hb); (try clear hb2); (try clear hk); (try clear hi); obtain ⟨Ao22, co22, eo22⟩ := Kd.R_slice HO446.out; subst eo22; obtain ⟨Ao23, co23, eo23⟩ := Kd.R_slice HO449.out; subst eo23) | (go_at_call 28; (with_reducible refine (spec_EditText.calls k _ _ t444 _ _ t447 t453 t454 _ ?side1 ?side2 ?side3 ?side4 A5.out).mono ?_); (case side1 => repeat (first | exact (Kd.R_reads' HO446.out).2.2 | (with_reducible refine Kd.C_alloc ?_ _) | (with_reducible refine Kd.C_drewN ?_ _) | (with_reducible refine Kd.C_drew ?_))); (case side2 => exact (Kd.R_reads' HO446.out).2.1); (case side3 => repeat (first | exact (Kd.R_reads' HO449.out).2.2 | (with_reducible refine Kd.C_alloc ?_ _) | (with_reducible refine Kd.C_drewN ?_ _) | (with_reducible refine Kd.C_drew ?_))); (case side4 => exact (Kd.R_reads' HO449.out).2.1); rintro e w24 ⟨rfl, hb⟩; have n0_ := Q0_ (Kd.R_below (upR HO446) hb); have n1_ := Q0_ (Kd.R_below (upR HO449) hb); have n2_ := Q0_ (IsS79.below (by repeat (first | (with_reducible first | exact HI0.out | apply IsS79.alloc | apply IsS79.drewN | apply IsS79.drew | apply IsS79.set_1) | exact HI0.out)) hb); have n3_ := Q0_ (KeepBut.trans (by repeat (first | (with_reducible first | exact HK.out | apply KeepBut.set_ | apply keep_drewN | apply keep_drew | apply keep_alloc) | exact HK.out)) (KeepBut.of_below hb g none) (.inl rfl)); have n4_ := Q0_ (below_step (by repeat (first | (with_reducible first | exact HB.out | apply below_alloc | apply pw_below_drewN | apply below_drew1 | refine below_set ?_ (IsS79.ge HI0.out)) | exact HB.out)) hb); clear HO446 HO449 HI0 HK HB; revert n0_ n1_ n2_ n3_ n4_; intro HO446 HO449 HI0 HK HB; (try clear hb); (try clear hb2); (try clear hk); (try clear hi)) | (go_at_call 51; (with_reducible refine (spec_l6Rd_pick.calls k g s0_0 t452 6 t455 t456 w0 _ ?side1 ?side2 A6.out).mono ?_); (case side1 => repeat (first | (with_reducible first | exact HI0.out | apply IsS79.alloc | apply IsS79.drewN | apply IsS79.drew | apply IsS79.set_1) | exact HI0.out)); (case side2 => repeat (first | (with_reducible first | exact HB.out | apply below_alloc | apply pw_below_drewN | apply below_drew1 | refine below_set ?_ (IsS79.ge HI0.out)) | exact HB.out)); rintro e w25 ⟨rfl, hi, hb, hk⟩; have n0_ := Q0_ (Kd.R_mono (Kd.R_keep (IsS79.apart (show IsS79 w0 _ g s0_0 t452 from by repeat (first | (with_reducible first | exact HI0.out | apply IsS79.alloc | apply IsS79.drewN | apply IsS79.drew | apply IsS79.set_1) | exact HI0.out)) (upR HO446) (by decide)) hk (fun _ h => h.2)) (fun _ h => h.1)); have n1_ := Q0_ (Kd.R_mono (Kd.R_keep (IsS79.apart (show IsS79 w0 _ g s0_0 t452 from by repeat (first | (with_reducible first | exact HI0.out | apply IsS79.alloc | apply IsS79.drewN | apply IsS79.drew | apply IsS79.set_1) | exact HI0.out)) (upR HO449) (by decide)) hk (fun _ h => h.2)) (fun _ h => h.1)); have n2_ := Q0_ (KeepBut.trans (by repeat (first | (with_reducible first | exact HK.out | apply KeepBut.set_ | apply keep_drewN | apply keep_drew | apply keep_alloc) | exact HK.out)) hk (.inl rfl)); have n3_ := Q0_ (hb); have n4_ := Q0_ (hi); clear HO446 HO449 HK HB HI0; revert n0_ n1_ n2_ n3_ n4_; intro HO446 HO449 HK HB HI0; (try clear hb); (try clear hb2); (try clear hk); (try clear hi)))
   repeat (go_quiet (first | (go_at_call 42; (with_reducible refine (spec_l92Edited.calls k g s0_0 s0_1 t444 t447 t450 w0 _ ?side1 ?side2 A2.out).mono ?_); (case side1 => repeat (first | (with_reducible first | exact HI0.out | apply IsS79.alloc | apply IsS79.drewN | apply IsS79.drew | apply IsS79.set_1) | exact HI0.out)); (case side2 => repeat (first | (with_reducible first | exact HB.out | apply below_alloc | apply pw_below_drewN | apply below_drew1 | refine below_set ?_ (IsS79.ge HI0.out)) | exact HB.out)); rintro e w20 ⟨v445, v448, rfl, ho0, ho1, hi, hb, hk⟩; have n0_ := Q0_ (Kd.R_lower ho0 (keep_size (w := w) (g := g) (row := none) (by repeat (first | (with_reducible first | exact HK.out | apply KeepBut.set_ | apply keep_drewN | apply keep_drew | apply keep_alloc) | exact HK.out)))); have n1_ := Q0_ (Kd.R_lower ho1 (keep_size (w := w) (g := g) (row := none) (by repeat (first | (with_reducible first | exact HK.out | apply KeepBut.set_ | apply keep_drewN | apply keep_drew | apply keep_alloc) | exact HK.out)))); have n2_ := Q0_ (KeepBut.trans (by repeat (first | (with_reducible first | exact HK.out | apply KeepBut.set_ | apply keep_drewN | apply keep_drew | apply keep_alloc) | exact HK.out)) hk (.inl rfl)); have n3_ := Q0_ (hb); have n4_ := Q0_ (hi); clear HK HB HI0; revert n0_ n1_ n2_ n3_ n4_; intro HO446 HO449 HK HB HI0; (try clear hb); (try clear hb2); (try clear hk); (try clear hi); (try clear ho0); (try clear ho1)) | (go_at_call 51; (with_reducible refine (spec_l6Rd_pick.calls k g s0_0 t450 2 t451 t452 w0 _ ?side1 ?side2 A3.out).mono ?_); (case side1 => repeat (first | (with_reducible first | exact HI0.out | apply IsS79.alloc | apply IsS79.drewN | apply IsS79.drew | apply IsS79.set_1) | exact HI0.out)); (case side2 => repeat (first | (with_reducible first | exact HB.out | apply below_alloc | apply pw_below_drewN | apply below_drew1 | refine below_set ?_ (IsS79.ge HI0.out)) | exact HB.out)); rintro e w21 ⟨rfl, hi, hb, hk⟩; have n0_ := Q0_ (Kd.R_mono (Kd.R_keep (IsS79.apart (show IsS79 w0 _ g s0_0 t450 from by repeat (first | (with_reducible first | exact HI0.out | apply IsS79.alloc | apply IsS79.drewN | apply IsS79.drew | apply IsS79.set_1) | exact HI0.out)) (upR HO446) (by decide)) hk (fun _ h => h.2)) (fun _ h => h.1)); have n1_ := Q0_ (Kd.R_mono (Kd.R_keep (IsS79.apart (show IsS79 w0 _ g s0_0 t450 from by repeat (first | (with_reducible first | exact HI0.out | apply IsS79.alloc | apply IsS79.drewN | apply IsS79.drew | apply IsS79.set_1) | exact HI0.out)) (upR HO449) (by decide)) hk (fun _ h => h.2)) (fun _ h => h.1)); have n2_ := Q0_ (KeepBut.trans (by repeat (first | (with_reducible first | exact HK.out | apply KeepBut.set_ | apply keep_drewN | apply keep_drew | apply keep_alloc) | exact HK.out)) hk (.inl rfl)); have n3_ := Q0_ (hb); have n4_ := Q0_ (hi); clear HO446 HO449 HK HB HI0; revert n0_ n1_ n2_ n3_ n4_; intro HO446 HO449 HK HB HI0; (try clear hb); (try clear hb2); (try clear hk); (try clear hi); obtain ⟨Ao22, co22, eo22⟩ := Kd.R_slice HO446.out; subst eo22; obtain ⟨Ao23, co23, eo23⟩ := Kd.R_slice HO449.out; subst eo23) | (go_at_call 28; (with_reducible refine (spec_EditText.calls k _ _ t444 _ _ t447 t453 t454 _ ?side1 ?side2 ?side3 ?side4 A5.out).mono ?_); (case side1 => repeat (first | exact (Kd.R_reads' HO446.out).2.2 | (with_reducible refine Kd.C_alloc ?_ _) | (with_reducible refine Kd.C_drewN ?_ _) | (with_reducible refine Kd.C_drew ?_))); (case side2 => exact (Kd.R_reads' HO446.out).2.1); (case side3 => repeat (first | exact (Kd.R_reads' HO449.out).2.2 | (with_reducible refine Kd.C_alloc ?_ _) | (with_reducible refine Kd.C_drewN ?_ _) | (with_reducible refine Kd.C_drew ?_))); (case side4 => exact (Kd.R_reads' HO449.out).2.1); rintro e w24 ⟨rfl, hb⟩; have n0_ := Q0_ (Kd.R_below (upR HO446) hb); have n1_ := Q0_ (Kd.R_below (upR HO449) hb); have n2_ := Q0_ (IsS79.below (by repeat (first | (with_reducible first | exact HI0.out | apply IsS79.alloc | apply IsS79.drewN | apply IsS79.drew | apply IsS79.set_1) | exact HI0.out)) hb); have n3_ := Q0_ (KeepBut.trans (by repeat (first | (with_reducible first | exact HK.out | apply KeepBut.set_ | apply keep_drewN | apply keep_drew | apply keep_alloc) | exact HK.out)) (KeepBut.of_below hb g none) (.inl rfl)); have n4_ := Q0_ (below_step (by repeat (first | (with_reducible first | exact HB.out | apply below_alloc | apply pw_below_drewN | apply below_drew1 | refine below_set ?_ (IsS79.ge HI0.out)) | exact HB.out)) hb); clear HO446 HO449 HI0 HK HB; revert n0_ n1_ n2_ n3_ n4_; intro HO446 HO449 HI0 HK HB; (try clear hb); (try clear hb2); (try clear hk); (try clear hi)) | (go_at_call 51; (with_reducible refine (spec_l6Rd_pick.calls k g s0_0 t452 6 t455 t456 w0 _ ?side1 ?side2 A6.out).mono ?_); (case side1 => repeat (first | (with_reducible first | exact HI0.out | apply IsS79.alloc | apply IsS79.drewN | apply IsS79.drew | apply IsS79.set_1) | exact HI0.out)); (case side2 => repeat (first | (with_reducible first | exact HB.out | apply below_alloc | apply pw_below_drewN | apply below_drew1 | refine below_set ?_ (IsS79.ge HI0.out)) | exact HB.out)); rintro e w25 ⟨rfl, hi, hb, hk⟩; have n0_ := Q0_ (Kd.R_mono (Kd.R_keep (IsS79.apart (show IsS79 w0 _ g s0_0 t452 from by repeat (first | (with_reducible first | exact HI0.out | apply IsS79.alloc | apply IsS79.drewN | apply IsS79.drew | apply IsS79.set_1) | exact HI0.out)) (upR HO446) (by decide)) hk (fun _ h => h.2)) (fun _ h => h.1)); have n1_ := Q0_ (Kd.R_mono (Kd.R_keep (IsS79.apart (show IsS79 w0 _ g s0_0 t452 from by repeat (first | (with_reducible first | exact HI0.out | apply IsS79.alloc | apply IsS79.drewN | apply IsS79.drew | apply IsS79.set_1) | exact HI0.out)) (upR HO449) (by decide)) hk (fun _ h => h.2)) (fun _ h => h.1)); have n2_ := Q0_ (KeepBut.trans (by repeat (first | (with_reducible first | exact HK.out | apply KeepBut.set_ | apply keep_drewN | apply keep_drew | apply keep_alloc) | exact HK.out)) hk (.inl rfl)); have n3_ := Q0_ (hb); have n4_ := Q0_ (hi); clear HO446 HO449 HK HB HI0; revert n0_ n1_ n2_ n3_ n4_; intro HO446 HO449 HK HB HI0; (try clear hb); (try clear hb2); (try clear hk); (try clear hi))); try go_wp2_with (first | (go_at_call 42; (with_reducible refine (spec_l92Edited.calls k g s0_0 s0_1 t444 t447 t450 w0 _ ?side1 ?side2 A2.out).mono ?_); (case side1 => repeat (first | (with_reducible first | exact HI0.out | apply IsS79.alloc | apply IsS79.drewN | apply IsS79.drew | apply IsS79.set_1) | exact HI0.out)); (case side2 => repeat (first | (with_reducible first | exact HB.out | apply below_alloc | apply pw_below_drewN | apply below_drew1 | refine below_set ?_ (IsS79.ge HI0.out)) | exact HB.out)); rintro e w20 ⟨v445, v448, rfl, ho0, ho1, hi, hb, hk⟩; have n0_ := Q0_ (Kd.R_lower ho0 (keep_size (w := w) (g := g) (row := none) (by repeat (first | (with_reducible first | exact HK.out | apply KeepBut.set_ | apply keep_drewN | apply keep_drew | apply keep_alloc) | exact HK.out)))); have n1_ := Q0_ (Kd.R_lower ho1 (keep_size (w := w) (g := g) (row := none) (by repeat (first | (with_reducible first | exact HK.out | apply KeepBut.set_ | apply keep_drewN | apply keep_drew | apply keep_alloc) | exact HK.out)))); have n2_ := Q0_ (KeepBut.trans (by repeat (first | (with_reducible first | exact HK.out | apply KeepBut.set_ | apply keep_drewN | apply keep_drew | apply keep_alloc) | exact HK.out)) hk (.inl rfl)); have n3_ := Q0_ (hb); have n4_ := Q0_ (hi); clear HK HB HI0; revert n0_ n1_ n2_ n3_ n4_; intro HO446 HO449 HK HB HI0; (try clear hb); (try clear hb2); (try clear hk); (try clear hi); (try clear ho0); (try clear ho1)) | (go_at_call 51; (with_reducible refine (spec_l6Rd_pick.calls k g s0_0 t450 2 t451 t452 w0 _ ?side1 ?side2 A3.out).mono ?_); (case side1 => repeat (first | (with_reducible first | exact HI0.out | apply IsS79.alloc | apply IsS79.drewN | apply IsS79.drew | apply IsS79.set_1) | exact HI0.out)); (case side2 => repeat (first | (with_reducible first | exact HB.out | apply below_alloc | apply pw_below_drewN | apply below_drew1 | refine below_set ?_ (IsS79.ge HI0.out)) | exact HB.out)); rintro e w21 ⟨rfl, hi, hb, hk⟩; have n0_ := Q0_ (Kd.R_mono (Kd.R_keep (IsS79.apart (show IsS79 w0 _ g s0_0 t450 from by repeat (first | (with_reducible first | exact HI0.out | apply IsS79.alloc | apply IsS79.drewN | apply IsS79.drew | apply IsS79.set_1) | exact HI0.out)) (upR HO446) (by decide)) hk (fun _ h => h.2)) (fun _ h => h.1)); have n1_ := Q0_ (Kd.R_mono (Kd.R_keep (IsS79.apart (show IsS79 w0 _ g s0_0 t450 from by repeat (first | (with_reducible first | exact HI0.out | apply IsS79.alloc | apply IsS79.drewN | apply IsS79.drew | apply IsS79.set_1) | exact HI0.out)) (upR HO449) (by decide)) hk (fun _ h => h.2)) (fun _ h => h.1)); have n2_ := Q0_ (KeepBut.trans (by repeat (first | (with_reducible first | exact HK.out | apply KeepBut.set_ | apply keep_drewN | apply keep_drew | apply keep_alloc) | exact HK.out)) hk (.inl rfl)); have n3_ := Q0_ (hb); have n4_ := Q0_ (hi); clear HO446 HO449 HK HB HI0; revert n0_ n1_ n2_ n3_ n4_; intro HO446 HO449 HK HB HI0; (try clear hb); (try clear hb2); (try clear hk); (try clear hi); obtain ⟨Ao22, co22, eo22⟩ := Kd.R_slice HO446.out; subst eo22; obtain ⟨Ao23, co23, eo23⟩ := Kd.R_slice HO449.out; subst eo23) | (go_at_call 28; (with_reducible refine (spec_EditText.calls k _ _ t444 _ _ t447 t453 t454 _ ?side1 ?side2 ?side3 ?side4 A5.out).mono ?_); (case side1 => repeat (first | exact (Kd.R_reads' HO446.out).2.2 | (with_reducible refine Kd.C_alloc ?_ _) | (with_reducible refine Kd.C_drewN ?_ _) | (with_reducible refine Kd.C_drew ?_))); (case side2 => exact (Kd.R_reads' HO446.out).2.1); (case side3 => repeat (first | exact (Kd.R_reads' HO449.out).2.2 | (with_reducible refine Kd.C_alloc ?_ _) | (with_reducible refine Kd.C_drewN ?_ _) | (with_reducible refine Kd.C_drew ?_))); (case side4 => exact (Kd.R_reads' HO449.out).2.1); rintro e w24 ⟨rfl, hb⟩; have n0_ := Q0_ (Kd.R_below (upR HO446) hb); have n1_ := Q0_ (Kd.R_below (upR HO449) hb); have n2_ := Q0_ (IsS79.below (by repeat (first | (with_reducible first | exact HI0.out | apply IsS79.alloc | apply IsS79.drewN | apply IsS79.drew | apply IsS79.set_1) | exact HI0.out)) hb); have n3_ := Q0_ (KeepBut.trans (by repeat (first | (with_reducible first | exact HK.out | apply KeepBut.set_ | apply keep_drewN | apply keep_drew | apply keep_alloc) | exact HK.out)) (KeepBut.of_below hb g none) (.inl rfl)); have n4_ := Q0_ (below_step (by repeat (first | (with_reducible first | exact HB.out | apply below_alloc | apply pw_below_drewN | apply below_drew1 | refine below_set ?_ (IsS79.ge HI0.out)) | exact HB.out)) hb); clear HO446 HO449 HI0 HK HB; revert n0_ n1_ n2_ n3_ n4_; intro HO446 HO449 HI0 HK HB; (try clear hb); (try clear hb2); (try clear hk); (try clear hi)) | (go_at_call 51; (with_reducible refine (spec_l6Rd_pick.calls k g s0_0 t452 6 t455 t456 w0 _ ?side1 ?side2 A6.out).mono ?_); (case side1 => repeat (first | (with_reducible first | exact HI0.out | apply IsS79.alloc | apply IsS79.drewN | apply IsS79.drew | apply IsS79.set_1) | exact HI0.out)); (case side2 => repeat (first | (with_reducible first | exact HB.out | apply below_alloc | apply pw_below_drewN | apply below_drew1 | refine below_set ?_ (IsS79.ge HI0.out)) | exact HB.out)); rintro e w25 ⟨rfl, hi, hb, hk⟩; have n0_ := Q0_ (Kd.R_mono (Kd.R_keep (IsS79.apart (show IsS79 w0 _ g s0_0 t452 from by repeat (first | (with_reducible first | exact HI0.out | apply IsS79.alloc | apply IsS79.drewN | apply IsS79.drew | apply IsS79.set_1) | exact HI0.out)) (upR HO446) (by decide)) hk (fun _ h => h.2)) (fun _ h => h.1)); have n1_ := Q0_ (Kd.R_mono (Kd.R_keep (IsS79.apart (show IsS79 w0 _ g s0_0 t452 from by repeat (first | (with_reducible first | exact HI0.out | apply IsS79.alloc | apply IsS79.drewN | apply IsS79.drew | apply IsS79.set_1) | exact HI0.out)) (upR HO449) (by decide)) hk (fun _ h => h.2)) (fun _ h => h.1)); have n2_ := Q0_ (KeepBut.trans (by repeat (first | (with_reducible first | exact HK.out | apply KeepBut.set_ | apply keep_drewN | apply keep_drew | apply keep_alloc) | exact HK.out)) hk (.inl rfl)); have n3_ := Q0_ (hb); have n4_ := Q0_ (hi); clear HO446 HO449 HK HB HI0; revert n0_ n1_ n2_ n3_ n4_; intro HO446 HO449 HK HB HI0; (try clear hb); (try clear hb2); (try clear hk); (try clear hi))))
   go_ret3
   exact ⟨_, _, by first | rfl | (simp [errW_none, errW_some] <;> rfl) | (simp [*, errW_none, errW_some] <;> rfl), by (with_reducible repeat (first | apply Kd.R_alloc | apply Kd.R_drewN | apply Kd.R_drew)); exact HO446.out, by (with_reducible repeat (first | apply Kd.R_alloc | apply Kd.R_drewN | apply Kd.R_drew)); exact HO449.out, by repeat (first | (with_reducible first | exact HI0.out | apply IsS79.alloc | apply IsS79.drewN | apply IsS79.drew | apply IsS79.set_1) | exact HI0.out), by repeat (first | (with_reducible first | exact HB.out | apply below_alloc | apply pw_below_drewN | apply below_drew1 | refine below_set ?_ (IsS79.ge HI0.out)) | exact HB.out), by repeat (first | (with_reducible first | exact HK.out | apply KeepBut.set_ | apply keep_drewN | apply keep_drew | apply keep_alloc) | exact HK.out)⟩
  rw [if_pos c7] at H
  have c7b0 : (t455 == 0) = true := beq_iff_eq.mpr c7
  have c7b1 : (t455 != 0) = false := bne_eq_false_iff_eq.mpr c7
  clear c7
  obtain ⟨y457, hy457⟩ : ∃ y_ : List ByteArray, y_ = (([(⟨#[107]⟩ : ByteArray), (⟨#[105]⟩ : ByteArray), (⟨#[120]⟩ : ByteArray)] : List ByteArray)) := ⟨_, rfl⟩
  replace H : ((spec_l6Rd_of.f k s0_0 t456 y457).bind fun bt460 => (if t453.size + bt460.1.size ≤ 9223372036854775807 then (some (t444, t447, t453 ++ bt460.1, bt460.2)) else (none))) = some (r1, r2, r3, r4) := by first | (rw [hy457]; with_reducible exact H) | (have H2_ := (Option.bind_some _ _).symm.trans H; rw [hy457]; with_reducible exact H2_) | (have H2_ := (Option.bind_some _ _).symm.trans H; with_reducible exact H2_) | with_reducible exact H | (rw [hy457]; exact H) | exact H
  have Ny457 := Aside0.mk hy457
  clear hy457
  obtain ⟨⟨t460, t461⟩, A80, H⟩ := Option.bind_eq_some_iff.mp H
  try dsimp only at H
  have A8 := Aside0.mk A80
  clear A80
  by_cases c9 : t453.size + t460.size ≤ 9223372036854775807
  rotate_left
  ·rw [if_neg c9] at H
   exact absurd H (by simp)
  rw [if_pos c9] at H
  have c9b0 := eq_true c9
  have c9b1 : decide (t453.size + t460.size ≤ 9223372036854775807) = true := decide_eq_true c9
  try have c9b2 : (9223372036854775807 < t453.size + t460.size) = False := eq_false (Nat.not_lt.2 c9)
  simp only [Option.some.injEq, Prod.mk.injEq] at H
  obtain ⟨rfl, rfl, rfl, rfl⟩ := H
  go_enter Try.func46, Try.ntmps46
  go_wp2_with (first | (go_at_call 42; (with_reducible refine (spec_l92Edited.calls k g s0_0 s0_1 t444 t447 t450 w0 _ ?side1 ?side2 A2.out).mono ?_); (case side1 => repeat (first | (with_reducible first | exact HI0.out | apply IsS79.alloc | apply IsS79.drewN | apply IsS79.drew | apply IsS79.set_1) | exact HI0.out)); (case side2 => repeat (first | (with_reducible first | exact HB.out | apply below_alloc | apply pw_below_drewN | apply below_drew1 | refine below_set ?_ (IsS79.ge HI0.out)) | exact HB.out)); rintro e w10 ⟨v445, v448, rfl, ho0, ho1, hi, hb, hk⟩; have n0_ := Q0_ (Kd.R_lower ho0 (keep_size (w := w) (g := g) (row := none) (by repeat (first | (with_reducible first | exact HK.out | apply KeepBut.set_ | apply keep_drewN | apply keep_drew | apply keep_alloc) | exact HK.out)))); have n1_ := Q0_ (Kd.R_lower ho1 (keep_size (w := w) (g := g) (row := none) (by repeat (first | (with_reducible first | exact HK.out | apply KeepBut.set_ | apply keep_drewN | apply keep_drew | apply keep_alloc) | exact HK.out)))); have n2_ := Q0_ (KeepBut.trans (by repeat (first | (with_reducible first | exact HK.out | apply KeepBut.set_ | apply keep_drewN | apply keep_drew | apply keep_alloc) | exact HK.out)) hk (.inl rfl)); have n3_ := Q0_ (hb); have n4_ := Q0_ (hi); clear HK HB HI0; revert n0_ n1_ n2_ n3_ n4_; intro HO446 HO449 HK HB HI0; (try clear hb); (try clear hb2); (try clear hk); (try clear hi); (try clear ho0); (try clear ho1)) | (go_at_call 51; (with_reducible refine (spec_l6Rd_pick.calls k g s0_0 t450 2 t451 t452 w0 _ ?side1 ?side2 A3.out).mono ?_); (case side1 => repeat (first | (with_reducible first | exact HI0.out | apply IsS79.alloc | apply IsS79.drewN | apply IsS79.drew | apply IsS79.set_1) | exact HI0.out)); (case side2 => repeat (first | (with_reducible first | exact HB.out | apply below_alloc | apply pw_below_drewN | apply below_drew1 | refine below_set ?_ (IsS79.ge HI0.out)) | exact HB.out)); rintro e w11 ⟨rfl, hi, hb, hk⟩; have n0_ := Q0_ (Kd.R_mono (Kd.R_keep (IsS79.apart (show IsS79 w0 _ g s0_0 t450 from by repeat (first | (with_reducible first | exact HI0.out | apply IsS79.alloc | apply IsS79.drewN | apply IsS79.drew | apply IsS79.set_1) | exact HI0.out)) (upR HO446) (by decide)) hk (fun _ h => h.2)) (fun _ h => h.1)); have n1_ := Q0_ (Kd.R_mono (Kd.R_keep (IsS79.apart (show IsS79 w0 _ g s0_0 t450 from by repeat (first | (with_reducible first | exact HI0.out | apply IsS79.alloc | apply IsS79.drewN | apply IsS79.drew | apply IsS79.set_1) | exact HI0.out)) (upR HO449) (by decide)) hk (fun _ h => h.2)) (fun _ h => h.1)); have n2_ := Q0_ (KeepBut.trans (by repeat (first | (with_reducible first | exact HK.out | apply KeepBut.set_ | apply keep_drewN | apply keep_drew | apply keep_alloc) | exact HK.out)) hk (.inl rfl)); have n3_ := Q0_ (hb); have n4_ := Q0_ (hi); clear HO446 HO449 HK HB HI0; revert n0_ n1_ n2_ n3_ n4_; intro HO446 HO449 HK HB HI0; (try clear hb); (try clear hb2); (try clear hk); (try clear hi); obtain ⟨Ao12, co12, eo12⟩ := Kd.R_slice HO446.out; subst eo12; obtain ⟨Ao13, co13, eo13⟩ := Kd.R_slice HO449.out; subst eo13) | (go_at_call 28; (with_reducible refine (spec_EditText.calls k _ _ t444 _ _ t447 t453 t454 _ ?side1 ?side2 ?side3 ?side4 A5.out).mono ?_); (case side1 => repeat (first | exact (Kd.R_reads' HO446.out).2.2 | (with_reducible refine Kd.C_alloc ?_ _) | (with_reducible refine Kd.C_drewN ?_ _) | (with_reducible refine Kd.C_drew ?_))); (case side2 => exact (Kd.R_reads' HO446.out).2.1); (case side3 => repeat (first | exact (Kd.R_reads' HO449.out).2.2 | (with_reducible refine Kd.C_alloc ?_ _) | (with_reducible refine Kd.C_drewN ?_ _) | (with_reducible refine Kd.C_drew ?_))); (case side4 => exact (Kd.R_reads' HO449.out).2.1); rintro e w14 ⟨rfl, hb⟩; have n0_ := Q0_ (Kd.R_below (upR HO446) hb); have n1_ := Q0_ (Kd.R_below (upR HO449) hb); have n2_ := Q0_ (IsS79.below (by repeat (first | (with_reducible first | exact HI0.out | apply IsS79.alloc | apply IsS79.drewN | apply IsS79.drew | apply IsS79.set_1) | exact HI0.out)) hb); have n3_ := Q0_ (KeepBut.trans (by repeat (first | (with_reducible first | exact HK.out | apply KeepBut.set_ | apply keep_drewN | apply keep_drew | apply keep_alloc) | exact HK.out)) (KeepBut.of_below hb g none) (.inl rfl)); have n4_ := Q0_ (below_step (by repeat (first | (with_reducible first | exact HB.out | apply below_alloc | apply pw_below_drewN | apply below_drew1 | refine below_set ?_ (IsS79.ge HI0.out)) | exact HB.out)) hb); clear HO446 HO449 HI0 HK HB; revert n0_ n1_ n2_ n3_ n4_; intro HO446 HO449 HI0 HK HB; (try clear hb); (try clear hb2); (try clear hk); (try clear hi)) | (go_at_call 51; (with_reducible refine (spec_l6Rd_pick.calls k g s0_0 t452 6 t455 t456 w0 _ ?side1 ?side2 A6.out).mono ?_); (case side1 => repeat (first | (with_reducible first | exact HI0.out | apply IsS79.alloc | apply IsS79.drewN | apply IsS79.drew | apply IsS79.set_1) | exact HI0.out)); (case side2 => repeat (first | (with_reducible first | exact HB.out | apply below_alloc | apply pw_below_drewN | apply below_drew1 | refine below_set ?_ (IsS79.ge HI0.out)) | exact HB.out)); rintro e w15 ⟨rfl, hi, hb, hk⟩; have n0_ := Q0_ (Kd.R_mono (Kd.R_keep (IsS79.apart (show IsS79 w0 _ g s0_0 t452 from by repeat (first | (with_reducible first | exact HI0.out | apply IsS79.alloc | apply IsS79.drewN | apply IsS79.drew | apply IsS79.set_1) | exact HI0.out)) (upR HO446) (by decide)) hk (fun _ h => h.2)) (fun _ h => h.1)); have n1_ := Q0_ (Kd.R_mono (Kd.R_keep (IsS79.apart (show IsS79 w0 _ g s0_0 t452 from by repeat (first | (with_reducible first | exact HI0.out | apply IsS79.alloc | apply IsS79.drewN | apply IsS79.drew | apply IsS79.set_1) | exact HI0.out)) (upR HO449) (by decide)) hk (fun _ h => h.2)) (fun _ h => h.1)); have n2_ := Q0_ (KeepBut.trans (by repeat (first | (with_reducible first | exact HK.out | apply KeepBut.set_ | apply keep_drewN | apply keep_drew | apply keep_alloc) | exact HK.out)) hk (.inl rfl)); have n3_ := Q0_ (hb); have n4_ := Q0_ (hi); clear HO446 HO449 HK HB HI0; revert n0_ n1_ n2_ n3_ n4_; intro HO446 HO449 HK HB HI0; (try clear hb); (try clear hb2); (try clear hk); (try clear hi)) | ((with_reducible refine gate_dst (N := 31) rfl ?_); (try (refine gate_guard (by rfl) ?_; dsimp only)); refine Kd.R_lit Kd.string _ 9 ?hg (N := 31) ?hd (xs := ([(⟨#[107]⟩ : ByteArray), (⟨#[105]⟩ : ByteArray), (⟨#[120]⟩ : ByteArray)] : List ByteArray)) (inner := [.string (⟨#[107]⟩ : ByteArray), .string (⟨#[105]⟩ : ByteArray), .string (⟨#[120]⟩ : ByteArray)]) (ok := fun _ => True) (okp := fun _ => True) ?hr ?hp (fun _ hk => hk) trivial (Below.refl _ _) (Nat.le_refl _) (by simp) ?_; (case hd => rfl); (case hg => rfl); (case hr => first | (go_simp; done) | (go_simp; rfl)); (case hp => exact (Reps.one (show Kd.M Kd.string _ _ _ (⟨#[107]⟩ : ByteArray) [.string (⟨#[107]⟩ : ByteArray)] from rfl) (Reps.one (show Kd.M Kd.string _ _ _ (⟨#[105]⟩ : ByteArray) [.string (⟨#[105]⟩ : ByteArray)] from rfl) (Reps.one (show Kd.M Kd.string _ _ _ (⟨#[120]⟩ : ByteArray) [.string (⟨#[120]⟩ : ByteArray)] from rfl) (Reps.none _ _))))); intro v458 w16 ho17 hb hg_ hnew_; clear hg_ hnew_; (first | rw [← Ny457.out] at ho17 | (simp only [Int.reduceToNat] at ho17; rw [← Ny457.out] at ho17)); have n0_ := Q0_ (Kd.R_below (upR HO446) hb); have n1_ := Q0_ (Kd.R_below (upR HO449) hb); have n2_ := Q0_ (Kd.R_lower ho17 (keep_size (w := w) (g := g) (row := none) (by repeat (first | (with_reducible first | exact HK.out | apply KeepBut.set_ | apply keep_drewN | apply keep_drew | apply keep_alloc) | exact HK.out)))); have n3_ := Q0_ (IsS79.below (by repeat (first | (with_reducible first | exact HI0.out | apply IsS79.alloc | apply IsS79.drewN | apply IsS79.drew | apply IsS79.set_1) | exact HI0.out)) hb); have n4_ := Q0_ (KeepBut.trans (by repeat (first | (with_reducible first | exact HK.out | apply KeepBut.set_ | apply keep_drewN | apply keep_drew | apply keep_alloc) | exact HK.out)) (KeepBut.of_below hb g none) (.inl rfl)); have n5_ := Q0_ (below_step (by repeat (first | (with_reducible first | exact HB.out | apply below_alloc | apply pw_below_drewN | apply below_drew1 | refine below_set ?_ (IsS79.ge HI0.out)) | exact HB.out)) hb); clear HO446 HO449 HI0 HK HB; revert n0_ n1_ n2_ n3_ n4_ n5_; intro HO446 HO449 HO459 HI0 HK HB; clear hb ho17; obtain ⟨Ao18, co18, eo18⟩ := Kd.R_slice HO459.out; subst eo18) | (go_at_call 53; (with_reducible refine (spec_l6Rd_of.calls k g s0_0 t456 _ _ y457 t460 t461 w0 _ ?side1 ?side2 ?side3 ?side4 ?side5 A8.out).mono ?_); (case side1 => repeat (first | (with_reducible first | exact HI0.out | apply IsS79.alloc | apply IsS79.drewN | apply IsS79.drew | apply IsS79.set_1) | exact HI0.out)); (case side2 => repeat (first | (with_reducible first | exact HB.out | apply below_alloc | apply pw_below_drewN | apply below_drew1 | refine below_set ?_ (IsS79.ge HI0.out)) | exact HB.out)); (case side3 => repeat (first | exact (Kd.R_reads' HO459.out).2.2 | (with_reducible refine Kd.C_alloc ?_ _) | (with_reducible refine Kd.C_drewN ?_ _) | (with_reducible refine Kd.C_drew ?_))); (case side4 => exact (Kd.R_reads' HO459.out).2.1); (case side5 => exact far_slice (IsS79.own_ne HI0.out HO459.out (by decide))); rintro e w19 ⟨rfl, hi, hb, hk⟩; have n0_ := Q0_ (Kd.R_mono (Kd.R_keep (IsS79.apart (show IsS79 w0 _ g s0_0 t456 from by repeat (first | (with_reducible first | exact HI0.out | apply IsS79.alloc | apply IsS79.drewN | apply IsS79.drew | apply IsS79.set_1) | exact HI0.out)) (upR HO446) (by decide)) hk (fun _ h => h.2)) (fun _ h => h.1)); have n1_ := Q0_ (Kd.R_mono (Kd.R_keep (IsS79.apart (show IsS79 w0 _ g s0_0 t456 from by repeat (first | (with_reducible first | exact HI0.out | apply IsS79.alloc | apply IsS79.drewN | apply IsS79.drew | apply IsS79.set_1) | exact HI0.out)) (upR HO449) (by decide)) hk (fun _ h => h.2)) (fun _ h => h.1)); have n2_ := Q0_ (Kd.R_mono (Kd.R_keep (IsS79.apart (show IsS79 w0 _ g s0_0 t456 from by repeat (first | (with_reducible first | exact HI0.out | apply IsS79.alloc | apply IsS79.drewN | apply IsS79.drew | apply IsS79.set_1) | exact HI0.out)) (upR HO459) (by decide)) hk (fun _ h => h.2)) (fun _ h => h.1)); have n3_ := Q0_ (KeepBut.trans (by repeat (first | (with_reducible first | exact HK.out | apply KeepBut.set_ | apply keep_drewN | apply keep_drew | apply keep_alloc) | exact HK.out)) hk (.inl rfl)); have n4_ := Q0_ (hb); have n5_ := Q0_ (hi); clear HO446 HO449 HO459 HK HB HI0; revert n0_ n1_ n2_ n3_ n4_ n5_; intro HO446 HO449 HO459 HK HB HI0; (try clear hb); (try clear hb2); (try clear hk); (try clear hi)))
  repeat (go_quiet (first | (go_at_call 42; (with_reducible refine (spec_l92Edited.calls k g s0_0 s0_1 t444 t447 t450 w0 _ ?side1 ?side2 A2.out).mono ?_); (case side1 => repeat (first | (with_reducible first | exact HI0.out | apply IsS79.alloc | apply IsS79.drewN | apply IsS79.drew | apply IsS79.set_1) | exact HI0.out)); (case side2 => repeat (first | (with_reducible first | exact HB.out | apply below_alloc | apply pw_below_drewN | apply below_drew1 | refine below_set ?_ (IsS79.ge HI0.out)) | exact HB.out)); rintro e w10 ⟨v445, v448, rfl, ho0, ho1, hi, hb, hk⟩; have n0_ := Q0_ (Kd.R_lower ho0 (keep_size (w := w) (g := g) (row := none) (by repeat (first | (with_reducible first | exact HK.out | apply KeepBut.set_ | apply keep_drewN | apply keep_drew | apply keep_alloc) | exact HK.out)))); have n1_ := Q0_ (Kd.R_lower ho1 (keep_size (w := w) (g := g) (row := none) (by repeat (first | (with_reducible first | exact HK.out | apply KeepBut.set_ | apply keep_drewN | apply keep_drew | apply keep_alloc) | exact HK.out)))); have n2_ := Q0_ (KeepBut.trans (by repeat (first | (with_reducible first | exact HK.out | apply KeepBut.set_ | apply keep_drewN | apply keep_drew | apply keep_alloc) | exact HK.out)) hk (.inl rfl)); have n3_ := Q0_ (hb); have n4_ := Q0_ (hi); clear HK HB HI0; revert n0_ n1_ n2_ n3_ n4_; intro HO446 HO449 HK HB HI0; (try clear hb); (try clear hb2); (try clear hk); (try clear hi); (try clear ho0); (try clear ho1)) | (go_at_call 51; (with_reducible refine (spec_l6Rd_pick.calls k g s0_0 t450 2 t451 t452 w0 _ ?side1 ?side2 A3.out).mono ?_); (case side1 => repeat (first | (with_reducible first | exact HI0.out | apply IsS79.alloc | apply IsS79.drewN | apply IsS79.drew | apply IsS79.set_1) | exact HI0.out)); (case side2 => repeat (first | (with_reducible first | exact HB.out | apply below_alloc | apply pw_below_drewN | apply below_drew1 | refine below_set ?_ (IsS79.ge HI0.out)) | exact HB.out)); rintro e w11 ⟨rfl, hi, hb, hk⟩; have n0_ := Q0_ (Kd.R_mono (Kd.R_keep (IsS79.apart (show IsS79 w0 _ g s0_0 t450 from by repeat (first | (with_reducible first | exact HI0.out | apply IsS79.alloc | apply IsS79.drewN | apply IsS79.drew | apply IsS79.set_1) | exact HI0.out)) (upR HO446) (by decide)) hk (fun _ h => h.2)) (fun _ h => h.1)); have n1_ := Q0_ (Kd.R_mono (Kd.R_keep (IsS79.apart (show IsS79 w0 _ g s0_0 t450 from by repeat (first | (with_reducible first | exact HI0.out | apply IsS79.alloc | apply IsS79.drewN | apply IsS79.drew | apply IsS79.set_1) | exact HI0.out)) (upR HO449) (by decide)) hk (fun _ h => h.2)) (fun _ h => h.1)); have n2_ := Q0_ (KeepBut.trans (by repeat (first | (with_reducible first | exact HK.out | apply KeepBut.set_ | apply keep_drewN | apply keep_drew | apply keep_alloc) | exact HK.out)) hk (.inl rfl)); have n3_ := Q0_ (hb); have n4_ := Q0_ (hi); clear HO446 HO449 HK HB HI0; revert n0_ n1_ n2_ n3_ n4_; intro HO446 HO449 HK HB HI0; (try clear hb); (try clear hb2); (try clear hk); (try clear hi); obtain ⟨Ao12, co12, eo12⟩ := Kd.R_slice HO446.out; subst eo12; obtain ⟨Ao13, co13, eo13⟩ := Kd.R_slice HO449.out; subst eo13) | (go_at_call 28; (with_reducible refine (spec_EditText.calls k _ _ t444 _ _ t447 t453 t454 _ ?side1 ?side2 ?side3 ?side4 A5.out).mono ?_); (case side1 => repeat (first | exact (Kd.R_reads' HO446.out).2.2 | (with_reducible refine Kd.C_alloc ?_ _) | (with_reducible refine Kd.C_drewN ?_ _) | (with_reducible refine Kd.C_drew ?_))); (case side2 => exact (Kd.R_reads' HO446.out).2.1); (case side3 => repeat (first | exact (Kd.R_reads' HO449.out).2.2 | (with_reducible refine Kd.C_alloc ?_ _) | (with_reducible refine Kd.C_drewN ?_ _) | (with_reducible refine Kd.C_drew ?_))); (case side4 => exact (Kd.R_reads' HO449.out).2.1); rintro e w14 ⟨rfl, hb⟩; have n0_ := Q0_ (Kd.R_below (upR HO446) hb); have n1_ := Q0_ (Kd.R_below (upR HO449) hb); have n2_ := Q0_ (IsS79.below (by repeat (first | (with_reducible first | exact HI0.out | apply IsS79.alloc | apply IsS79.drewN | apply IsS79.drew | apply IsS79.set_1) | exact HI0.out)) hb); have n3_ := Q0_ (KeepBut.trans (by repeat (first | (with_reducible first | exact HK.out | apply KeepBut.set_ | apply keep_drewN | apply keep_drew | apply keep_alloc) | exact HK.out)) (KeepBut.of_below hb g none) (.inl rfl)); have n4_ := Q0_ (below_step (by repeat (first | (with_reducible first | exact HB.out | apply below_alloc | apply pw_below_drewN | apply below_drew1 | refine below_set ?_ (IsS79.ge HI0.out)) | exact HB.out)) hb); clear HO446 HO449 HI0 HK HB; revert n0_ n1_ n2_ n3_ n4_; intro HO446 HO449 HI0 HK HB; (try clear hb); (try clear hb2); (try clear hk); (try clear hi)) | (go_at_call 51; (with_reducible refine (spec_l6Rd_pick.calls k g s0_0 t452 6 t455 t456 w0 _ ?side1 ?side2 A6.out).mono ?_); (case side1 => repeat (first | (with_reducible first | exact HI0.out | apply IsS79.alloc | apply IsS79.drewN | apply IsS79.drew | apply IsS79.set_1) | exact HI0.out)); (case side2 => repeat (first | (with_reducible first | exact HB.out | apply below_alloc | apply pw_below_drewN | apply below_drew1 | refine below_set ?_ (IsS79.ge HI0.out)) | exact HB.out)); rintro e w15 ⟨rfl, hi, hb, hk⟩; have n0_ := Q0_ (Kd.R_mono (Kd.R_keep (IsS79.apart (show IsS79 w0 _ g s0_0 t452 from by repeat (first | (with_reducible first | exact HI0.out | apply IsS79.alloc | apply IsS79.drewN | apply IsS79.drew | apply IsS79.set_1) | exact HI0.out)) (upR HO446) (by decide)) hk (fun _ h => h.2)) (fun _ h => h.1)); have n1_ := Q0_ (Kd.R_mono (Kd.R_keep (IsS79.apart (show IsS79 w0 _ g s0_0 t452 from by repeat (first | (with_reducible first | exact HI0.out | apply IsS79.alloc | apply IsS79.drewN | apply IsS79.drew | apply IsS79.set_1) | exact HI0.out)) (upR HO449) (by decide)) hk (fun _ h => h.2)) (fun _ h => h.1)); have n2_ := Q0_ (KeepBut.trans (by repeat (first | (with_reducible first | exact HK.out | apply KeepBut.set_ | apply keep_drewN | apply keep_drew | apply keep_alloc) | exact HK.out)) hk (.inl rfl)); have n3_ := Q0_ (hb); have n4_ := Q0_ (hi); clear HO446 HO449 HK HB HI0; revert n0_ n1_ n2_ n3_ n4_; intro HO446 HO449 HK HB HI0; (try clear hb); (try clear hb2); (try clear hk); (try clear hi)) | ((with_reducible refine gate_dst (N := 31) rfl ?_); (try (refine gate_guard (by rfl) ?_; dsimp only)); refine Kd.R_lit Kd.string _ 9 ?hg (N := 31) ?hd (xs := ([(⟨#[107]⟩ : ByteArray), (⟨#[105]⟩ : ByteArray), (⟨#[120]⟩ : ByteArray)] : List ByteArray)) (inner := [.string (⟨#[107]⟩ : ByteArray), .string (⟨#[105]⟩ : ByteArray), .string (⟨#[120]⟩ : ByteArray)]) (ok := fun _ => True) (okp := fun _ => True) ?hr ?hp (fun _ hk => hk) trivial (Below.refl _ _) (Nat.le_refl _) (by simp) ?_; (case hd => rfl); (case hg => rfl); (case hr => first | (go_simp; done) | (go_simp; rfl)); (case hp => exact (Reps.one (show Kd.M Kd.string _ _ _ (⟨#[107]⟩ : ByteArray) [.string (⟨#[107]⟩ : ByteArray)] from rfl) (Reps.one (show Kd.M Kd.string _ _ _ (⟨#[105]⟩ : ByteArray) [.string (⟨#[105]⟩ : ByteArray)] from rfl) (Reps.one (show Kd.M Kd.string _ _ _ (⟨#[120]⟩ : ByteArray) [.string (⟨#[120]⟩ : ByteArray)] from rfl) (Reps.none _ _))))); intro v458 w16 ho17 hb hg_ hnew_; clear hg_ hnew_; (first | rw [← Ny457.out] at ho17 | (simp only [Int.reduceToNat] at ho17; rw [← Ny457.out] at ho17)); have n0_ := Q0_ (Kd.R_below (upR HO446) hb); have n1_ := Q0_ (Kd.R_below (upR HO449) hb); have n2_ := Q0_ (Kd.R_lower ho17 (keep_size (w := w) (g := g) (row := none) (by repeat (first | (with_reducible first | exact HK.out | apply KeepBut.set_ | apply keep_drewN | apply keep_drew | apply keep_alloc) | exact HK.out)))); have n3_ := Q0_ (IsS79.below (by repeat (first | (with_reducible first | exact HI0.out | apply IsS79.alloc | apply IsS79.drewN | apply IsS79.drew | apply IsS79.set_1) | exact HI0.out)) hb); have n4_ := Q0_ (KeepBut.trans (by repeat (first | (with_reducible first | exact HK.out | apply KeepBut.set_ | apply keep_drewN | apply keep_drew | apply keep_alloc) | exact HK.out)) (KeepBut.of_below hb g none) (.inl rfl)); have n5_ := Q0_ (below_step (by repeat (first | (with_reducible first | exact HB.out | apply below_alloc | apply pw_below_drewN | apply below_drew1 | refine below_set ?_ (IsS79.ge HI0.out)) | exact HB.out)) hb); clear HO446 HO449 HI0 HK HB; revert n0_ n1_ n2_ n3_ n4_ n5_; intro HO446 HO449 HO459 HI0 HK HB; clear hb ho17; obtain ⟨Ao18, co18, eo18⟩ := Kd.R_slice HO459.out; subst eo18) | (go_at_call 53; (with_reducible refine (spec_l6Rd_of.calls k g s0_0 t456 _ _ y457 t460 t461 w0 _ ?side1 ?side2 ?side3 ?side4 ?side5 A8.out).mono ?_); (case side1 => repeat (first | (with_reducible first | exact HI0.out | apply IsS79.alloc | apply IsS79.drewN | apply IsS79.drew | apply IsS79.set_1) | exact HI0.out)); (case side2 => repeat (first | (with_reducible first | exact HB.out | apply below_alloc | apply pw_below_drewN | apply below_drew1 | refine below_set ?_ (IsS79.ge HI0.out)) | exact HB.out)); (case side3 => repeat (first | exact (Kd.R_reads' HO459.out).2.2 | (with_reducible refine Kd.C_alloc ?_ _) | (with_reducible refine Kd.C_drewN ?_ _) | (with_reducible refine Kd.C_drew ?_))); (case side4 => exact (Kd.R_reads' HO459.out).2.1); (case side5 => exact far_slice (IsS79.own_ne HI0.out HO459.out (by decide))); rintro e w19 ⟨rfl, hi, hb, hk⟩; have n0_ := Q0_ (Kd.R_mono (Kd.R_keep (IsS79.apart (show IsS79 w0 _ g s0_0 t456 from by repeat (first | (with_reducible first | exact HI0.out | apply IsS79.alloc | apply IsS79.drewN | apply IsS79.drew | apply IsS79.set_1) | exact HI0.out)) (upR HO446) (by decide)) hk (fun _ h => h.2)) (fun _ h => h.1)); have n1_ := Q0_ (Kd.R_mono (Kd.R_keep (IsS79.apart (show IsS79 w0 _ g s0_0 t456 from by repeat (first | (with_reducible first | exact HI0.out | apply IsS79.alloc | apply IsS79.drewN | apply IsS79.drew | apply IsS79.set_1) | exact HI0.out)) (upR HO449) (by decide)) hk (fun _ h => h.2)) (fun _ h => h.1)); have n2_ := Q0_ (Kd.R_mono (Kd.R_keep (IsS79.apart (show IsS79 w0 _ g s0_0 t456 from by repeat (first | (with_reducible first | exact HI0.out | apply IsS79.alloc | apply IsS79.drewN | apply IsS79.drew | apply IsS79.set_1) | exact HI0.out)) (upR HO459) (by decide)) hk (fun _ h => h.2)) (fun _ h => h.1)); have n3_ := Q0_ (KeepBut.trans (by repeat (first | (with_reducible first | exact HK.out | apply KeepBut.set_ | apply keep_drewN | apply keep_drew | apply keep_alloc) | exact HK.out)) hk (.inl rfl)); have n4_ := Q0_ (hb); have n5_ := Q0_ (hi); clear HO446 HO449 HO459 HK HB HI0; revert n0_ n1_ n2_ n3_ n4_ n5_; intro HO446 HO449 HO459 HK HB HI0; (try clear hb); (try clear hb2); (try clear hk); (try clear hi))); try go_wp2_with (first | (go_at_call 42; (with_reducible refine (spec_l92Edited.calls k g s0_0 s0_1 t444 t447 t450 w0 _ ?side1 ?side2 A2.out).mono ?_); (case side1 => repeat (first | (with_reducible first | exact HI0.out | apply IsS79.alloc | apply IsS79.drewN | apply IsS79.drew | apply IsS79.set_1) | exact HI0.out)); (case side2 => repeat (first | (with_reducible first | exact HB.out | apply below_alloc | apply pw_below_drewN | apply below_drew1 | refine below_set ?_ (IsS79.ge HI0.out)) | exact HB.out)); rintro e w10 ⟨v445, v448, rfl, ho0, ho1, hi, hb, hk⟩; have n0_ := Q0_ (Kd.R_lower ho0 (keep_size (w := w) (g := g) (row := none) (by repeat (first | (with_reducible first | exact HK.out | apply KeepBut.set_ | apply keep_drewN | apply keep_drew | apply keep_alloc) | exact HK.out)))); have n1_ := Q0_ (Kd.R_lower ho1 (keep_size (w := w) (g := g) (row := none) (by repeat (first | (with_reducible first | exact HK.out | apply KeepBut.set_ | apply keep_drewN | apply keep_drew | apply keep_alloc) | exact HK.out)))); have n2_ := Q0_ (KeepBut.trans (by repeat (first | (with_reducible first | exact HK.out | apply KeepBut.set_ | apply keep_drewN | apply keep_drew | apply keep_alloc) | exact HK.out)) hk (.inl rfl)); have n3_ := Q0_ (hb); have n4_ := Q0_ (hi); clear HK HB HI0; revert n0_ n1_ n2_ n3_ n4_; intro HO446 HO449 HK HB HI0; (try clear hb); (try clear hb2); (try clear hk); (try clear hi); (try clear ho0); (try clear ho1)) | (go_at_call 51; (with_reducible refine (spec_l6Rd_pick.calls k g s0_0 t450 2 t451 t452 w0 _ ?side1 ?side2 A3.out).mono ?_); (case side1 => repeat (first | (with_reducible first | exact HI0.out | apply IsS79.alloc | apply IsS79.drewN | apply IsS79.drew | apply IsS79.set_1) | exact HI0.out)); (case side2 => repeat (first | (with_reducible first | exact HB.out | apply below_alloc | apply pw_below_drewN | apply below_drew1 | refine below_set ?_ (IsS79.ge HI0.out)) | exact HB.out)); rintro e w11 ⟨rfl, hi, hb, hk⟩; have n0_ := Q0_ (Kd.R_mono (Kd.R_keep (IsS79.apart (show IsS79 w0 _ g s0_0 t450 from by repeat (first | (with_reducible first | exact HI0.out | apply IsS79.alloc | apply IsS79.drewN | apply IsS79.drew | apply IsS79.set_1) | exact HI0.out)) (upR HO446) (by decide)) hk (fun _ h => h.2)) (fun _ h => h.1)); have n1_ := Q0_ (Kd.R_mono (Kd.R_keep (IsS79.apart (show IsS79 w0 _ g s0_0 t450 from by repeat (first | (with_reducible first | exact HI0.out | apply IsS79.alloc | apply IsS79.drewN | apply IsS79.drew | apply IsS79.set_1) | exact HI0.out)) (upR HO449) (by decide)) hk (fun _ h => h.2)) (fun _ h => h.1)); have n2_ := Q0_ (KeepBut.trans (by repeat (first | (with_reducible first | exact HK.out | apply KeepBut.set_ | apply keep_drewN | apply keep_drew | apply keep_alloc) | exact HK.out)) hk (.inl rfl)); have n3_ := Q0_ (hb); have n4_ := Q0_ (hi); clear HO446 HO449 HK HB HI0; revert n0_ n1_ n2_ n3_ n4_; intro HO446 HO449 HK HB HI0; (try clear hb); (try clear hb2); (try clear hk); (try clear hi); obtain ⟨Ao12, co12, eo12⟩ := Kd.R_slice HO446.out; subst eo12; obtain ⟨Ao13, co13, eo13⟩ := Kd.R_slice HO449.out; subst eo13) | (go_at_call 28; (with_reducible refine (spec_EditText.calls k _ _ t444 _ _ t447 t453 t454 _ ?side1 ?side2 ?side3 ?side4 A5.out).mono ?_); (case side1 => repeat (first | exact (Kd.R_reads' HO446.out).2.2 | (with_reducible refine Kd.C_alloc ?_ _) | (with_reducible refine Kd.C_drewN ?_ _) | (with_reducible refine Kd.C_drew ?_))); (case side2 => exact (Kd.R_reads' HO446.out).2.1); (case side3 => repeat (first | exact (Kd.R_reads' HO449.out).2.2 | (with_reducible refine Kd.C_alloc ?_ _) | (with_reducible refine Kd.C_drewN ?_ _) | (with_reducible refine Kd.C_drew ?_))); (case side4 => exact (Kd.R_reads' HO449.out).2.1); rintro e w14 ⟨rfl, hb⟩; have n0_ := Q0_ (Kd.R_below (upR HO446) hb); have n1_ := Q0_ (Kd.R_below (upR HO449) hb); have n2_ := Q0_ (IsS79.below (by repeat (first | (with_reducible first | exact HI0.out | apply IsS79.alloc | apply IsS79.drewN | apply IsS79.drew | apply IsS79.set_1) | exact HI0.out)) hb); have n3_ := Q0_ (KeepBut.trans (by repeat (first | (with_reducible first | exact HK.out | apply KeepBut.set_ | apply keep_drewN | apply keep_drew | apply keep_alloc) | exact HK.out)) (KeepBut.of_below hb g none) (.inl rfl)); have n4_ := Q0_ (below_step (by repeat (first | (with_reducible first | exact HB.out | apply below_alloc | apply pw_below_drewN | apply below_drew1 | refine below_set ?_ (IsS79.ge HI0.out)) | exact HB.out)) hb); clear HO446 HO449 HI0 HK HB; revert n0_ n1_ n2_ n3_ n4_; intro HO446 HO449 HI0 HK HB; (try clear hb); (try clear hb2); (try clear hk); (try clear hi)) | (go_at_call 51; (with_reducible refine (spec_l6Rd_pick.calls k g s0_0 t452 6 t455 t456 w0 _ ?side1 ?side2 A6.out).mono ?_); (case side1 => repeat (first | (with_reducible first | exact HI0.out | apply IsS79.alloc | apply IsS79.drewN | apply IsS79.drew | apply IsS79.set_1) | exact HI0.out)); (case side2 => repeat (first | (with_reducible first | exact HB.out | apply below_alloc | apply pw_below_drewN | apply below_drew1 | refine below_set ?_ (IsS79.ge HI0.out)) | exact HB.out)); rintro e w15 ⟨rfl, hi, hb, hk⟩; have n0_ := Q0_ (Kd.R_mono (Kd.R_keep (IsS79.apart (show IsS79 w0 _ g s0_0 t452 from by repeat (first | (with_reducible first | exact HI0.out | apply IsS79.alloc | apply IsS79.drewN | apply IsS79.drew | apply IsS79.set_1) | exact HI0.out)) (upR HO446) (by decide)) hk (fun _ h => h.2)) (fun _ h => h.1)); have n1_ := Q0_ (Kd.R_mono (Kd.R_keep (IsS79.apart (show IsS79 w0 _ g s0_0 t452 from by repeat (first | (with_reducible first | exact HI0.out | apply IsS79.alloc | apply IsS79.drewN | apply IsS79.drew | apply IsS79.set_1) | exact HI0.out)) (upR HO449) (by decide)) hk (fun _ h => h.2)) (fun _ h => h.1)); have n2_ := Q0_ (KeepBut.trans (by repeat (first | (with_reducible first | exact HK.out | apply KeepBut.set_ | apply keep_drewN | apply keep_drew | apply keep_alloc) | exact HK.out)) hk (.inl rfl)); have n3_ := Q0_ (hb); have n4_ := Q0_ (hi); clear HO446 HO449 HK HB HI0; revert n0_ n1_ n2_ n3_ n4_; intro HO446 HO449 HK HB HI0; (try clear hb); (try clear hb2); (try clear hk); (try clear hi)) | ((with_reducible refine gate_dst (N := 31) rfl ?_); (try (refine gate_guard (by rfl) ?_; dsimp only)); refine Kd.R_lit Kd.string _ 9 ?hg (N := 31) ?hd (xs := ([(⟨#[107]⟩ : ByteArray), (⟨#[105]⟩ : ByteArray), (⟨#[120]⟩ : ByteArray)] : List ByteArray)) (inner := [.string (⟨#[107]⟩ : ByteArray), .string (⟨#[105]⟩ : ByteArray), .string (⟨#[120]⟩ : ByteArray)]) (ok := fun _ => True) (okp := fun _ => True) ?hr ?hp (fun _ hk => hk) trivial (Below.refl _ _) (Nat.le_refl _) (by simp) ?_; (case hd => rfl); (case hg => rfl); (case hr => first | (go_simp; done) | (go_simp; rfl)); (case hp => exact (Reps.one (show Kd.M Kd.string _ _ _ (⟨#[107]⟩ : ByteArray) [.string (⟨#[107]⟩ : ByteArray)] from rfl) (Reps.one (show Kd.M Kd.string _ _ _ (⟨#[105]⟩ : ByteArray) [.string (⟨#[105]⟩ : ByteArray)] from rfl) (Reps.one (show Kd.M Kd.string _ _ _ (⟨#[120]⟩ : ByteArray) [.string (⟨#[120]⟩ : ByteArray)] from rfl) (Reps.none _ _))))); intro v458 w16 ho17 hb hg_ hnew_; clear hg_ hnew_; (first | rw [← Ny457.out] at ho17 | (simp only [Int.reduceToNat] at ho17; rw [← Ny457.out] at ho17)); have n0_ := Q0_ (Kd.R_below (upR HO446) hb); have n1_ := Q0_ (Kd.R_below (upR HO449) hb); have n2_ := Q0_ (Kd.R_lower ho17 (keep_size (w := w) (g := g) (row := none) (by repeat (first | (with_reducible first | exact HK.out | apply KeepBut.set_ | apply keep_drewN | apply keep_drew | apply keep_alloc) | exact HK.out)))); have n3_ := Q0_ (IsS79.below (by repeat (first | (with_reducible first | exact HI0.out | apply IsS79.alloc | apply IsS79.drewN | apply IsS79.drew | apply IsS79.set_1) | exact HI0.out)) hb); have n4_ := Q0_ (KeepBut.trans (by repeat (first | (with_reducible first | exact HK.out | apply KeepBut.set_ | apply keep_drewN | apply keep_drew | apply keep_alloc) | exact HK.out)) (KeepBut.of_below hb g none) (.inl rfl)); have n5_ := Q0_ (below_step (by repeat (first | (with_reducible first | exact HB.out | apply below_alloc | apply pw_below_drewN | apply below_drew1 | refine below_set ?_ (IsS79.ge HI0.out)) | exact HB.out)) hb); clear HO446 HO449 HI0 HK HB; revert n0_ n1_ n2_ n3_ n4_ n5_; intro HO446 HO449 HO459 HI0 HK HB; clear hb ho17; obtain ⟨Ao18, co18, eo18⟩ := Kd.R_slice HO459.out; subst eo18) | (go_at_call 53; (with_reducible refine (spec_l6Rd_of.calls k g s0_0 t456 _ _ y457 t460 t461 w0 _ ?side1 ?side2 ?side3 ?side4 ?side5 A8.out).mono ?_); (case side1 => repeat (first | (with_reducible first | exact HI0.out | apply IsS79.alloc | apply IsS79.drewN | apply IsS79.drew | apply IsS79.set_1) | exact HI0.out)); (case side2 => repeat (first | (with_reducible first | exact HB.out | apply below_alloc | apply pw_below_drewN | apply below_drew1 | refine below_set ?_ (IsS79.ge HI0.out)) | exact HB.out)); (case side3 => repeat (first | exact (Kd.R_reads' HO459.out).2.2 | (with_reducible refine Kd.C_alloc ?_ _) | (with_reducible refine Kd.C_drewN ?_ _) | (with_reducible refine Kd.C_drew ?_))); (case side4 => exact (Kd.R_reads' HO459.out).2.1); (case side5 => exact far_slice (IsS79.own_ne HI0.out HO459.out (by decide))); rintro e w19 ⟨rfl, hi, hb, hk⟩; have n0_ := Q0_ (Kd.R_mono (Kd.R_keep (IsS79.apart (show IsS79 w0 _ g s0_0 t456 from by repeat (first | (with_reducible first | exact HI0.out | apply IsS79.alloc | apply IsS79.drewN | apply IsS79.drew | apply IsS79.set_1) | exact HI0.out)) (upR HO446) (by decide)) hk (fun _ h => h.2)) (fun _ h => h.1)); have n1_ := Q0_ (Kd.R_mono (Kd.R_keep (IsS79.apart (show IsS79 w0 _ g s0_0 t456 from by repeat (first | (with_reducible first | exact HI0.out | apply IsS79.alloc | apply IsS79.drewN | apply IsS79.drew | apply IsS79.set_1) | exact HI0.out)) (upR HO449) (by decide)) hk (fun _ h => h.2)) (fun _ h => h.1)); have n2_ := Q0_ (Kd.R_mono (Kd.R_keep (IsS79.apart (show IsS79 w0 _ g s0_0 t456 from by repeat (first | (with_reducible first | exact HI0.out | apply IsS79.alloc | apply IsS79.drewN | apply IsS79.drew | apply IsS79.set_1) | exact HI0.out)) (upR HO459) (by decide)) hk (fun _ h => h.2)) (fun _ h => h.1)); have n3_ := Q0_ (KeepBut.trans (by repeat (first | (with_reducible first | exact HK.out | apply KeepBut.set_ | apply keep_drewN | apply keep_drew | apply keep_alloc) | exact HK.out)) hk (.inl rfl)); have n4_ := Q0_ (hb); have n5_ := Q0_ (hi); clear HO446 HO449 HO459 HK HB HI0; revert n0_ n1_ n2_ n3_ n4_ n5_; intro HO446 HO449 HO459 HK HB HI0; (try clear hb); (try clear hb2); (try clear hk); (try clear hi))))
  go_ret3
  exact ⟨_, _, by first | rfl | (simp [errW_none, errW_some] <;> rfl) | (simp [*, errW_none, errW_some] <;> rfl), by (with_reducible repeat (first | apply Kd.R_alloc | apply Kd.R_drewN | apply Kd.R_drew)); exact HO446.out, by (with_reducible repeat (first | apply Kd.R_alloc | apply Kd.R_drewN | apply Kd.R_drew)); exact HO449.out, by repeat (first | (with_reducible first | exact HI0.out | apply IsS79.alloc | apply IsS79.drewN | apply IsS79.drew | apply IsS79.set_1) | exact HI0.out), by repeat (first | (with_reducible first | exact HB.out | apply below_alloc | apply pw_below_drewN | apply below_drew1 | refine below_set ?_ (IsS79.ge HI0.out)) | exact HB.out), by repeat (first | (with_reducible first | exact HK.out | apply KeepBut.set_ | apply keep_drewN | apply keep_drew | apply keep_alloc) | exact HK.out)⟩
 rw [if_neg c4] at H
 have c4b0 : (t451 == 0) = false := beq_eq_false_iff_ne.mpr c4
 have c4b1 : (t451 != 0) = true := bne_iff_ne.mpr c4
 have H' := Aside0.mk H
 clear H
 go_enter Try.func46, Try.ntmps46
 go_wp2_with (first | (go_at_call 42; (with_reducible refine (spec_l92Edited.calls k g s0_0 s0_1 t444 t447 t450 w0 _ ?side1 ?side2 A2.out).mono ?_); (case side1 => repeat (first | (with_reducible first | exact HI0.out | apply IsS79.alloc | apply IsS79.drewN | apply IsS79.drew | apply IsS79.set_1) | exact HI0.out)); (case side2 => repeat (first | (with_reducible first | exact HB.out | apply below_alloc | apply pw_below_drewN | apply below_drew1 | refine below_set ?_ (IsS79.ge HI0.out)) | exact HB.out)); rintro e w26 ⟨v445, v448, rfl, ho0, ho1, hi, hb, hk⟩; have n0_ := Q0_ (Kd.R_lower ho0 (keep_size (w := w) (g := g) (row := none) (by repeat (first | (with_reducible first | exact HK.out | apply KeepBut.set_ | apply keep_drewN | apply keep_drew | apply keep_alloc) | exact HK.out)))); have n1_ := Q0_ (Kd.R_lower ho1 (keep_size (w := w) (g := g) (row := none) (by repeat (first | (with_reducible first | exact HK.out | apply KeepBut.set_ | apply keep_drewN | apply keep_drew | apply keep_alloc) | exact HK.out)))); have n2_ := Q0_ (KeepBut.trans (by repeat (first | (with_reducible first | exact HK.out | apply KeepBut.set_ | apply keep_drewN | apply keep_drew | apply keep_alloc) | exact HK.out)) hk (.inl rfl)); have n3_ := Q0_ (hb); have n4_ := Q0_ (hi); clear HK HB HI0; revert n0_ n1_ n2_ n3_ n4_; intro HO446 HO449 HK HB HI0; (try clear hb); (try clear hb2); (try clear hk); (try clear hi); (try clear ho0); (try clear ho1)) | (go_at_call 51; (with_reducible refine (spec_l6Rd_pick.calls k g s0_0 t450 2 t451 t452 w0 _ ?side1 ?side2 A3.out).mono ?_); (case side1 => repeat (first | (with_reducible first | exact HI0.out | apply IsS79.alloc | apply IsS79.drewN | apply IsS79.drew | apply IsS79.set_1) | exact HI0.out)); (case side2 => repeat (first | (with_reducible first | exact HB.out | apply below_alloc | apply pw_below_drewN | apply below_drew1 | refine below_set ?_ (IsS79.ge HI0.out)) | exact HB.out)); rintro e w27 ⟨rfl, hi, hb, hk⟩; have n0_ := Q0_ (Kd.R_mono (Kd.R_keep (IsS79.apart (show IsS79 w0 _ g s0_0 t450 from by repeat (first | (with_reducible first | exact HI0.out | apply IsS79.alloc | apply IsS79.drewN | apply IsS79.drew | apply IsS79.set_1) | exact HI0.out)) (upR HO446) (by decide)) hk (fun _ h => h.2)) (fun _ h => h.1)); have n1_ := Q0_ (Kd.R_mono (Kd.R_keep (IsS79.apart (show IsS79 w0 _ g s0_0 t450 from by repeat (first | (with_reducible first | exact HI0.out | apply IsS79.alloc | apply IsS79.drewN | apply IsS79.drew | apply IsS79.set_1) | exact HI0.out)) (upR HO449) (by decide)) hk (fun _ h => h.2)) (fun _ h => h.1)); have n2_ := Q0_ (KeepBut.trans (by repeat (first | (with_reducible first | exact HK.out | apply KeepBut.set_ | apply keep_drewN | apply keep_drew | apply keep_alloc) | exact HK.out)) hk (.inl rfl)); have n3_ := Q0_ (hb); have n4_ := Q0_ (hi); clear HO446 HO449 HK HB HI0; revert n0_ n1_ n2_ n3_ n4_; intro HO446 HO449 HK HB HI0; (try clear hb); (try clear hb2); (try clear hk); (try clear hi)))
 repeat (go_quiet (first | (go_at_call 42; (with_reducible refine (spec_l92Edited.calls k g s0_0 s0_1 t444 t447 t450 w0 _ ?side1 ?side2 A2.out).mono ?_); (case side1 => repeat (first | (with_reducible first | exact HI0.out | apply IsS79.alloc | apply IsS79.drewN | apply IsS79.drew | apply IsS79.set_1) | exact HI0.out)); (case side2 => repeat (first | (with_reducible first | exact HB.out | apply below_alloc | apply pw_below_drewN | apply below_drew1 | refine below_set ?_ (IsS79.ge HI0.out)) | exact HB.out)); rintro e w26 ⟨v445, v448, rfl, ho0, ho1, hi, hb, hk⟩; have n0_ := Q0_ (Kd.R_lower ho0 (keep_size (w := w) (g := g) (row := none) (by repeat (first | (with_reducible first | exact HK.out | apply KeepBut.set_ | apply keep_drewN | apply keep_drew | apply keep_alloc) | exact HK.out)))); have n1_ := Q0_ (Kd.R_lower ho1 (keep_size (w := w) (g := g) (row := none) (by repeat (first | (with_reducible first | exact HK.out | apply KeepBut.set_ | apply keep_drewN | apply keep_drew | apply keep_alloc) | exact HK.out)))); have n2_ := Q0_ (KeepBut.trans (by repeat (first | (with_reducible first | exact HK.out | apply KeepBut.set_ | apply keep_drewN | apply keep_drew | apply keep_alloc) | exact HK.out)) hk (.inl rfl)); have n3_ := Q0_ (hb); have n4_ := Q0_ (hi); clear HK HB HI0; revert n0_ n1_ n2_ n3_ n4_; intro HO446 HO449 HK HB HI0; (try clear hb); (try clear hb2); (try clear hk); (try clear hi); (try clear ho0); (try clear ho1)) | (go_at_call 51; (with_reducible refine (spec_l6Rd_pick.calls k g s0_0 t450 2 t451 t452 w0 _ ?side1 ?side2 A3.out).mono ?_); (case side1 => repeat (first | (with_reducible first | exact HI0.out | apply IsS79.alloc | apply IsS79.drewN | apply IsS79.drew | apply IsS79.set_1) | exact HI0.out)); (case side2 => repeat (first | (with_reducible first | exact HB.out | apply below_alloc | apply pw_below_drewN | apply below_drew1 | refine below_set ?_ (IsS79.ge HI0.out)) | exact HB.out)); rintro e w27 ⟨rfl, hi, hb, hk⟩; have n0_ := Q0_ (Kd.R_mono (Kd.R_keep (IsS79.apart (show IsS79 w0 _ g s0_0 t450 from by repeat (first | (with_reducible first | exact HI0.out | apply IsS79.alloc | apply IsS79.drewN | apply IsS79.drew | apply IsS79.set_1) | exact HI0.out)) (upR HO446) (by decide)) hk (fun _ h => h.2)) (fun _ h => h.1)); have n1_ := Q0_ (Kd.R_mono (Kd.R_keep (IsS79.apart (show IsS79 w0 _ g s0_0 t450 from by repeat (first | (with_reducible first | exact HI0.out | apply IsS79.alloc | apply IsS79.drewN | apply IsS79.drew | apply IsS79.set_1) | exact HI0.out)) (upR HO449) (by decide)) hk (fun _ h => h.2)) (fun _ h => h.1)); have n2_ := Q0_ (KeepBut.trans (by repeat (first | (with_reducible first | exact HK.out | apply KeepBut.set_ | apply keep_drewN | apply keep_drew | apply keep_alloc) | exact HK.out)) hk (.inl rfl)); have n3_ := Q0_ (hb); have n4_ := Q0_ (hi); clear HO446 HO449 HK HB HI0; revert n0_ n1_ n2_ n3_ n4_; intro HO446 HO449 HK HB HI0; (try clear hb); (try clear hb2); (try clear hk); (try clear hi))); try go_wp2_with (first | (go_at_call 42; (with_reducible refine (spec_l92Edited.calls k g s0_0 s0_1 t444 t447 t450 w0 _ ?side1 ?side2 A2.out).mono ?_); (case side1 => repeat (first | (with_reducible first | exact HI0.out | apply IsS79.alloc | apply IsS79.drewN | apply IsS79.drew | apply IsS79.set_1) | exact HI0.out)); (case side2 => repeat (first | (with_reducible first | exact HB.out | apply below_alloc | apply pw_below_drewN | apply below_drew1 | refine below_set ?_ (IsS79.ge HI0.out)) | exact HB.out)); rintro e w26 ⟨v445, v448, rfl, ho0, ho1, hi, hb, hk⟩; have n0_ := Q0_ (Kd.R_lower ho0 (keep_size (w := w) (g := g) (row := none) (by repeat (first | (with_reducible first | exact HK.out | apply KeepBut.set_ | apply keep_drewN | apply keep_drew | apply keep_alloc) | exact HK.out)))); have n1_ := Q0_ (Kd.R_lower ho1 (keep_size (w := w) (g := g) (row := none) (by repeat (first | (with_reducible first | exact HK.out | apply KeepBut.set_ | apply keep_drewN | apply keep_drew | apply keep_alloc) | exact HK.out)))); have n2_ := Q0_ (KeepBut.trans (by repeat (first | (with_reducible first | exact HK.out | apply KeepBut.set_ | apply keep_drewN | apply keep_drew | apply keep_alloc) | exact HK.out)) hk (.inl rfl)); have n3_ := Q0_ (hb); have n4_ := Q0_ (hi); clear HK HB HI0; revert n0_ n1_ n2_ n3_ n4_; intro HO446 HO449 HK HB HI0; (try clear hb); (try clear hb2); (try clear hk); (try clear hi); (try clear ho0); (try clear ho1)) | (go_at_call 51; (with_reducible refine (spec_l6Rd_pick.calls k g s0_0 t450 2 t451 t452 w0 _ ?side1 ?side2 A3.out).mono ?_); (case side1 => repeat (first | (with_reducible first | exact HI0.out | apply IsS79.alloc | apply IsS79.drewN | apply IsS79.drew | apply IsS79.set_1) | exact HI0.out)); (case side2 => repeat (first | (with_reducible first | exact HB.out | apply below_alloc | apply pw_below_drewN | apply below_drew1 | refine below_set ?_ (IsS79.ge HI0.out)) | exact HB.out)); rintro e w27 ⟨rfl, hi, hb, hk⟩; have n0_ := Q0_ (Kd.R_mono (Kd.R_keep (IsS79.apart (show IsS79 w0 _ g s0_0 t450 from by repeat (first | (with_reducible first | exact HI0.out | apply IsS79.alloc | apply IsS79.drewN | apply IsS79.drew | apply IsS79.set_1) | exact HI0.out)) (upR HO446) (by decide)) hk (fun _ h => h.2)) (fun _ h => h.1)); have n1_ := Q0_ (Kd.R_mono (Kd.R_keep (IsS79.apart (show IsS79 w0 _ g s0_0 t450 from by repeat (first | (with_reducible first | exact HI0.out | apply IsS79.alloc | apply IsS79.drewN | apply IsS79.drew | apply IsS79.set_1) | exact HI0.out)) (upR HO449) (by decide)) hk (fun _ h => h.2)) (fun _ h => h.1)); have n2_ := Q0_ (KeepBut.trans (by repeat (first | (with_reducible first | exact HK.out | apply KeepBut.set_ | apply keep_drewN | apply keep_drew | apply keep_alloc) | exact HK.out)) hk (.inl rfl)); have n3_ := Q0_ (hb); have n4_ := Q0_ (hi); clear HO446 HO449 HK HB HI0; revert n0_ n1_ n2_ n3_ n4_; intro HO446 HO449 HK HB HI0; (try clear hb); (try clear hb2); (try clear hk); (try clear hi))))
 go_loopg [9, 10, 11] k (fun kq v9 v10 v11 w' => ∃ (x9_1 : ByteArray) (x10_1 : Int) (x11_1 : Int) (x1001_1 : Int), v9 = .string x9_1 ∧ v10 = .int .i64 x10_1 ∧ v11 = .int .i64 x11_1 ∧ Aside0 (spec_l92Aligned.l0 kq t444 t447 x9_1 x10_1 x11_1 s0_0 x1001_1 = some (r1, r2, r3, r4)) ∧ Aside0 (kq ≤ k) ∧ Aside0 (Kd.R k36 36 w' w.heap.size (fun k_ => nb k_ (v448)) v445 t444) ∧ Aside0 (Kd.R k36 36 w' w.heap.size (fun k_ => nb k_ (v445)) v448 t447) ∧ Aside0 (IsS79 w0 w' g s0_0 x1001_1) ∧ Aside0 (KeepBut w w' g none) ∧ Aside0 (Below w0.heap.size w0 w'))
 case atStart => exact ⟨((⟨#[]⟩ : ByteArray)), (0), (0), (t452), eX, eX, eX, H', ⟨Nat.le_refl _⟩, ⟨by (with_reducible repeat (first | apply Kd.R_alloc | apply Kd.R_drewN | apply Kd.R_drew)); exact HO446.out⟩, ⟨by (with_reducible repeat (first | apply Kd.R_alloc | apply Kd.R_drewN | apply Kd.R_drew)); exact HO449.out⟩, ⟨by repeat (first | (with_reducible first | exact HI0.out | apply IsS79.alloc | apply IsS79.drewN | apply IsS79.drew | apply IsS79.set_1) | exact HI0.out)⟩, ⟨by repeat (first | (with_reducible first | exact HK.out | apply KeepBut.set_ | apply keep_drewN | apply keep_drew | apply keep_alloc) | exact HK.out)⟩, ⟨by repeat (first | (with_reducible first | exact HB.out | apply below_alloc | apply pw_below_drewN | apply below_drew1 | refine below_set ?_ (IsS79.ge HI0.out)) | exact HB.out)⟩⟩
 case round =>
  clear H'
  try clear p2
  try clear c4
  try clear c4b0
  try clear c4b1
  try clear c7
  try clear c7b0
  try clear c7b1
  try clear c9
  try clear c9b0
  try clear c9b1
  try clear c9b2
  obtain ⟨x9_1, x10_1, x11_1, x1001_1, rfl, rfl, rfl, HA, HK1, HO_5, HO_6, HI0, HK, HB⟩ := hrel
  cases gk with
  | zero => exact absurd HA.out (by simp [spec_l92Aligned.l0])
  | succ k1 =>
   have H := HA.out
   clear HA
   simp only [spec_l92Aligned.l0] at H
   have HC28 := Aside0.mk H
   clear H
   go_upto_region 10 with (fail)
   repeat (go_quiet (fail); go_upto_region 10 with (fail))
   go_cut [46] (fun v46 wc => ∃ (kq : Nat) (x46_27 : Bool), v46 = .bool x46_27 ∧ Aside0 (spec_l92Aligned.j1 kq t444 t447 x9_1 x10_1 x11_1 x46_27 s0_0 x1001_1 = some (r1, r2, r3, r4)) ∧ Aside0 (kq ≤ k1) ∧ Aside0 (Kd.R k36 36 wc w.heap.size (fun k_ => nb k_ (v448)) v445 t444) ∧ Aside0 (Kd.R k36 36 wc w.heap.size (fun k_ => nb k_ (v445)) v448 t447) ∧ Aside0 (IsS79 w0 wc g s0_0 x1001_1) ∧ Aside0 (KeepBut w wc g none) ∧ Aside0 (Below w0.heap.size w0 wc))
   case first =>
    have H := HC28.out
    clear HC28
    by_cases c29 : x10_1 < (t444.length : Int)
    ·rw [if_pos c29] at H
     have c29b0 : decide (x10_1 < (t444.length : Int)) = true := decide_eq_true c29
     clear c29
     (first | rw [c29b0] | (simp only [i64_w, i32_w]; rw [c29b0]) | skip)
     have H' := Aside0.mk H
     clear H
     obtain ⟨Ao30, co30, eo30⟩ := Kd.R_slice HO_5.out
     subst eo30
     go_wp2
     repeat (go_quiet (fail); try go_wp2)
     go_meet
     case rel => exact ⟨_, (true), eX, H', ⟨by have := HK1.out; first | omega | exact Nat.le_refl _⟩, ⟨by (with_reducible repeat (first | apply Kd.R_alloc | apply Kd.R_drewN | apply Kd.R_drew)); exact HO_5.out⟩, ⟨by (with_reducible repeat (first | apply Kd.R_alloc | apply Kd.R_drewN | apply Kd.R_drew)); exact HO_6.out⟩, ⟨by repeat (first | (with_reducible first | exact HI0.out | apply IsS79.alloc | apply IsS79.drewN | apply IsS79.drew | apply IsS79.set_1) | exact HI0.out)⟩, ⟨by repeat (first | (with_reducible first | exact HK.out | apply KeepBut.set_ | apply keep_drewN | apply keep_drew | apply keep_alloc) | exact HK.out)⟩, ⟨by repeat (first | (with_reducible first | exact HB.out | apply below_alloc | apply pw_below_drewN | apply below_drew1 | refine below_set ?_ (IsS79.ge HI0.out)) | exact HB.out)⟩⟩
    rw [if_neg c29] at H
    have c29b0 : decide (x10_1 < (t444.length : Int)) = false := decide_eq_false c29
    clear c29
    (first | rw [c29b0] | (simp only [i64_w, i32_w]; rw [c29b0]) | skip)
    have H' := Aside0.mk H
    clear H
    obtain ⟨Ao31, co31, eo31⟩ := Kd.R_slice HO_5.out
    subst eo31
    obtain ⟨Ao32, co32, eo32⟩ := Kd.R_slice HO_6.out
    subst eo32
    go_wp2
    repeat (go_quiet (fail); try go_wp2)
    go_meet
    case rel => exact ⟨_, (decide (x11_1 < (t447.length : Int))), eX, H', ⟨by have := HK1.out; first | omega | exact Nat.le_refl _⟩, ⟨by (with_reducible repeat (first | apply Kd.R_alloc | apply Kd.R_drewN | apply Kd.R_drew)); exact HO_5.out⟩, ⟨by (with_reducible repeat (first | apply Kd.R_alloc | apply Kd.R_drewN | apply Kd.R_drew)); exact HO_6.out⟩, ⟨by repeat (first | (with_reducible first | exact HI0.out | apply IsS79.alloc | apply IsS79.drewN | apply IsS79.drew | apply IsS79.set_1) | exact HI0.out)⟩, ⟨by repeat (first | (with_reducible first | exact HK.out | apply KeepBut.set_ | apply keep_drewN | apply keep_drew | apply keep_alloc) | exact HK.out)⟩, ⟨by repeat (first | (with_reducible first | exact HB.out | apply below_alloc | apply pw_below_drewN | apply below_drew1 | refine below_set ?_ (IsS79.ge HI0.out)) | exact HB.out)⟩⟩
   case rest =>
    clear HC28
    try clear c2
    try clear p2
    try clear c4
    try clear c4b0
    try clear c4b1
    try clear c7
    try clear c7b0
    try clear c7b1
    try clear c9
    try clear c9b0
    try clear c9b1
    try clear c9b2
    try clear c29
    try clear c29b0
    try clear p2
    obtain ⟨kq, x46_27, rfl, HA, HJ27, HO_5, HO_6, HI0, HK, HB⟩ := hcut
    cases kq with
    | zero => exact absurd HA.out (by simp [spec_l92Aligned.j1])
    | succ kj27 =>
     have H := HA.out
     clear HA
     simp only [spec_l92Aligned.j1] at H
     by_cases c33 : x46_27 = true
     rotate_left
     ·replace c33 := Bool.eq_false_iff.mpr c33
      subst c33
      replace H := ifN ((show ¬ (false = true) by decide)) H
      simp only [Option.some.injEq, Prod.mk.injEq] at H
      obtain ⟨rfl, rfl, rfl, rfl⟩ := H
      go_wp2
      repeat (go_quiet (fail); try go_wp2)
      go_ret3
      exact ⟨_, _, by first | rfl | (simp [errW_none, errW_some] <;> rfl) | (simp [*, errW_none, errW_some] <;> rfl), by (with_reducible repeat (first | apply Kd.R_alloc | apply Kd.R_drewN | apply Kd.R_drew)); exact HO_5.out, by (with_reducible repeat (first | apply Kd.R_alloc | apply Kd.R_drewN | apply Kd.R_drew)); exact HO_6.out, by repeat (first | (with_reducible first | exact HI0.out | apply IsS79.alloc | apply IsS79.drewN | apply IsS79.drew | apply IsS79.set_1) | exact HI0.out), by repeat (first | (with_reducible first | exact HB.out | apply below_alloc | apply pw_below_drewN | apply below_drew1 | refine below_set ?_ (IsS79.ge HI0.out)) | exact HB.out), by repeat (first | (with_reducible first | exact HK.out | apply KeepBut.set_ | apply keep_drewN | apply keep_drew | apply keep_alloc) | exact HK.out)⟩
     subst c33
     replace H := ifP (rfl) H
     have HC34 := Aside0.mk H
     clear H
     go_upto_region 14 with (fail)
     repeat (go_quiet (fail); go_upto_region 14 with (fail))
     go_cut [53] (fun v53 wc => ∃ (kq : Nat) (x53_33 : Bool) (x1001_33 : Int), v53 = .bool x53_33 ∧ Aside0 (spec_l92Aligned.j2 kq t444 t447 x9_1 x10_1 x11_1 x53_33 s0_0 x1001_33 = some (r1, r2, r3, r4)) ∧ Aside0 (kq ≤ kj27) ∧ Aside0 (Kd.R k36 36 wc w.heap.size (fun k_ => nb k_ (v448)) v445 t444) ∧ Aside0 (Kd.R k36 36 wc w.heap.size (fun k_ => nb k_ (v445)) v448 t447) ∧ Aside0 (IsS79 w0 wc g s0_0 x1001_33) ∧ Aside0 (KeepBut w wc g none) ∧ Aside0 (Below w0.heap.size w0 wc))
     case first =>
      have H := HC34.out
      clear HC34
      by_cases c35 : x11_1 = (t447.length : Int)
      ·rw [if_pos c35] at H
       have c35b0 : (x11_1 == (t447.length : Int)) = true := beq_iff_eq.mpr c35
       have c35b1 : (x11_1 != (t447.length : Int)) = false := bne_eq_false_iff_eq.mpr c35
       clear c35
       (first | rw [c35b0] | (simp only [i64_w, i32_w]; rw [c35b0]) | skip)
       have H' := Aside0.mk H
       clear H
       obtain ⟨Ao36, co36, eo36⟩ := Kd.R_slice HO_6.out
       subst eo36
       go_wp2
       repeat (go_quiet (fail); try go_wp2)
       go_meet
       case rel => exact ⟨_, (true), (x1001_1), eX, H', ⟨by have := HK1.out; have := HJ27.out; first | omega | exact Nat.le_refl _⟩, ⟨by (with_reducible repeat (first | apply Kd.R_alloc | apply Kd.R_drewN | apply Kd.R_drew)); exact HO_5.out⟩, ⟨by (with_reducible repeat (first | apply Kd.R_alloc | apply Kd.R_drewN | apply Kd.R_drew)); exact HO_6.out⟩, ⟨by repeat (first | (with_reducible first | exact HI0.out | apply IsS79.alloc | apply IsS79.drewN | apply IsS79.drew | apply IsS79.set_1) | exact HI0.out)⟩, ⟨by repeat (first | (with_reducible first | exact HK.out | apply KeepBut.set_ | apply keep_drewN | apply keep_drew | apply keep_alloc) | exact HK.out)⟩, ⟨by repeat (first | (with_reducible first | exact HB.out | apply below_alloc | apply pw_below_drewN | apply below_drew1 | refine below_set ?_ (IsS79.ge HI0.out)) | exact HB.out)⟩⟩
      rw [if_neg c35] at H
      have c35b0 : (x11_1 == (t447.length : Int)) = false := beq_eq_false_iff_ne.mpr c35
      have c35b1 : (x11_1 != (t447.length : Int)) = true := bne_iff_ne.mpr c35
      (first | rw [c35b0] | (simp only [i64_w, i32_w]; rw [c35b0]) | skip)
      by_cases c37 : x10_1 < (t444.length : Int)
      rotate_left
      ·rw [if_neg c37] at H
       have c37b0 : decide (x10_1 < (t444.length : Int)) = false := decide_eq_false c37
       clear c37
       have H' := Aside0.mk H
       clear H
       obtain ⟨Ao42, co42, eo42⟩ := Kd.R_slice HO_6.out
       subst eo42
       obtain ⟨Ao43, co43, eo43⟩ := Kd.R_slice HO_5.out
       subst eo43
       go_wp2
       repeat (go_quiet (fail); try go_wp2)
       go_meet
       case rel => exact ⟨_, (false), (x1001_1), eX, H', ⟨by have := HK1.out; have := HJ27.out; first | omega | exact Nat.le_refl _⟩, ⟨by (with_reducible repeat (first | apply Kd.R_alloc | apply Kd.R_drewN | apply Kd.R_drew)); exact HO_5.out⟩, ⟨by (with_reducible repeat (first | apply Kd.R_alloc | apply Kd.R_drewN | apply Kd.R_drew)); exact HO_6.out⟩, ⟨by repeat (first | (with_reducible first | exact HI0.out | apply IsS79.alloc | apply IsS79.drewN | apply IsS79.drew | apply IsS79.set_1) | exact HI0.out)⟩, ⟨by repeat (first | (with_reducible first | exact HK.out | apply KeepBut.set_ | apply keep_drewN | apply keep_drew | apply keep_alloc) | exact HK.out)⟩, ⟨by repeat (first | (with_reducible first | exact HB.out | apply below_alloc | apply pw_below_drewN | apply below_drew1 | refine below_set ?_ (IsS79.ge HI0.out)) | exact HB.out)⟩⟩
      rw [if_pos c37] at H
      have c37b0 : decide (x10_1 < (t444.length : Int)) = true := decide_eq_true c37
      clear c37
      obtain ⟨⟨t462, t463⟩, A380, H⟩ := Option.bind_eq_some_iff.mp H
      try dsimp only at H
      have A38 := Aside0.mk A380
      clear A380
      have H' := Aside0.mk H
      clear H
      obtain ⟨Ao39, co39, eo39⟩ := Kd.R_slice HO_6.out
      subst eo39
      obtain ⟨Ao40, co40, eo40⟩ := Kd.R_slice HO_5.out
      subst eo40
      go_wp2_with (first | (go_at_call 51; (with_reducible refine (spec_l6Rd_pick.calls kj27 g s0_0 x1001_1 3 t462 t463 w0 _ ?side1 ?side2 A38.out).mono ?_); (case side1 => repeat (first | (with_reducible first | exact HI0.out | apply IsS79.alloc | apply IsS79.drewN | apply IsS79.drew | apply IsS79.set_1) | exact HI0.out)); (case side2 => repeat (first | (with_reducible first | exact HB.out | apply below_alloc | apply pw_below_drewN | apply below_drew1 | refine below_set ?_ (IsS79.ge HI0.out)) | exact HB.out)); rintro e w41 ⟨rfl, hi, hb, hk⟩; have n0_ := Q0_ (Kd.R_mono (Kd.R_keep (IsS79.apart (show IsS79 w0 _ g s0_0 x1001_1 from by repeat (first | (with_reducible first | exact HI0.out | apply IsS79.alloc | apply IsS79.drewN | apply IsS79.drew | apply IsS79.set_1) | exact HI0.out)) (upR HO_5) (by decide)) hk (fun _ h => h.2)) (fun _ h => h.1)); have n1_ := Q0_ (Kd.R_mono (Kd.R_keep (IsS79.apart (show IsS79 w0 _ g s0_0 x1001_1 from by repeat (first | (with_reducible first | exact HI0.out | apply IsS79.alloc | apply IsS79.drewN | apply IsS79.drew | apply IsS79.set_1) | exact HI0.out)) (upR HO_6) (by decide)) hk (fun _ h => h.2)) (fun _ h => h.1)); have n2_ := Q0_ (KeepBut.trans (by repeat (first | (with_reducible first | exact HK.out | apply KeepBut.set_ | apply keep_drewN | apply keep_drew | apply keep_alloc) | exact HK.out)) hk (.inl rfl)); have n3_ := Q0_ (hb); have n4_ := Q0_ (hi); clear HO_5 HO_6 HK HB HI0; revert n0_ n1_ n2_ n3_ n4_; intro HO_5 HO_6 HK HB HI0; (try clear hb); (try clear hb2); (try clear hk); (try clear hi)))
      repeat (go_quiet (first | (go_at_call 51; (with_reducible refine (spec_l6Rd_pick.calls kj27 g s0_0 x1001_1 3 t462 t463 w0 _ ?side1 ?side2 A38.out).mono ?_); (case side1 => repeat (first | (with_reducible first | exact HI0.out | apply IsS79.alloc | apply IsS79.drewN | apply IsS79.drew | apply IsS79.set_1) | exact HI0.out)); (case side2 => repeat (first | (with_reducible first | exact HB.out | apply below_alloc | apply pw_below_drewN | apply below_drew1 | refine below_set ?_ (IsS79.ge HI0.out)) | exact HB.out)); rintro e w41 ⟨rfl, hi, hb, hk⟩; have n0_ := Q0_ (Kd.R_mono (Kd.R_keep (IsS79.apart (show IsS79 w0 _ g s0_0 x1001_1 from by repeat (first | (with_reducible first | exact HI0.out | apply IsS79.alloc | apply IsS79.drewN | apply IsS79.drew | apply IsS79.set_1) | exact HI0.out)) (upR HO_5) (by decide)) hk (fun _ h => h.2)) (fun _ h => h.1)); have n1_ := Q0_ (Kd.R_mono (Kd.R_keep (IsS79.apart (show IsS79 w0 _ g s0_0 x1001_1 from by repeat (first | (with_reducible first | exact HI0.out | apply IsS79.alloc | apply IsS79.drewN | apply IsS79.drew | apply IsS79.set_1) | exact HI0.out)) (upR HO_6) (by decide)) hk (fun _ h => h.2)) (fun _ h => h.1)); have n2_ := Q0_ (KeepBut.trans (by repeat (first | (with_reducible first | exact HK.out | apply KeepBut.set_ | apply keep_drewN | apply keep_drew | apply keep_alloc) | exact HK.out)) hk (.inl rfl)); have n3_ := Q0_ (hb); have n4_ := Q0_ (hi); clear HO_5 HO_6 HK HB HI0; revert n0_ n1_ n2_ n3_ n4_; intro HO_5 HO_6 HK HB HI0; (try clear hb); (try clear hb2); (try clear hk); (try clear hi))); try go_wp2_with (first | (go_at_call 51; (with_reducible refine (spec_l6Rd_pick.calls kj27 g s0_0 x1001_1 3 t462 t463 w0 _ ?side1 ?side2 A38.out).mono ?_); (case side1 => repeat (first | (with_reducible first | exact HI0.out | apply IsS79.alloc | apply IsS79.drewN | apply IsS79.drew | apply IsS79.set_1) | exact HI0.out)); (case side2 => repeat (first | (with_reducible first | exact HB.out | apply below_alloc | apply pw_below_drewN | apply below_drew1 | refine below_set ?_ (IsS79.ge HI0.out)) | exact HB.out)); rintro e w41 ⟨rfl, hi, hb, hk⟩; have n0_ := Q0_ (Kd.R_mono (Kd.R_keep (IsS79.apart (show IsS79 w0 _ g s0_0 x1001_1 from by repeat (first | (with_reducible first | exact HI0.out | apply IsS79.alloc | apply IsS79.drewN | apply IsS79.drew | apply IsS79.set_1) | exact HI0.out)) (upR HO_5) (by decide)) hk (fun _ h => h.2)) (fun _ h => h.1)); have n1_ := Q0_ (Kd.R_mono (Kd.R_keep (IsS79.apart (show IsS79 w0 _ g s0_0 x1001_1 from by repeat (first | (with_reducible first | exact HI0.out | apply IsS79.alloc | apply IsS79.drewN | apply IsS79.drew | apply IsS79.set_1) | exact HI0.out)) (upR HO_6) (by decide)) hk (fun _ h => h.2)) (fun _ h => h.1)); have n2_ := Q0_ (KeepBut.trans (by repeat (first | (with_reducible first | exact HK.out | apply KeepBut.set_ | apply keep_drewN | apply keep_drew | apply keep_alloc) | exact HK.out)) hk (.inl rfl)); have n3_ := Q0_ (hb); have n4_ := Q0_ (hi); clear HO_5 HO_6 HK HB HI0; revert n0_ n1_ n2_ n3_ n4_; intro HO_5 HO_6 HK HB HI0; (try clear hb); (try clear hb2); (try clear hk); (try clear hi))))
      go_meet
      case rel => exact ⟨_, ((t462 == 0)), (t463), eX, H', ⟨by have := HK1.out; have := HJ27.out; first | omega | exact Nat.le_refl _⟩, ⟨by (with_reducible repeat (first | apply Kd.R_alloc | apply Kd.R_drewN | apply Kd.R_drew)); exact HO_5.out⟩, ⟨by (with_reducible repeat (first | apply Kd.R_alloc | apply Kd.R_drewN | apply Kd.R_drew)); exact HO_6.out⟩, ⟨by repeat (first | (with_reducible first | exact HI0.out | apply IsS79.alloc | apply IsS79.drewN | apply IsS79.drew | apply IsS79.set_1) | exact HI0.out)⟩, ⟨by repeat (first | (with_reducible first | exact HK.out | apply KeepBut.set_ | apply keep_drewN | apply keep_drew | apply keep_alloc) | exact HK.out)⟩, ⟨by repeat (first | (with_reducible first | exact HB.out | apply below_alloc | apply pw_below_drewN | apply below_drew1 | refine below_set ?_ (IsS79.ge HI0.out)) | exact HB.out)⟩⟩
     case rest =>
      clear HC34
      try clear c2
      try clear p2
      try clear c3
      try clear c4
      try clear c4b0
      try clear c4b1
      try clear c7
      try clear c7b0
      try clear c7b1
      try clear c9
      try clear c9b0
      try clear c9b1
      try clear c9b2
      try clear c29
      try clear c29b0
      try clear c33
      try clear c35
      try clear c35b0
      try clear c35b1
      try clear c37
      try clear c37b0
      try clear p2
      obtain ⟨kq, x53_33, x1001_33, rfl, HA, HJ33, HO_5, HO_6, HI0, HK, HB⟩ := hcut
      cases kq with
      | zero => exact absurd HA.out (by simp [spec_l92Aligned.j2])
      | succ kj33 =>
       have H := HA.out
       clear HA
       simp only [spec_l92Aligned.j2] at H
       by_cases c44 : x53_33 = true
       ·subst c44
        replace H := ifP (rfl) H
        by_cases c45 : x9_1.size + 1 ≤ 9223372036854775807
        rotate_left
        ·rw [if_neg c45] at H
         exact absurd H (by simp)
        rw [if_pos c45] at H
        have c45b0 := eq_true c45
        have c45b1 : decide (x9_1.size + 1 ≤ 9223372036854775807) = true := decide_eq_true c45
        try have c45b2 : (9223372036854775807 < x9_1.size + 1) = False := eq_false (Nat.not_lt.2 c45)
        have H' := Aside0.mk H
        clear H
        go_wp2
        repeat (go_quiet (fail); try go_wp2)
        go_roundg kj33
        case measure => have := HK1.out; have := HJ27.out; have := HJ33.out; omega
        case rel => exact ⟨(x9_1 ++ (⟨#[111]⟩ : ByteArray)), (wrap64 (x10_1 + 1)), (x11_1), (x1001_33), eX, eX, eX, H', ⟨by have := HK1.out; have := HJ27.out; have := HJ33.out; omega⟩, ⟨by (with_reducible repeat (first | apply Kd.R_alloc | apply Kd.R_drewN | apply Kd.R_drew)); exact HO_5.out⟩, ⟨by (with_reducible repeat (first | apply Kd.R_alloc | apply Kd.R_drewN | apply Kd.R_drew)); exact HO_6.out⟩, ⟨by repeat (first | (with_reducible first | exact HI0.out | apply IsS79.alloc | apply IsS79.drewN | apply IsS79.drew | apply IsS79.set_1) | exact HI0.out)⟩, ⟨by repeat (first | (with_reducible first | exact HK.out | apply KeepBut.set_ | apply keep_drewN | apply keep_drew | apply keep_alloc) | exact HK.out)⟩, ⟨by repeat (first | (with_reducible first | exact HB.out | apply below_alloc | apply pw_below_drewN | apply below_drew1 | refine below_set ?_ (IsS79.ge HI0.out)) | exact HB.out)⟩⟩
       replace c44 := Bool.eq_false_iff.mpr c44
       subst c44
       replace H := ifN ((show ¬ (false = true) by decide)) H
       have HC46 := Aside0.mk H
       clear H
       go_upto_region 17 with (fail)
       repeat (go_quiet (fail); go_upto_region 17 with (fail))
       go_cut [73] (fun v73 wc => ∃ (kq : Nat) (x73_45 : Bool) (x1001_45 : Int), v73 = .bool x73_45 ∧ Aside0 (spec_l92Aligned.j3 kq t444 t447 x9_1 x10_1 x11_1 x73_45 s0_0 x1001_45 = some (r1, r2, r3, r4)) ∧ Aside0 (kq ≤ kj33) ∧ Aside0 (Kd.R k36 36 wc w.heap.size (fun k_ => nb k_ (v448)) v445 t444) ∧ Aside0 (Kd.R k36 36 wc w.heap.size (fun k_ => nb k_ (v445)) v448 t447) ∧ Aside0 (IsS79 w0 wc g s0_0 x1001_45) ∧ Aside0 (KeepBut w wc g none) ∧ Aside0 (Below w0.heap.size w0 wc))
       case first =>
        have H := HC46.out
        clear HC46
        by_cases c47 : x10_1 = (t444.length : Int)
        ·rw [if_pos c47] at H
         have c47b0 : (x10_1 == (t444.length : Int)) = true := beq_iff_eq.mpr c47
         have c47b1 : (x10_1 != (t444.length : Int)) = false := bne_eq_false_iff_eq.mpr c47
         clear c47
         (first | rw [c47b0] | (simp only [i64_w, i32_w]; rw [c47b0]) | skip)
         have H' := Aside0.mk H
         clear H
         obtain ⟨Ao48, co48, eo48⟩ := Kd.R_slice HO_5.out
         subst eo48
         go_wp2
         repeat (go_quiet (fail); try go_wp2)
         go_meet
         case rel => exact ⟨_, (true), (x1001_33), eX, H', ⟨by have := HK1.out; have := HJ27.out; have := HJ33.out; first | omega | exact Nat.le_refl _⟩, ⟨by (with_reducible repeat (first | apply Kd.R_alloc | apply Kd.R_drewN | apply Kd.R_drew)); exact HO_5.out⟩, ⟨by (with_reducible repeat (first | apply Kd.R_alloc | apply Kd.R_drewN | apply Kd.R_drew)); exact HO_6.out⟩, ⟨by repeat (first | (with_reducible first | exact HI0.out | apply IsS79.alloc | apply IsS79.drewN | apply IsS79.drew | apply IsS79.set_1) | exact HI0.out)⟩, ⟨by repeat (first | (with_reducible first | exact HK.out | apply KeepBut.set_ | apply keep_drewN | apply keep_drew | apply keep_alloc) | exact HK.out)⟩, ⟨by repeat (first | (with_reducible first | exact HB.out | apply below_alloc | apply pw_below_drewN | apply below_drew1 | refine below_set ?_ (IsS79.ge HI0.out)) | exact HB.out)⟩⟩
        rw [if_neg c47] at H
        have c47b0 : (x10_1 == (t444.length : Int)) = false := beq_eq_false_iff_ne.mpr c47
        have c47b1 : (x10_1 != (t444.length : Int)) = true := bne_iff_ne.mpr c47
        (first | rw [c47b0] | (simp only [i64_w, i32_w]; rw [c47b0]) | skip)
        obtain ⟨⟨t464, t465⟩, A490, H⟩ := Option.bind_eq_some_iff.mp H
        try dsimp only at H
        have A49 := Aside0.mk A490
        clear A490
        have H' := Aside0.mk H
        clear H
        obtain ⟨Ao50, co50, eo50⟩ := Kd.R_slice HO_5.out
        subst eo50
        go_wp2_with (first | (go_at_call 51; (with_reducible refine (spec_l6Rd_pick.calls kj33 g s0_0 x1001_33 2 t464 t465 w0 _ ?side1 ?side2 A49.out).mono ?_); (case side1 => repeat (first | (with_reducible first | exact HI0.out | apply IsS79.alloc | apply IsS79.drewN | apply IsS79.drew | apply IsS79.set_1) | exact HI0.out)); (case side2 => repeat (first | (with_reducible first | exact HB.out | apply below_alloc | apply pw_below_drewN | apply below_drew1 | refine below_set ?_ (IsS79.ge HI0.out)) | exact HB.out)); rintro e w51 ⟨rfl, hi, hb, hk⟩; have n0_ := Q0_ (Kd.R_mono (Kd.R_keep (IsS79.apart (show IsS79 w0 _ g s0_0 x1001_33 from by repeat (first | (with_reducible first | exact HI0.out | apply IsS79.alloc | apply IsS79.drewN | apply IsS79.drew | apply IsS79.set_1) | exact HI0.out)) (upR HO_5) (by decide)) hk (fun _ h => h.2)) (fun _ h => h.1)); have n1_ := Q0_ (Kd.R_mono (Kd.R_keep (IsS79.apart (show IsS79 w0 _ g s0_0 x1001_33 from by repeat (first | (with_reducible first | exact HI0.out | apply IsS79.alloc | apply IsS79.drewN | apply IsS79.drew | apply IsS79.set_1) | exact HI0.out)) (upR HO_6) (by decide)) hk (fun _ h => h.2)) (fun _ h => h.1)); have n2_ := Q0_ (KeepBut.trans (by repeat (first | (with_reducible first | exact HK.out | apply KeepBut.set_ | apply keep_drewN | apply keep_drew | apply keep_alloc) | exact HK.out)) hk (.inl rfl)); have n3_ := Q0_ (hb); have n4_ := Q0_ (hi); clear HO_5 HO_6 HK HB HI0; revert n0_ n1_ n2_ n3_ n4_; intro HO_5 HO_6 HK HB HI0; (try clear hb); (try clear hb2); (try clear hk); (try clear hi)))
        repeat (go_quiet (first | (go_at_call 51; (with_reducible refine (spec_l6Rd_pick.calls kj33 g s0_0 x1001_33 2 t464 t465 w0 _ ?side1 ?side2 A49.out).mono ?_); (case side1 => repeat (first | (with_reducible first | exact HI0.out | apply IsS79.alloc | apply IsS79.drewN | apply IsS79.drew | apply IsS79.set_1) | exact HI0.out)); (case side2 => repeat (first | (with_reducible first | exact HB.out | apply below_alloc | apply pw_below_drewN | apply below_drew1 | refine below_set ?_ (IsS79.ge HI0.out)) | exact HB.out)); rintro e w51 ⟨rfl, hi, hb, hk⟩; have n0_ := Q0_ (Kd.R_mono (Kd.R_keep (IsS79.apart (show IsS79 w0 _ g s0_0 x1001_33 from by repeat (first | (with_reducible first | exact HI0.out | apply IsS79.alloc | apply IsS79.drewN | apply IsS79.drew | apply IsS79.set_1) | exact HI0.out)) (upR HO_5) (by decide)) hk (fun _ h => h.2)) (fun _ h => h.1)); have n1_ := Q0_ (Kd.R_mono (Kd.R_keep (IsS79.apart (show IsS79 w0 _ g s0_0 x1001_33 from by repeat (first | (with_reducible first | exact HI0.out | apply IsS79.alloc | apply IsS79.drewN | apply IsS79.drew | apply IsS79.set_1) | exact HI0.out)) (upR HO_6) (by decide)) hk (fun _ h => h.2)) (fun _ h => h.1)); have n2_ := Q0_ (KeepBut.trans (by repeat (first | (with_reducible first | exact HK.out | apply KeepBut.set_ | apply keep_drewN | apply keep_drew | apply keep_alloc) | exact HK.out)) hk (.inl rfl)); have n3_ := Q0_ (hb); have n4_ := Q0_ (hi); clear HO_5 HO_6 HK HB HI0; revert n0_ n1_ n2_ n3_ n4_; intro HO_5 HO_6 HK HB HI0; (try clear hb); (try clear hb2); (try clear hk); (try clear hi))); try go_wp2_with (first | (go_at_call 51; (with_reducible refine (spec_l6Rd_pick.calls kj33 g s0_0 x1001_33 2 t464 t465 w0 _ ?side1 ?side2 A49.out).mono ?_); (case side1 => repeat (first | (with_reducible first | exact HI0.out | apply IsS79.alloc | apply IsS79.drewN | apply IsS79.drew | apply IsS79.set_1) | exact HI0.out)); (case side2 => repeat (first | (with_reducible first | exact HB.out | apply below_alloc | apply pw_below_drewN | apply below_drew1 | refine below_set ?_ (IsS79.ge HI0.out)) | exact HB.out)); rintro e w51 ⟨rfl, hi, hb, hk⟩; have n0_ := Q0_ (Kd.R_mono (Kd.R_keep (IsS79.apart (show IsS79 w0 _ g s0_0 x1001_33 from by repeat (first | (with_reducible first | exact HI0.out | apply IsS79.alloc | apply IsS79.drewN | apply IsS79.drew | apply IsS79.set_1) | exact HI0.out)) (upR HO_5) (by decide)) hk (fun _ h => h.2)) (fun _ h => h.1)); have n1_ := Q0_ (Kd.R_mono (Kd.R_keep (IsS79.apart (show IsS79 w0 _ g s0_0 x1001_33 from by repeat (first | (with_reducible first | exact HI0.out | apply IsS79.alloc | apply IsS79.drewN | apply IsS79.drew | apply IsS79.set_1) | exact HI0.out)) (upR HO_6) (by decide)) hk (fun _ h => h.2)) (fun _ h => h.1)); have n2_ := Q0_ (KeepBut.trans (by repeat (first | (with_reducible first | exact HK.out | apply KeepBut.set_ | apply keep_drewN | apply keep_drew | apply keep_alloc) | exact HK.out)) hk (.inl rfl)); have n3_ := Q0_ (hb); have n4_ := Q0_ (hi); clear HO_5 HO_6 HK HB HI0; revert n0_ n1_ n2_ n3_ n4_; intro HO_5 HO_6 HK HB HI0; (try clear hb); (try clear hb2); (try clear hk); (try clear hi))))
        go_meet
        case rel => exact ⟨_, ((t464 == 0)), (t465), eX, H', ⟨by have := HK1.out; have := HJ27.out; have := HJ33.out; first | omega | exact Nat.le_refl _⟩, ⟨by (with_reducible repeat (first | apply Kd.R_alloc | apply Kd.R_drewN | apply Kd.R_drew)); exact HO_5.out⟩, ⟨by (with_reducible repeat (first | apply Kd.R_alloc | apply Kd.R_drewN | apply Kd.R_drew)); exact HO_6.out⟩, ⟨by repeat (first | (with_reducible first | exact HI0.out | apply IsS79.alloc | apply IsS79.drewN | apply IsS79.drew | apply IsS79.set_1) | exact HI0.out)⟩, ⟨by repeat (first | (with_reducible first | exact HK.out | apply KeepBut.set_ | apply keep_drewN | apply keep_drew | apply keep_alloc) | exact HK.out)⟩, ⟨by repeat (first | (with_reducible first | exact HB.out | apply below_alloc | apply pw_below_drewN | apply below_drew1 | refine below_set ?_ (IsS79.ge HI0.out)) | exact HB.out)⟩⟩
       case rest =>
        clear HC46
        try clear c2
        try clear p2
        try clear c3
        try clear c4
        try clear c4b0
        try clear c4b1
        try clear p6
        try clear c7
        try clear c7b0
        try clear c7b1
        try clear c9
        try clear c9b0
        try clear c9b1
        try clear c9b2
        try clear c29
        try clear c29b0
        try clear c33
        try clear c35
        try clear c35b0
        try clear c35b1
        try clear c37
        try clear c37b0
        try clear c44
        try clear c45
        try clear c45b0
        try clear c45b1
        try clear c45b2
        try clear c46
        try clear c47
        try clear c47b0
        try clear c47b1
        try clear p2
        obtain ⟨kq, x73_45, x1001_45, rfl, HA, HJ45, HO_5, HO_6, HI0, HK, HB⟩ := hcut
        cases kq with
        | zero => exact absurd HA.out (by simp [spec_l92Aligned.j3])
        | succ kj45 =>
         have H := HA.out
         clear HA
         simp only [spec_l92Aligned.j3] at H
         by_cases c52 : x73_45 = true
         ·subst c52
          replace H := ifP (rfl) H
          by_cases c53 : x9_1.size + 1 ≤ 9223372036854775807
          rotate_left
          ·rw [if_neg c53] at H
           exact absurd H (by simp)
          rw [if_pos c53] at H
          have c53b0 := eq_true c53
          have c53b1 : decide (x9_1.size + 1 ≤ 9223372036854775807) = true := decide_eq_true c53
          try have c53b2 : (9223372036854775807 < x9_1.size + 1) = False := eq_false (Nat.not_lt.2 c53)
          have H' := Aside0.mk H
          clear H
          go_wp2
          repeat (go_quiet (fail); try go_wp2)
          go_roundg kj45
          case measure => have := HK1.out; have := HJ27.out; have := HJ33.out; have := HJ45.out; omega
          case rel => exact ⟨(x9_1 ++ (⟨#[105]⟩ : ByteArray)), (x10_1), (wrap64 (x11_1 + 1)), (x1001_45), eX, eX, eX, H', ⟨by have := HK1.out; have := HJ27.out; have := HJ33.out; have := HJ45.out; omega⟩, ⟨by (with_reducible repeat (first | apply Kd.R_alloc | apply Kd.R_drewN | apply Kd.R_drew)); exact HO_5.out⟩, ⟨by (with_reducible repeat (first | apply Kd.R_alloc | apply Kd.R_drewN | apply Kd.R_drew)); exact HO_6.out⟩, ⟨by repeat (first | (with_reducible first | exact HI0.out | apply IsS79.alloc | apply IsS79.drewN | apply IsS79.drew | apply IsS79.set_1) | exact HI0.out)⟩, ⟨by repeat (first | (with_reducible first | exact HK.out | apply KeepBut.set_ | apply keep_drewN | apply keep_drew | apply keep_alloc) | exact HK.out)⟩, ⟨by repeat (first | (with_reducible first | exact HB.out | apply below_alloc | apply pw_below_drewN | apply below_drew1 | refine below_set ?_ (IsS79.ge HI0.out)) | exact HB.out)⟩⟩
         replace c52 := Bool.eq_false_iff.mpr c52
         subst c52
         replace H := ifN ((show ¬ (false = true) by decide)) H
         by_cases c54 : 0 ≤ x10_1
         rotate_left
         ·rw [if_neg c54] at H
          exact absurd H (by simp)
         rw [if_pos c54] at H
         have c54b0 : decide (0 ≤ x10_1) = true := decide_eq_true c54
         clear c54
         by_cases c55 : x10_1 < (t444.length : Int)
         rotate_left
         ·rw [if_neg c55] at H
          exact absurd H (by simp)
         rw [if_pos c55] at H
         have c55b0 : decide (x10_1 < (t444.length : Int)) = true := decide_eq_true c55
         clear c55
         by_cases c56 : 0 ≤ x11_1
         rotate_left
         ·rw [if_neg c56] at H
          exact absurd H (by simp)
         rw [if_pos c56] at H
         have c56b0 : decide (0 ≤ x11_1) = true := decide_eq_true c56
         clear c56
         by_cases c57 : x11_1 < (t447.length : Int)
         rotate_left
         ·rw [if_neg c57] at H
          exact absurd H (by simp)
         rw [if_pos c57] at H
         have c57b0 : decide (x11_1 < (t447.length : Int)) = true := decide_eq_true c57
         clear c57
         by_cases c58 : (((rd_T36 t444 x10_1).f0) == ((rd_T36 t447 x11_1).f0) && (((rd_T36 t444 x10_1).f1) == ((rd_T36 t447 x11_1).f1))) = true
         ·rw [if_pos c58] at H
          have c58b0 : (((rd_T36 t444 x10_1).f0) == ((rd_T36 t447 x11_1).f0) && (((rd_T36 t444 x10_1).f1) == ((rd_T36 t447 x11_1).f1))) = true := c58
          (try (have c58b1 : decide (((rd_T36 t444 x10_1).f0) = ((rd_T36 t447 x11_1).f0) && (((rd_T36 t444 x10_1).f1) == ((rd_T36 t447 x11_1).f1))) = true := by simpa using c58))
          (try (have c58b2 : (((rd_T36 t444 x10_1).f0) == ((rd_T36 t447 x11_1).f0) && (((rd_T36 t444 x10_1).f1) == ((rd_T36 t447 x11_1).f1))) = true := by simpa using c58))
          clear c58
          by_cases c59 : x9_1.size + 1 ≤ 9223372036854775807
          rotate_left
          ·rw [if_neg c59] at H
           exact absurd H (by simp)
          rw [if_pos c59] at H
          have c59b0 := eq_true c59
          have c59b1 : decide (x9_1.size + 1 ≤ 9223372036854775807) = true := decide_eq_true c59
          try have c59b2 : (9223372036854775807 < x9_1.size + 1) = False := eq_false (Nat.not_lt.2 c59)
          have H' := Aside0.mk H
          clear H
          obtain ⟨Ao60, co60, eo60⟩ := Kd.R_slice HO_5.out
          subst eo60
          have p466 : 0 ≤ (x10_1 : Int) := of_decide_eq_true aS
          have q466 : x10_1 < (t444.length : Int) := of_decide_eq_true aS
          obtain ⟨ad466, e466, hx466_0, hx466_1⟩ := at_T36 (Kd.R_reads' HO_5.out).2.2 x10_1 p466 q466
          cases e466
          replace p466 := eq_true p466
          replace q466 := eq_true q466
          obtain ⟨Ao61, co61, eo61⟩ := Kd.R_slice HO_6.out
          subst eo61
          have p467 : 0 ≤ (x11_1 : Int) := of_decide_eq_true aS
          have q467 : x11_1 < (t447.length : Int) := of_decide_eq_true aS
          obtain ⟨ad467, e467, hx467_0, hx467_1⟩ := at_T36 (Kd.R_reads' HO_6.out).2.2 x11_1 p467 q467
          cases e467
          replace p467 := eq_true p467
          replace q467 := eq_true q467
          go_wp2
          repeat (go_quiet (fail); try go_wp2)
          go_roundg kj45
          case measure => have := HK1.out; have := HJ27.out; have := HJ33.out; have := HJ45.out; omega
          case rel => exact ⟨(x9_1 ++ (⟨#[107]⟩ : ByteArray)), (wrap64 (x10_1 + 1)), (wrap64 (x11_1 + 1)), (x1001_45), eX, eX, eX, H', ⟨by have := HK1.out; have := HJ27.out; have := HJ33.out; have := HJ45.out; omega⟩, ⟨by (with_reducible repeat (first | apply Kd.R_alloc | apply Kd.R_drewN | apply Kd.R_drew)); exact HO_5.out⟩, ⟨by (with_reducible repeat (first | apply Kd.R_alloc | apply Kd.R_drewN | apply Kd.R_drew)); exact HO_6.out⟩, ⟨by repeat (first | (with_reducible first | exact HI0.out | apply IsS79.alloc | apply IsS79.drewN | apply IsS79.drew | apply IsS79.set_1) | exact HI0.out)⟩, ⟨by repeat (first | (with_reducible first | exact HK.out | apply KeepBut.set_ | apply keep_drewN | apply keep_drew | apply keep_alloc) | exact HK.out)⟩, ⟨by repeat (first | (with_reducible first | exact HB.out | apply below_alloc | apply pw_below_drewN | apply below_drew1 | refine below_set ?_ (IsS79.ge HI0.out)) | exact HB.out)⟩⟩
         rw [if_neg c58] at H
         have c58b0 : (((rd_T36 t444 x10_1).f0) == ((rd_T36 t447 x11_1).f0) && (((rd_T36 t444 x10_1).f1) == ((rd_T36 t447 x11_1).f1))) = false := by simpa using c58
         (try (have c58b1 : decide (((rd_T36 t444 x10_1).f0) = ((rd_T36 t447 x11_1).f0) && (((rd_T36 t444 x10_1).f1) == ((rd_T36 t447 x11_1).f1))) = false := by simpa using c58))
         (try (have c58b2 : (((rd_T36 t444 x10_1).f0) == ((rd_T36 t447 x11_1).f0) && (((rd_T36 t444 x10_1).f1) == ((rd_T36 t447 x11_1).f1))) = false := by simpa using c58))
         (try (have c58b3 : ¬ (((rd_T36 t444 x10_1).f0) = ((rd_T36 t447 x11_1).f0) && (((rd_T36 t444 x10_1).f1) == ((rd_T36 t447 x11_1).f1))) := by simpa using c58))
         clear c58
         by_cases c62 : x9_1.size + 1 ≤ 9223372036854775807
         rotate_left
         ·rw [if_neg c62] at H
          exact absurd H (by simp)
         rw [if_pos c62] at H
         have c62b0 := eq_true c62
         have c62b1 : decide (x9_1.size + 1 ≤ 9223372036854775807) = true := decide_eq_true c62
         try have c62b2 : (9223372036854775807 < x9_1.size + 1) = False := eq_false (Nat.not_lt.2 c62)
         have H' := Aside0.mk H
         clear H
         obtain ⟨Ao63, co63, eo63⟩ := Kd.R_slice HO_5.out
         subst eo63
         have p466 : 0 ≤ (x10_1 : Int) := of_decide_eq_true aS
         have q466 : x10_1 < (t444.length : Int) := of_decide_eq_true aS
         obtain ⟨ad466, e466, hx466_0, hx466_1⟩ := at_T36 (Kd.R_reads' HO_5.out).2.2 x10_1 p466 q466
         cases e466
         replace p466 := eq_true p466
         replace q466 := eq_true q466
         obtain ⟨Ao64, co64, eo64⟩ := Kd.R_slice HO_6.out
         subst eo64
         have p467 : 0 ≤ (x11_1 : Int) := of_decide_eq_true aS
         have q467 : x11_1 < (t447.length : Int) := of_decide_eq_true aS
         obtain ⟨ad467, e467, hx467_0, hx467_1⟩ := at_T36 (Kd.R_reads' HO_6.out).2.2 x11_1 p467 q467
         cases e467
         replace p467 := eq_true p467
         replace q467 := eq_true q467
         go_wp2
         repeat (go_quiet (fail); try go_wp2)
         go_roundg kj45
         case measure => have := HK1.out; have := HJ27.out; have := HJ33.out; have := HJ45.out; omega
         case rel => exact ⟨(x9_1 ++ (⟨#[114]⟩ : ByteArray)), (wrap64 (x10_1 + 1)), (wrap64 (x11_1 + 1)), (x1001_45), eX, eX, eX, H', ⟨by have := HK1.out; have := HJ27.out; have := HJ33.out; have := HJ45.out; omega⟩, ⟨by (with_reducible repeat (first | apply Kd.R_alloc | apply Kd.R_drewN | apply Kd.R_drew)); exact HO_5.out⟩, ⟨by (with_reducible repeat (first | apply Kd.R_alloc | apply Kd.R_drewN | apply Kd.R_drew)); exact HO_6.out⟩, ⟨by repeat (first | (with_reducible first | exact HI0.out | apply IsS79.alloc | apply IsS79.drewN | apply IsS79.drew | apply IsS79.set_1) | exact HI0.out)⟩, ⟨by repeat (first | (with_reducible first | exact HK.out | apply KeepBut.set_ | apply keep_drewN | apply keep_drew | apply keep_alloc) | exact HK.out)⟩, ⟨by repeat (first | (with_reducible first | exact HB.out | apply below_alloc | apply pw_below_drewN | apply below_drew1 | refine below_set ?_ (IsS79.ge HI0.out)) | exact HB.out)⟩⟩
end Go.Proofs.Ythpeiboobnnfgaa.E
end
section
namespace Go.Proofs.Ythpeiboobnnfgaa.E
open Go.RowKit Go.Proofs.YthpeiboobnnfgaaW.PrintWords Go.Proofs.YthpeiboobnnfgaaW.PrintLast Go.Proofs.YthpeiboobnnfgaaW.PrintMore
attribute [local go_sem] max2_int min2_int max_two min_two max_three min_three max_four min_four
set_option linter.unusedVariables false
set_option linter.unusedSimpArgs false
attribute [local go_sem] en63_mk1 en63_mk2 en63_mk3 en63_mk4
attribute [local go_sem] str_leq_ str_gtr_ str_geq_
def spec_DrawEditSum.f (k : Nat) (l0 : List Int) : Option ((List (S36)) × (List (S36)) × ByteArray) := (spec_l6Open.f l0).bind fun bt468 => ((spec_l92Aligned.f k bt468.1 bt468.2).bind fun bt471 => (some (bt471.1, bt471.2.1, bt471.2.2.1)))
set_option maxHeartbeats 8000000 in
set_option maxRecDepth 100000 in
theorem spec_DrawEditSum.calls (k : Nat) (A0 : Option Addr) (c0 : Nat) (l0 : List Int) (r1 : List (S36)) (r2 : List (S36)) (r3 : ByteArray) (w : World) (hr0 : Kd.C (Kd.int .u8) w A0 l0.length l0) (hc0 : l0.length ≤ c0) (h : spec_DrawEditSum.f k l0 = some (r1, r2, r3)) :
  Calls Try.prog 31 #[.slice A0 l0.length c0] w fun e w' => ∃ v0_ v1_ : Value, e = .returned (.tuple #[v0_, v1_, .string r3]) ∧ Kd.R k36 36 w' w.heap.size (fun k_ => nb k_ (v1_)) v0_ r1 ∧ Kd.R k36 36 w' w.heap.size (fun k_ => nb k_ (v0_)) v1_ r2 ∧ Below w.heap.size w w' := by
 have HR0 := Aside0.mk hr0
 have HC0 := Aside0.mk hc0
 clear hr0 hc0
 have HB := Q0_ (Below.refl w.heap.size w)
 have H : ((spec_l6Open.f l0).bind fun bt468 => ((spec_l92Aligned.f k bt468.1 bt468.2).bind fun bt471 => (some (bt471.1, bt471.2.1, bt471.2.2.1)))) = some (r1, r2, r3) := h
 clear h
 obtain ⟨⟨t468, t469⟩, A20, H⟩ := Option.bind_eq_some_iff.mp H
 try dsimp only at H
 have A2 := Aside0.mk A20
 clear A20
 obtain ⟨⟨t471, t474, t477, t478⟩, A30, H⟩ := Option.bind_eq_some_iff.mp H
 try dsimp only at H
 have A3 := Aside0.mk A30
 clear A30
 simp only [Option.some.injEq, Prod.mk.injEq] at H
 obtain ⟨rfl, rfl, rfl⟩ := H
 go_enter Try.func31, Try.ntmps31
 go_wp2_with (first | ((with_reducible refine gate_callee (f := 43) rfl ?_); refine goesL_ (some 6) rfl rfl Try.func43 (by kernel_rfl) rfl #[.slice A0 l0.length c0] rfl hM ?_; (with_reducible refine (spec_l6Open.calls _ _ l0 t468 t469 w _ ?side1 ?side2 ?side3 A2.out).mono ?_); (case side1 => repeat (first | (with_reducible first | exact HB.out | apply below_alloc | apply pw_below_drewN | apply below_drew1) | exact HB.out)); (case side2 => exact HR0.out); (case side3 => exact HC0.out); rintro e w4 ⟨g470, rfl, hi, hb, hb2⟩; refine ⟨_, rfl, ?_⟩; have n0_ := Q0_ (hb); have n1_ := Q0_ (hi); clear HB; revert n0_ n1_; intro HB HI470; (try clear hb); (try clear hb2); (try clear hk); (try clear hi)) | ((with_reducible refine gate_callee (f := 46) rfl ?_); refine goesL_ (some 7) rfl rfl Try.func46 (by kernel_rfl) rfl #[.pointer (some ⟨g470, 0, none⟩)] rfl hM ?_; (with_reducible refine (spec_l92Aligned.calls k g470 t468 t469 t471 t474 t477 t478 w _ ?side1 ?side2 A3.out).mono ?_); (case side1 => repeat (first | (with_reducible first | exact HI470.out | apply IsS79.alloc | apply IsS79.drewN | apply IsS79.drew | apply IsS79.set_1) | exact HI470.out)); (case side2 => repeat (first | (with_reducible first | exact HB.out | apply below_alloc | apply pw_below_drewN | apply below_drew1 | refine below_set ?_ (IsS79.ge HI470.out)) | exact HB.out)); rintro e w5 ⟨v472, v475, rfl, ho0, ho1, hi, hb, hk⟩; refine ⟨_, rfl, ?_⟩; have n0_ := Q0_ (Kd.R_lower ho0 (below_size (by repeat (first | (with_reducible first | exact HB.out | apply below_alloc | apply pw_below_drewN | apply below_drew1 | refine below_set ?_ (IsS79.ge HI470.out)) | exact HB.out)))); have n1_ := Q0_ (Kd.R_lower ho1 (below_size (by repeat (first | (with_reducible first | exact HB.out | apply below_alloc | apply pw_below_drewN | apply below_drew1 | refine below_set ?_ (IsS79.ge HI470.out)) | exact HB.out)))); have n2_ := Q0_ (hb); have n3_ := Q0_ (hi); clear HB HI470; revert n0_ n1_ n2_ n3_; intro HO473 HO476 HB HI470; (try clear hb); (try clear hb2); (try clear hk); (try clear hi); (try clear ho0); (try clear ho1)))
 go_ret3
 exact ⟨_, _, by first | rfl | (simp [errW_none, errW_some] <;> rfl) | (simp [*, errW_none, errW_some] <;> rfl), by (with_reducible repeat (first | apply Kd.R_alloc | apply Kd.R_drewN | apply Kd.R_drew)); exact HO473.out, by (with_reducible repeat (first | apply Kd.R_alloc | apply Kd.R_drewN | apply Kd.R_drew)); exact HO476.out, by repeat (first | (with_reducible first | exact HB.out | apply below_alloc | apply pw_below_drewN | apply below_drew1 | refine below_set ?_ (IsS79.ge HI470.out)) | exact HB.out)⟩
end Go.Proofs.Ythpeiboobnnfgaa.E
end
section
namespace Go.Proofs.Ythpeiboobnnfgaa.E
open Go.RowKit Go.Proofs.YthpeiboobnnfgaaW.PrintWords Go.Proofs.YthpeiboobnnfgaaW.PrintLast Go.Proofs.YthpeiboobnnfgaaW.PrintMore
attribute [local go_sem] max2_int min2_int max_two min_two max_three min_three max_four min_four
set_option linter.unusedVariables false
set_option linter.unusedSimpArgs false
attribute [local go_sem] en63_mk1 en63_mk2 en63_mk3 en63_mk4
attribute [local go_sem] str_leq_ str_gtr_ str_geq_
mutual
def laws_FnEditSum.j0 : Nat → List (S36) → List (S36) → ByteArray → Int → Int → Bool → Option (Bool)
 | 0, _, _, _, _, _, _ => none
 | k + 1, x3, x4, x5, x6, x7, x37 => if x37 = true then (some (x6 == x7)) else (laws_FnEditSum.l0 k x3 x4 x5 x6 (⟨#[]⟩ : ByteArray) 0 0)
def laws_FnEditSum.l0 : Nat → List (S36) → List (S36) → ByteArray → Int → ByteArray → Int → Int → Option (Bool)
 | 0, _, _, _, _, _, _, _ => none
 | k + 1, x3, x4, x5, x6, x8, x9, x10 => if x10 < (x5.size : Int) then (if 0 ≤ x10 then (if (bt x5 x10) = 105 then (if x8.size + 1 ≤ 9223372036854775807 then (if (bt x5 x10) = 107 then (laws_FnEditSum.l0 k x3 x4 x5 x6 (x8 ++ (⟨#[111]⟩ : ByteArray)) (wrap64 (x9 + 1)) (wrap64 (x10 + 1))) else (laws_FnEditSum.l0 k x3 x4 x5 x6 (x8 ++ (⟨#[111]⟩ : ByteArray)) x9 (wrap64 (x10 + 1)))) else (none)) else (if (bt x5 x10) = 111 then (if x8.size + 1 ≤ 9223372036854775807 then (if (bt x5 x10) = 107 then (laws_FnEditSum.l0 k x3 x4 x5 x6 (x8 ++ (⟨#[105]⟩ : ByteArray)) (wrap64 (x9 + 1)) (wrap64 (x10 + 1))) else (laws_FnEditSum.l0 k x3 x4 x5 x6 (x8 ++ (⟨#[105]⟩ : ByteArray)) x9 (wrap64 (x10 + 1)))) else (none)) else (if x10 ≤ (wrap64 (x10 + 1)) then (if (wrap64 (x10 + 1)) ≤ (x5.size : Int) then (if x8.size + (x5.extract (x10 : Int).toNat ((wrap64 (x10 + 1)) : Int).toNat).size ≤ 9223372036854775807 then (if (bt x5 x10) = 107 then (laws_FnEditSum.l0 k x3 x4 x5 x6 (x8 ++ (x5.extract (x10 : Int).toNat ((wrap64 (x10 + 1)) : Int).toNat)) (wrap64 (x9 + 1)) (wrap64 (x10 + 1))) else (laws_FnEditSum.l0 k x3 x4 x5 x6 (x8 ++ (x5.extract (x10 : Int).toNat ((wrap64 (x10 + 1)) : Int).toNat)) x9 (wrap64 (x10 + 1)))) else (none)) else (none)) else (none)))) else (none)) else ((impl_EditCost.f k x3 x4).bind fun t488 => ((impl_EditText.f k x3 x4).bind fun bt489 => (if bt489.2 = true then (if x6 ≥ t488 then ((impl_EditSum.f k x4 x3 x8).bind fun t491 => (if t491 = x6 then ((impl_EditCommon.f k x3 x4).bind fun t492 => (if x9 ≤ t492 then (if x6 > t488 then (some true) else (some (Op.bytesLess bt489.1.toList x5.toList || bt489.1.toList == x5.toList))) else (none))) else (none))) else (none)) else (none))))
end
def laws_FnEditSum.f (k : Nat) (l0 : List Int) : Option (Bool) := if (l0.length : Int) > 1048576 then (some true) else ((spec_DrawEditSum.f k l0).bind fun bt479 => ((impl_EditSum.f k bt479.1 bt479.2.1 bt479.2.2).bind fun t486 => ((spec_EditSum.f k bt479.1 bt479.2.1 bt479.2.2).bind fun t487 => (if t486 = t487 then (laws_FnEditSum.j0 k bt479.1 bt479.2.1 bt479.2.2 t486 t487 (decide (t486 < 0))) else (laws_FnEditSum.j0 k bt479.1 bt479.2.1 bt479.2.2 t486 t487 true)))))
set_option maxHeartbeats 8000000 in
set_option maxRecDepth 100000 in
theorem laws_FnEditSum.calls (k : Nat) (A0 : Option Addr) (c0 : Nat) (l0 : List Int) (r : Bool) (w : World) (hr0 : Kd.C (Kd.int .u8) w A0 l0.length l0) (hc0 : l0.length ≤ c0) (h : laws_FnEditSum.f k l0 = some r) :
  Calls Try.prog 12 #[.slice A0 l0.length c0] w fun e w' => e = .returned (.bool r) ∧ Below w.heap.size w w' := by
 have HR0 := Aside0.mk hr0
 have HC0 := Aside0.mk hc0
 clear hr0 hc0
 have HB := Q0_ (Below.refl w.heap.size w)
 have H : (if (l0.length : Int) > 1048576 then (some true) else ((spec_DrawEditSum.f k l0).bind fun bt479 => ((impl_EditSum.f k bt479.1 bt479.2.1 bt479.2.2).bind fun t486 => ((spec_EditSum.f k bt479.1 bt479.2.1 bt479.2.2).bind fun t487 => (if t486 = t487 then (laws_FnEditSum.j0 k bt479.1 bt479.2.1 bt479.2.2 t486 t487 (decide (t486 < 0))) else (laws_FnEditSum.j0 k bt479.1 bt479.2.1 bt479.2.2 t486 t487 true)))))) = some r := h
 clear h
 by_cases c2 : (l0.length : Int) > 1048576
 ·rw [if_pos c2] at H
  have c2b0 : decide (1048576 < (l0.length : Int)) = true := decide_eq_true c2
  have c2b1 : decide (1048576 < l0.length) = true := decide_eq_true (by omega)
  clear c2
  obtain rfl := Option.some.inj H
  go_enter Try.func12, Try.ntmps12
  go_wp2
  go_ret
  exact ⟨by first | rfl | (simp [errW_none, errW_some] <;> rfl) | (simp [*, errW_none, errW_some] <;> rfl), by repeat (first | (with_reducible first | exact HB.out | apply below_alloc | apply pw_below_drewN | apply below_drew1) | exact HB.out)⟩
 rw [if_neg c2] at H
 have c2b0 : decide (1048576 < (l0.length : Int)) = false := decide_eq_false c2
 have c2b1 : decide (1048576 < l0.length) = false := decide_eq_false (by omega)
 clear c2
 obtain ⟨⟨t479, t480, t481⟩, A30, H⟩ := Option.bind_eq_some_iff.mp H
 try dsimp only at H
 have A3 := Aside0.mk A30
 clear A30
 obtain ⟨t486, A40, H⟩ := Option.bind_eq_some_iff.mp H
 try dsimp only at H
 have A4 := Aside0.mk A40
 clear A40
 obtain ⟨t487, A50, H⟩ := Option.bind_eq_some_iff.mp H
 try dsimp only at H
 have A5 := Aside0.mk A50
 clear A50
 have HC6 := Aside0.mk H
 clear H
 go_enter Try.func12, Try.ntmps12
 go_upto_region 6 with (first | ((with_reducible refine gate_callee (f := 31) rfl ?_); refine goesL_ (some 19) rfl rfl Try.func31 (by kernel_rfl) rfl #[.slice A0 l0.length c0] rfl hM ?_; (with_reducible refine (spec_DrawEditSum.calls k _ _ l0 t479 t480 t481 _ ?side1 ?side2 A3.out).mono ?_); (case side1 => repeat (first | exact HR0.out | (with_reducible refine Kd.C_alloc ?_ _) | (with_reducible refine Kd.C_drewN ?_ _) | (with_reducible refine Kd.C_drew ?_))); (case side2 => exact HC0.out); rintro e w7 ⟨v482, v484, rfl, ho0, ho1, hb⟩; refine ⟨_, rfl, ?_⟩; have n0_ := Q0_ (Kd.R_lower ho0 (below_size (upB HB))); have n1_ := Q0_ (Kd.R_lower ho1 (below_size (upB HB))); have n2_ := Q0_ (below_step (upB HB) hb); clear HB; revert n0_ n1_ n2_; intro HO483 HO485 HB; (try clear hb); (try clear hb2); (try clear hk); (try clear hi); (try clear ho0); (try clear ho1); obtain ⟨Ao8, co8, eo8⟩ := Kd.R_slice HO483.out; subst eo8; obtain ⟨Ao9, co9, eo9⟩ := Kd.R_slice HO485.out; subst eo9) | ((with_reducible refine gate_callee (f := 21) rfl ?_); refine goesL_ (some 26) rfl rfl Try.func21 (by kernel_rfl) rfl #[.slice Ao8 t479.length co8, .slice Ao9 t480.length co9, .string t481] rfl hM ?_; (with_reducible refine (impl_EditSum.calls k _ _ t479 _ _ t480 t481 t486 _ ?side1 ?side2 ?side3 ?side4 A4.out).mono ?_); (case side1 => repeat (first | exact (Kd.R_reads' HO483.out).2.2 | (with_reducible refine Kd.C_alloc ?_ _) | (with_reducible refine Kd.C_drewN ?_ _) | (with_reducible refine Kd.C_drew ?_))); (case side2 => exact (Kd.R_reads' HO483.out).2.1); (case side3 => repeat (first | exact (Kd.R_reads' HO485.out).2.2 | (with_reducible refine Kd.C_alloc ?_ _) | (with_reducible refine Kd.C_drewN ?_ _) | (with_reducible refine Kd.C_drew ?_))); (case side4 => exact (Kd.R_reads' HO485.out).2.1); rintro e w10 ⟨rfl, hb⟩; refine ⟨_, rfl, ?_⟩; have n0_ := Q0_ (Kd.R_below (upR HO483) hb); have n1_ := Q0_ (Kd.R_below (upR HO485) hb); have n2_ := Q0_ (below_step (upB HB) hb); clear HO483 HO485 HB; revert n0_ n1_ n2_; intro HO483 HO485 HB; (try clear hb); (try clear hb2); (try clear hk); (try clear hi)) | ((with_reducible refine gate_callee (f := 20) rfl ?_); refine goesL_ (some 30) rfl rfl Try.func20 (by kernel_rfl) rfl #[.slice Ao8 t479.length co8, .slice Ao9 t480.length co9, .string t481] rfl hM ?_; (with_reducible refine (spec_EditSum.calls k _ _ t479 _ _ t480 t481 t487 _ ?side1 ?side2 ?side3 ?side4 A5.out).mono ?_); (case side1 => repeat (first | exact (Kd.R_reads' HO483.out).2.2 | (with_reducible refine Kd.C_alloc ?_ _) | (with_reducible refine Kd.C_drewN ?_ _) | (with_reducible refine Kd.C_drew ?_))); (case side2 => exact (Kd.R_reads' HO483.out).2.1); (case side3 => repeat (first | exact (Kd.R_reads' HO485.out).2.2 | (with_reducible refine Kd.C_alloc ?_ _) | (with_reducible refine Kd.C_drewN ?_ _) | (with_reducible refine Kd.C_drew ?_))); (case side4 => exact (Kd.R_reads' HO485.out).2.1); rintro e w11 ⟨rfl, hb⟩; refine ⟨_, rfl, ?_⟩; have n0_ := Q0_ (Kd.R_below (upR HO483) hb); have n1_ := Q0_ (Kd.R_below (upR HO485) hb); have n2_ := Q0_ (below_step (upB HB) hb); clear HO483 HO485 HB; revert n0_ n1_ n2_; intro HO483 HO485 HB; (try clear hb); (try clear hb2); (try clear hk); (try clear hi)))
 (try simp only [Act.put, sI, s0, sS])
 go_cut [37] (fun v37 wc => ∃ (kq : Nat) (x37_5 : Bool), v37 = .bool x37_5 ∧ Aside0 (laws_FnEditSum.j0 kq t479 t480 t481 t486 t487 x37_5 = some r) ∧ Aside0 (kq ≤ k) ∧ Aside0 (Kd.R k36 36 wc w.heap.size (fun k_ => nb k_ ((.slice Ao9 t480.length co9))) (.slice Ao8 t479.length co8) t479) ∧ Aside0 (Kd.R k36 36 wc w.heap.size (fun k_ => nb k_ ((.slice Ao8 t479.length co8))) (.slice Ao9 t480.length co9) t480) ∧ Aside0 (Below w.heap.size w wc))
 case first =>
  have H := HC6.out
  clear HC6
  by_cases c12 : t486 = t487
  rotate_left
  ·rw [if_neg c12] at H
   have c12b0 : (t486 == t487) = false := beq_eq_false_iff_ne.mpr c12
   have c12b1 : (t486 != t487) = true := bne_iff_ne.mpr c12
   (first | rw [c12b0] | (simp only [i64_w, i32_w]; rw [c12b0]) | skip)
   have H' := Aside0.mk H
   clear H
   go_wp2
   go_meet
   case rel => exact ⟨_, (true), eX, H', ⟨by first | omega | exact Nat.le_refl _⟩, ⟨by (with_reducible repeat (first | apply Kd.R_alloc | apply Kd.R_drewN | apply Kd.R_drew)); exact HO483.out⟩, ⟨by (with_reducible repeat (first | apply Kd.R_alloc | apply Kd.R_drewN | apply Kd.R_drew)); exact HO485.out⟩, ⟨by repeat (first | (with_reducible first | exact HB.out | apply below_alloc | apply pw_below_drewN | apply below_drew1) | exact HB.out)⟩⟩
  rw [if_pos c12] at H
  have c12b0 : (t486 == t487) = true := beq_iff_eq.mpr c12
  have c12b1 : (t486 != t487) = false := bne_eq_false_iff_eq.mpr c12
  clear c12
  (first | rw [c12b0] | (simp only [i64_w, i32_w]; rw [c12b0]) | skip)
  have H' := Aside0.mk H
  clear H
  go_wp2
  go_meet
  case rel => exact ⟨_, (decide (t486 < 0)), eX, H', ⟨by first | omega | exact Nat.le_refl _⟩, ⟨by (with_reducible repeat (first | apply Kd.R_alloc | apply Kd.R_drewN | apply Kd.R_drew)); exact HO483.out⟩, ⟨by (with_reducible repeat (first | apply Kd.R_alloc | apply Kd.R_drewN | apply Kd.R_drew)); exact HO485.out⟩, ⟨by repeat (first | (with_reducible first | exact HB.out | apply below_alloc | apply pw_below_drewN | apply below_drew1) | exact HB.out)⟩⟩
 case rest =>
  clear HC6
  try clear c1
  try clear c2
  try clear c2b0
  try clear c2b1
  try clear p2
  try clear c3
  try clear c12
  try clear c12b0
  try clear c12b1
  obtain ⟨kq, x37_5, rfl, HA, HJ5, HO_3, HO_4, HB⟩ := hcut
  cases kq with
  | zero => exact absurd HA.out (by simp [laws_FnEditSum.j0])
  | succ kj5 =>
   have H := HA.out
   clear HA
   simp only [laws_FnEditSum.j0] at H
   by_cases c13 : x37_5 = true
   ·subst c13
    replace H := ifP (rfl) H
    obtain rfl := Option.some.inj H
    go_wp2
    go_ret
    exact ⟨by first | rfl | (simp [errW_none, errW_some] <;> rfl) | (simp [*, errW_none, errW_some] <;> rfl), by repeat (first | (with_reducible first | exact HB.out | apply below_alloc | apply pw_below_drewN | apply below_drew1) | exact HB.out)⟩
   replace c13 := Bool.eq_false_iff.mpr c13
   subst c13
   replace H := ifN ((show ¬ (false = true) by decide)) H
   have H' := Aside0.mk H
   clear H
   go_wp2
   go_loopg [8, 9, 10] kj5 (fun kq v8 v9 v10 w' => ∃ (x8_2 : ByteArray) (x9_2 : Int) (x10_2 : Int), v8 = .string x8_2 ∧ v9 = .int .i64 x9_2 ∧ v10 = .int .i64 x10_2 ∧ Aside0 (laws_FnEditSum.l0 kq t479 t480 t481 t486 x8_2 x9_2 x10_2 = some r) ∧ Aside0 (kq ≤ kj5) ∧ Aside0 (Kd.R k36 36 w' w.heap.size (fun k_ => nb k_ ((.slice Ao9 t480.length co9))) (.slice Ao8 t479.length co8) t479) ∧ Aside0 (Kd.R k36 36 w' w.heap.size (fun k_ => nb k_ ((.slice Ao8 t479.length co8))) (.slice Ao9 t480.length co9) t480) ∧ Aside0 (Below w.heap.size w w'))
   case atStart => exact ⟨((⟨#[]⟩ : ByteArray)), (0), (0), eX, eX, eX, H', ⟨Nat.le_refl _⟩, ⟨by (with_reducible repeat (first | apply Kd.R_alloc | apply Kd.R_drewN | apply Kd.R_drew)); exact HO_3.out⟩, ⟨by (with_reducible repeat (first | apply Kd.R_alloc | apply Kd.R_drewN | apply Kd.R_drew)); exact HO_4.out⟩, ⟨by repeat (first | (with_reducible first | exact HB.out | apply below_alloc | apply pw_below_drewN | apply below_drew1) | exact HB.out)⟩⟩
   case round =>
    clear H'
    try clear c1
    try clear c2
    try clear c2b0
    try clear c2b1
    try clear p2
    try clear c3
    try clear c12
    try clear c12b0
    try clear c12b1
    try clear c13
    try clear p2
    obtain ⟨x8_2, x9_2, x10_2, rfl, rfl, rfl, HA, HK2, HO_3, HO_4, HB⟩ := hrel
    cases gk with
    | zero => exact absurd HA.out (by simp [laws_FnEditSum.l0])
    | succ k2 =>
     have H := HA.out
     clear HA
     simp only [laws_FnEditSum.l0] at H
     by_cases c14 : x10_2 < (t481.size : Int)
     rotate_left
     ·rw [if_neg c14] at H
      have c14b0 : decide (x10_2 < (t481.size : Int)) = false := decide_eq_false c14
      clear c14
      obtain ⟨t488, A310, H⟩ := Option.bind_eq_some_iff.mp H
      try dsimp only at H
      have A31 := Aside0.mk A310
      clear A310
      obtain ⟨⟨t489, t490⟩, A320, H⟩ := Option.bind_eq_some_iff.mp H
      try dsimp only at H
      have A32 := Aside0.mk A320
      clear A320
      by_cases c33 : t490 = true
      rotate_left
      ·replace c33 := Bool.eq_false_iff.mpr c33
       subst c33
       replace H := ifN ((show ¬ (false = true) by decide)) H
       exact absurd H (by simp)
      subst c33
      replace H := ifP (rfl) H
      by_cases c34 : t486 ≥ t488
      rotate_left
      ·rw [if_neg c34] at H
       exact absurd H (by simp)
      rw [if_pos c34] at H
      have c34b0 : decide (t488 ≤ t486) = true := decide_eq_true c34
      clear c34
      obtain ⟨t491, A350, H⟩ := Option.bind_eq_some_iff.mp H
      try dsimp only at H
      have A35 := Aside0.mk A350
      clear A350
      by_cases c36 : t491 = t486
      rotate_left
      ·rw [if_neg c36] at H
       exact absurd H (by simp)
      rw [if_pos c36] at H
      have c36b0 : (t491 == t486) = true := beq_iff_eq.mpr c36
      have c36b1 : (t491 != t486) = false := bne_eq_false_iff_eq.mpr c36
      clear c36
      obtain ⟨t492, A370, H⟩ := Option.bind_eq_some_iff.mp H
      try dsimp only at H
      have A37 := Aside0.mk A370
      clear A370
      by_cases c38 : x9_2 ≤ t492
      rotate_left
      ·rw [if_neg c38] at H
       exact absurd H (by simp)
      rw [if_pos c38] at H
      have c38b0 : decide (x9_2 ≤ t492) = true := decide_eq_true c38
      clear c38
      by_cases c39 : t486 > t488
      rotate_left
      ·rw [if_neg c39] at H
       have c39b0 : decide (t488 < t486) = false := decide_eq_false c39
       clear c39
       obtain rfl := Option.some.inj H
       go_wp2_with (first | ((with_reducible refine gate_callee (f := 19) rfl ?_); refine goesL_ (some 73) rfl rfl Try.func19 (by kernel_rfl) rfl #[.slice Ao8 t479.length co8, .slice Ao9 t480.length co9] rfl hM ?_; (with_reducible refine (impl_EditCost.calls k2 _ _ t479 _ _ t480 t488 _ ?side1 ?side2 ?side3 ?side4 A31.out).mono ?_); (case side1 => repeat (first | exact (Kd.R_reads' HO_3.out).2.2 | (with_reducible refine Kd.C_alloc ?_ _) | (with_reducible refine Kd.C_drewN ?_ _) | (with_reducible refine Kd.C_drew ?_))); (case side2 => exact (Kd.R_reads' HO_3.out).2.1); (case side3 => repeat (first | exact (Kd.R_reads' HO_4.out).2.2 | (with_reducible refine Kd.C_alloc ?_ _) | (with_reducible refine Kd.C_drewN ?_ _) | (with_reducible refine Kd.C_drew ?_))); (case side4 => exact (Kd.R_reads' HO_4.out).2.1); rintro e w44 ⟨rfl, hb⟩; refine ⟨_, rfl, ?_⟩; have n0_ := Q0_ (Kd.R_below (upR HO_3) hb); have n1_ := Q0_ (Kd.R_below (upR HO_4) hb); have n2_ := Q0_ (below_step (upB HB) hb); clear HO_3 HO_4 HB; revert n0_ n1_ n2_; intro HO_3 HO_4 HB; (try clear hb); (try clear hb2); (try clear hk); (try clear hi)) | ((with_reducible refine gate_callee (f := 29) rfl ?_); refine goesL_ (some 77) rfl rfl Try.func29 (by kernel_rfl) rfl #[.slice Ao8 t479.length co8, .slice Ao9 t480.length co9] rfl hM ?_; (with_reducible refine (impl_EditText.calls k2 _ _ t479 _ _ t480 t489 true _ ?side1 ?side2 ?side3 ?side4 A32.out).mono ?_); (case side1 => repeat (first | exact (Kd.R_reads' HO_3.out).2.2 | (with_reducible refine Kd.C_alloc ?_ _) | (with_reducible refine Kd.C_drewN ?_ _) | (with_reducible refine Kd.C_drew ?_))); (case side2 => exact (Kd.R_reads' HO_3.out).2.1); (case side3 => repeat (first | exact (Kd.R_reads' HO_4.out).2.2 | (with_reducible refine Kd.C_alloc ?_ _) | (with_reducible refine Kd.C_drewN ?_ _) | (with_reducible refine Kd.C_drew ?_))); (case side4 => exact (Kd.R_reads' HO_4.out).2.1); rintro e w45 ⟨rfl, hb⟩; refine ⟨_, rfl, ?_⟩; have n0_ := Q0_ (Kd.R_below (upR HO_3) hb); have n1_ := Q0_ (Kd.R_below (upR HO_4) hb); have n2_ := Q0_ (below_step (upB HB) hb); clear HO_3 HO_4 HB; revert n0_ n1_ n2_; intro HO_3 HO_4 HB; (try clear hb); (try clear hb2); (try clear hk); (try clear hi)) | (go_at_call 21; (with_reducible refine (impl_EditSum.calls k2 _ _ t480 _ _ t479 x8_2 t491 _ ?side1 ?side2 ?side3 ?side4 A35.out).mono ?_); (case side1 => repeat (first | exact (Kd.R_reads' HO_4.out).2.2 | (with_reducible refine Kd.C_alloc ?_ _) | (with_reducible refine Kd.C_drewN ?_ _) | (with_reducible refine Kd.C_drew ?_))); (case side2 => exact (Kd.R_reads' HO_4.out).2.1); (case side3 => repeat (first | exact (Kd.R_reads' HO_3.out).2.2 | (with_reducible refine Kd.C_alloc ?_ _) | (with_reducible refine Kd.C_drewN ?_ _) | (with_reducible refine Kd.C_drew ?_))); (case side4 => exact (Kd.R_reads' HO_3.out).2.1); rintro e w46 ⟨rfl, hb⟩; have n0_ := Q0_ (Kd.R_below (upR HO_3) hb); have n1_ := Q0_ (Kd.R_below (upR HO_4) hb); have n2_ := Q0_ (below_step (upB HB) hb); clear HO_3 HO_4 HB; revert n0_ n1_ n2_; intro HO_3 HO_4 HB; (try clear hb); (try clear hb2); (try clear hk); (try clear hi)) | (go_at_call 16; (with_reducible refine (impl_EditCommon.calls k2 _ _ t479 _ _ t480 t492 _ ?side1 ?side2 ?side3 ?side4 A37.out).mono ?_); (case side1 => repeat (first | exact (Kd.R_reads' HO_3.out).2.2 | (with_reducible refine Kd.C_alloc ?_ _) | (with_reducible refine Kd.C_drewN ?_ _) | (with_reducible refine Kd.C_drew ?_))); (case side2 => exact (Kd.R_reads' HO_3.out).2.1); (case side3 => repeat (first | exact (Kd.R_reads' HO_4.out).2.2 | (with_reducible refine Kd.C_alloc ?_ _) | (with_reducible refine Kd.C_drewN ?_ _) | (with_reducible refine Kd.C_drew ?_))); (case side4 => exact (Kd.R_reads' HO_4.out).2.1); rintro e w47 ⟨rfl, hb⟩; have n0_ := Q0_ (Kd.R_below (upR HO_3) hb); have n1_ := Q0_ (Kd.R_below (upR HO_4) hb); have n2_ := Q0_ (below_step (upB HB) hb); clear HO_3 HO_4 HB; revert n0_ n1_ n2_; intro HO_3 HO_4 HB; (try clear hb); (try clear hb2); (try clear hk); (try clear hi)))
       go_ret
       exact ⟨by first | rfl | (simp [errW_none, errW_some] <;> rfl) | (simp [*, errW_none, errW_some] <;> rfl), by repeat (first | (with_reducible first | exact HB.out | apply below_alloc | apply pw_below_drewN | apply below_drew1) | exact HB.out)⟩
      rw [if_pos c39] at H
      have c39b0 : decide (t488 < t486) = true := decide_eq_true c39
      clear c39
      obtain rfl := Option.some.inj H
      go_wp2_with (first | ((with_reducible refine gate_callee (f := 19) rfl ?_); refine goesL_ (some 73) rfl rfl Try.func19 (by kernel_rfl) rfl #[.slice Ao8 t479.length co8, .slice Ao9 t480.length co9] rfl hM ?_; (with_reducible refine (impl_EditCost.calls k2 _ _ t479 _ _ t480 t488 _ ?side1 ?side2 ?side3 ?side4 A31.out).mono ?_); (case side1 => repeat (first | exact (Kd.R_reads' HO_3.out).2.2 | (with_reducible refine Kd.C_alloc ?_ _) | (with_reducible refine Kd.C_drewN ?_ _) | (with_reducible refine Kd.C_drew ?_))); (case side2 => exact (Kd.R_reads' HO_3.out).2.1); (case side3 => repeat (first | exact (Kd.R_reads' HO_4.out).2.2 | (with_reducible refine Kd.C_alloc ?_ _) | (with_reducible refine Kd.C_drewN ?_ _) | (with_reducible refine Kd.C_drew ?_))); (case side4 => exact (Kd.R_reads' HO_4.out).2.1); rintro e w40 ⟨rfl, hb⟩; refine ⟨_, rfl, ?_⟩; have n0_ := Q0_ (Kd.R_below (upR HO_3) hb); have n1_ := Q0_ (Kd.R_below (upR HO_4) hb); have n2_ := Q0_ (below_step (upB HB) hb); clear HO_3 HO_4 HB; revert n0_ n1_ n2_; intro HO_3 HO_4 HB; (try clear hb); (try clear hb2); (try clear hk); (try clear hi)) | ((with_reducible refine gate_callee (f := 29) rfl ?_); refine goesL_ (some 77) rfl rfl Try.func29 (by kernel_rfl) rfl #[.slice Ao8 t479.length co8, .slice Ao9 t480.length co9] rfl hM ?_; (with_reducible refine (impl_EditText.calls k2 _ _ t479 _ _ t480 t489 true _ ?side1 ?side2 ?side3 ?side4 A32.out).mono ?_); (case side1 => repeat (first | exact (Kd.R_reads' HO_3.out).2.2 | (with_reducible refine Kd.C_alloc ?_ _) | (with_reducible refine Kd.C_drewN ?_ _) | (with_reducible refine Kd.C_drew ?_))); (case side2 => exact (Kd.R_reads' HO_3.out).2.1); (case side3 => repeat (first | exact (Kd.R_reads' HO_4.out).2.2 | (with_reducible refine Kd.C_alloc ?_ _) | (with_reducible refine Kd.C_drewN ?_ _) | (with_reducible refine Kd.C_drew ?_))); (case side4 => exact (Kd.R_reads' HO_4.out).2.1); rintro e w41 ⟨rfl, hb⟩; refine ⟨_, rfl, ?_⟩; have n0_ := Q0_ (Kd.R_below (upR HO_3) hb); have n1_ := Q0_ (Kd.R_below (upR HO_4) hb); have n2_ := Q0_ (below_step (upB HB) hb); clear HO_3 HO_4 HB; revert n0_ n1_ n2_; intro HO_3 HO_4 HB; (try clear hb); (try clear hb2); (try clear hk); (try clear hi)) | (go_at_call 21; (with_reducible refine (impl_EditSum.calls k2 _ _ t480 _ _ t479 x8_2 t491 _ ?side1 ?side2 ?side3 ?side4 A35.out).mono ?_); (case side1 => repeat (first | exact (Kd.R_reads' HO_4.out).2.2 | (with_reducible refine Kd.C_alloc ?_ _) | (with_reducible refine Kd.C_drewN ?_ _) | (with_reducible refine Kd.C_drew ?_))); (case side2 => exact (Kd.R_reads' HO_4.out).2.1); (case side3 => repeat (first | exact (Kd.R_reads' HO_3.out).2.2 | (with_reducible refine Kd.C_alloc ?_ _) | (with_reducible refine Kd.C_drewN ?_ _) | (with_reducible refine Kd.C_drew ?_))); (case side4 => exact (Kd.R_reads' HO_3.out).2.1); rintro e w42 ⟨rfl, hb⟩; have n0_ := Q0_ (Kd.R_below (upR HO_3) hb); have n1_ := Q0_ (Kd.R_below (upR HO_4) hb); have n2_ := Q0_ (below_step (upB HB) hb); clear HO_3 HO_4 HB; revert n0_ n1_ n2_; intro HO_3 HO_4 HB; (try clear hb); (try clear hb2); (try clear hk); (try clear hi)) | (go_at_call 16; (with_reducible refine (impl_EditCommon.calls k2 _ _ t479 _ _ t480 t492 _ ?side1 ?side2 ?side3 ?side4 A37.out).mono ?_); (case side1 => repeat (first | exact (Kd.R_reads' HO_3.out).2.2 | (with_reducible refine Kd.C_alloc ?_ _) | (with_reducible refine Kd.C_drewN ?_ _) | (with_reducible refine Kd.C_drew ?_))); (case side2 => exact (Kd.R_reads' HO_3.out).2.1); (case side3 => repeat (first | exact (Kd.R_reads' HO_4.out).2.2 | (with_reducible refine Kd.C_alloc ?_ _) | (with_reducible refine Kd.C_drewN ?_ _) | (with_reducible refine Kd.C_drew ?_))); (case side4 => exact (Kd.R_reads' HO_4.out).2.1); rintro e w43 ⟨rfl, hb⟩; have n0_ := Q0_ (Kd.R_below (upR HO_3) hb); have n1_ := Q0_ (Kd.R_below (upR HO_4) hb); have n2_ := Q0_ (below_step (upB HB) hb); clear HO_3 HO_4 HB; revert n0_ n1_ n2_; intro HO_3 HO_4 HB; (try clear hb); (try clear hb2); (try clear hk); (try clear hi)))
      go_ret
      exact ⟨by first | rfl | (simp [errW_none, errW_some] <;> rfl) | (simp [*, errW_none, errW_some] <;> rfl), by repeat (first | (with_reducible first | exact HB.out | apply below_alloc | apply pw_below_drewN | apply below_drew1) | exact HB.out)⟩
     rw [if_pos c14] at H
     have c14b0 : decide (x10_2 < (t481.size : Int)) = true := decide_eq_true c14
     clear c14
     by_cases c15 : 0 ≤ x10_2
     rotate_left
     ·rw [if_neg c15] at H
      exact absurd H (by simp)
     rw [if_pos c15] at H
     have c15b0 : decide (0 ≤ x10_2) = true := decide_eq_true c15
     clear c15
     by_cases c17 : (bt t481 x10_2) = 105
     ·rw [if_pos c17] at H
      have c17b0 : ((bt t481 x10_2) == 105) = true := beq_iff_eq.mpr c17
      have c17b1 : ((bt t481 x10_2) != 105) = false := bne_eq_false_iff_eq.mpr c17
      clear c17
      by_cases c18 : x8_2.size + 1 ≤ 9223372036854775807
      rotate_left
      ·rw [if_neg c18] at H
       exact absurd H (by simp)
      rw [if_pos c18] at H
      have c18b0 := eq_true c18
      have c18b1 : decide (x8_2.size + 1 ≤ 9223372036854775807) = true := decide_eq_true c18
      try have c18b2 : (9223372036854775807 < x8_2.size + 1) = False := eq_false (Nat.not_lt.2 c18)
      by_cases c20 : (bt t481 x10_2) = 107
      rotate_left
      ·rw [if_neg c20] at H
       have c20b0 : ((bt t481 x10_2) == 107) = false := beq_eq_false_iff_ne.mpr c20
       have c20b1 : ((bt t481 x10_2) != 107) = true := bne_iff_ne.mpr c20
       have H' := Aside0.mk H
       clear H
       have p16 : 0 ≤ (x10_2 : Int) := of_decide_eq_true aS
       have q16 : x10_2 < (t481.size : Int) := of_decide_eq_true aS
       have hx16 := bt_at t481 x10_2
       replace p16 := eq_true p16
       replace q16 := eq_true q16
       have p19 : 0 ≤ (x10_2 : Int) := of_decide_eq_true aS
       have q19 : x10_2 < (t481.size : Int) := of_decide_eq_true aS
       have hx19 := bt_at t481 x10_2
       replace p19 := eq_true p19
       replace q19 := eq_true q19
       go_wp2
       go_roundg k2
       case measure => have := HJ5.out; have := HK2.out; omega
       case rel => exact ⟨(x8_2 ++ (⟨#[111]⟩ : ByteArray)), (x9_2), (wrap64 (x10_2 + 1)), eX, eX, eX, H', ⟨by have := HJ5.out; have := HK2.out; omega⟩, ⟨by (with_reducible repeat (first | apply Kd.R_alloc | apply Kd.R_drewN | apply Kd.R_drew)); exact HO_3.out⟩, ⟨by (with_reducible repeat (first | apply Kd.R_alloc | apply Kd.R_drewN | apply Kd.R_drew)); exact HO_4.out⟩, ⟨by repeat (first | (with_reducible first | exact HB.out | apply below_alloc | apply pw_below_drewN | apply below_drew1) | exact HB.out)⟩⟩
      rw [if_pos c20] at H
      have c20b0 : ((bt t481 x10_2) == 107) = true := beq_iff_eq.mpr c20
      have c20b1 : ((bt t481 x10_2) != 107) = false := bne_eq_false_iff_eq.mpr c20
      clear c20
      have H' := Aside0.mk H
      clear H
      have p16 : 0 ≤ (x10_2 : Int) := of_decide_eq_true aS
      have q16 : x10_2 < (t481.size : Int) := of_decide_eq_true aS
      have hx16 := bt_at t481 x10_2
      replace p16 := eq_true p16
      replace q16 := eq_true q16
      have p19 : 0 ≤ (x10_2 : Int) := of_decide_eq_true aS
      have q19 : x10_2 < (t481.size : Int) := of_decide_eq_true aS
      have hx19 := bt_at t481 x10_2
      replace p19 := eq_true p19
      replace q19 := eq_true q19
      go_wp2
      go_roundg k2
      case measure => have := HJ5.out; have := HK2.out; omega
      case rel => exact ⟨(x8_2 ++ (⟨#[111]⟩ : ByteArray)), (wrap64 (x9_2 + 1)), (wrap64 (x10_2 + 1)), eX, eX, eX, H', ⟨by have := HJ5.out; have := HK2.out; omega⟩, ⟨by (with_reducible repeat (first | apply Kd.R_alloc | apply Kd.R_drewN | apply Kd.R_drew)); exact HO_3.out⟩, ⟨by (with_reducible repeat (first | apply Kd.R_alloc | apply Kd.R_drewN | apply Kd.R_drew)); exact HO_4.out⟩, ⟨by repeat (first | (with_reducible first | exact HB.out | apply below_alloc | apply pw_below_drewN | apply below_drew1) | exact HB.out)⟩⟩
     rw [if_neg c17] at H
     have c17b0 : ((bt t481 x10_2) == 105) = false := beq_eq_false_iff_ne.mpr c17
     have c17b1 : ((bt t481 x10_2) != 105) = true := bne_iff_ne.mpr c17
     by_cases c21 : (bt t481 x10_2) = 111
     ·rw [if_pos c21] at H
      have c21b0 : ((bt t481 x10_2) == 111) = true := beq_iff_eq.mpr c21
      have c21b1 : ((bt t481 x10_2) != 111) = false := bne_eq_false_iff_eq.mpr c21
      clear c21
      by_cases c22 : x8_2.size + 1 ≤ 9223372036854775807
      rotate_left
      ·rw [if_neg c22] at H
       exact absurd H (by simp)
      rw [if_pos c22] at H
      have c22b0 := eq_true c22
      have c22b1 : decide (x8_2.size + 1 ≤ 9223372036854775807) = true := decide_eq_true c22
      try have c22b2 : (9223372036854775807 < x8_2.size + 1) = False := eq_false (Nat.not_lt.2 c22)
      by_cases c24 : (bt t481 x10_2) = 107
      rotate_left
      ·rw [if_neg c24] at H
       have c24b0 : ((bt t481 x10_2) == 107) = false := beq_eq_false_iff_ne.mpr c24
       have c24b1 : ((bt t481 x10_2) != 107) = true := bne_iff_ne.mpr c24
       have H' := Aside0.mk H
       clear H
       have p16 : 0 ≤ (x10_2 : Int) := of_decide_eq_true aS
       have q16 : x10_2 < (t481.size : Int) := of_decide_eq_true aS
       have hx16 := bt_at t481 x10_2
       replace p16 := eq_true p16
       replace q16 := eq_true q16
       have p23 : 0 ≤ (x10_2 : Int) := of_decide_eq_true aS
       have q23 : x10_2 < (t481.size : Int) := of_decide_eq_true aS
       have hx23 := bt_at t481 x10_2
       replace p23 := eq_true p23
       replace q23 := eq_true q23
       go_wp2
       go_roundg k2
       case measure => have := HJ5.out; have := HK2.out; omega
       case rel => exact ⟨(x8_2 ++ (⟨#[105]⟩ : ByteArray)), (x9_2), (wrap64 (x10_2 + 1)), eX, eX, eX, H', ⟨by have := HJ5.out; have := HK2.out; omega⟩, ⟨by (with_reducible repeat (first | apply Kd.R_alloc | apply Kd.R_drewN | apply Kd.R_drew)); exact HO_3.out⟩, ⟨by (with_reducible repeat (first | apply Kd.R_alloc | apply Kd.R_drewN | apply Kd.R_drew)); exact HO_4.out⟩, ⟨by repeat (first | (with_reducible first | exact HB.out | apply below_alloc | apply pw_below_drewN | apply below_drew1) | exact HB.out)⟩⟩
      rw [if_pos c24] at H
      have c24b0 : ((bt t481 x10_2) == 107) = true := beq_iff_eq.mpr c24
      have c24b1 : ((bt t481 x10_2) != 107) = false := bne_eq_false_iff_eq.mpr c24
      clear c24
      have H' := Aside0.mk H
      clear H
      have p16 : 0 ≤ (x10_2 : Int) := of_decide_eq_true aS
      have q16 : x10_2 < (t481.size : Int) := of_decide_eq_true aS
      have hx16 := bt_at t481 x10_2
      replace p16 := eq_true p16
      replace q16 := eq_true q16
      have p23 : 0 ≤ (x10_2 : Int) := of_decide_eq_true aS
      have q23 : x10_2 < (t481.size : Int) := of_decide_eq_true aS
      have hx23 := bt_at t481 x10_2
      replace p23 := eq_true p23
      replace q23 := eq_true q23
      go_wp2
      go_roundg k2
      case measure => have := HJ5.out; have := HK2.out; omega
      case rel => exact ⟨(x8_2 ++ (⟨#[105]⟩ : ByteArray)), (wrap64 (x9_2 + 1)), (wrap64 (x10_2 + 1)), eX, eX, eX, H', ⟨by have := HJ5.out; have := HK2.out; omega⟩, ⟨by (with_reducible repeat (first | apply Kd.R_alloc | apply Kd.R_drewN | apply Kd.R_drew)); exact HO_3.out⟩, ⟨by (with_reducible repeat (first | apply Kd.R_alloc | apply Kd.R_drewN | apply Kd.R_drew)); exact HO_4.out⟩, ⟨by repeat (first | (with_reducible first | exact HB.out | apply below_alloc | apply pw_below_drewN | apply below_drew1) | exact HB.out)⟩⟩
     rw [if_neg c21] at H
     have c21b0 : ((bt t481 x10_2) == 111) = false := beq_eq_false_iff_ne.mpr c21
     have c21b1 : ((bt t481 x10_2) != 111) = true := bne_iff_ne.mpr c21
     have c25b0 := eq_true (of_decide_eq_true aS : 0 ≤ x10_2)
     by_cases c26 : x10_2 ≤ (wrap64 (x10_2 + 1))
     rotate_left
     ·rw [if_neg c26] at H
      exact absurd H (by simp)
     rw [if_pos c26] at H
     have c26b0 := eq_true c26
     have c26b1 : decide (x10_2 ≤ (wrap64 (x10_2 + 1))) = true := decide_eq_true c26
     by_cases c27 : (wrap64 (x10_2 + 1)) ≤ (t481.size : Int)
     rotate_left
     ·rw [if_neg c27] at H
      exact absurd H (by simp)
     rw [if_pos c27] at H
     have c27b0 := eq_true c27
     have c27b1 : decide ((wrap64 (x10_2 + 1)) ≤ (t481.size : Int)) = true := decide_eq_true c27
     by_cases c28 : x8_2.size + (t481.extract (x10_2 : Int).toNat ((wrap64 (x10_2 + 1)) : Int).toNat).size ≤ 9223372036854775807
     rotate_left
     ·rw [if_neg c28] at H
      exact absurd H (by simp)
     rw [if_pos c28] at H
     have c28b0 := eq_true c28
     have c28b1 : decide (x8_2.size + (t481.extract (x10_2 : Int).toNat ((wrap64 (x10_2 + 1)) : Int).toNat).size ≤ 9223372036854775807) = true := decide_eq_true c28
     try have c28b2 : (9223372036854775807 < x8_2.size + (t481.extract (x10_2 : Int).toNat ((wrap64 (x10_2 + 1)) : Int).toNat).size) = False := eq_false (Nat.not_lt.2 c28)
     try have c28b2c := c28b2
     (try simp only [ByteArray.size_extract, Nat.min_self] at c28b2c)
     by_cases c30 : (bt t481 x10_2) = 107
     rotate_left
     ·rw [if_neg c30] at H
      have c30b0 : ((bt t481 x10_2) == 107) = false := beq_eq_false_iff_ne.mpr c30
      have c30b1 : ((bt t481 x10_2) != 107) = true := bne_iff_ne.mpr c30
      have H' := Aside0.mk H
      clear H
      have p16 : 0 ≤ (x10_2 : Int) := of_decide_eq_true aS
      have q16 : x10_2 < (t481.size : Int) := of_decide_eq_true aS
      have hx16 := bt_at t481 x10_2
      replace p16 := eq_true p16
      replace q16 := eq_true q16
      have p29 : 0 ≤ (x10_2 : Int) := of_decide_eq_true aS
      have q29 : x10_2 < (t481.size : Int) := of_decide_eq_true aS
      have hx29 := bt_at t481 x10_2
      replace p29 := eq_true p29
      replace q29 := eq_true q29
      go_wp2
      go_roundg k2
      case measure => have := HJ5.out; have := HK2.out; omega
      case rel => exact ⟨(x8_2 ++ (t481.extract (x10_2 : Int).toNat ((wrap64 (x10_2 + 1)) : Int).toNat)), (x9_2), (wrap64 (x10_2 + 1)), eX, eX, eX, H', ⟨by have := HJ5.out; have := HK2.out; omega⟩, ⟨by (with_reducible repeat (first | apply Kd.R_alloc | apply Kd.R_drewN | apply Kd.R_drew)); exact HO_3.out⟩, ⟨by (with_reducible repeat (first | apply Kd.R_alloc | apply Kd.R_drewN | apply Kd.R_drew)); exact HO_4.out⟩, ⟨by repeat (first | (with_reducible first | exact HB.out | apply below_alloc | apply pw_below_drewN | apply below_drew1) | exact HB.out)⟩⟩
     rw [if_pos c30] at H
     have c30b0 : ((bt t481 x10_2) == 107) = true := beq_iff_eq.mpr c30
     have c30b1 : ((bt t481 x10_2) != 107) = false := bne_eq_false_iff_eq.mpr c30
     clear c30
     have H' := Aside0.mk H
     clear H
     have p16 : 0 ≤ (x10_2 : Int) := of_decide_eq_true aS
     have q16 : x10_2 < (t481.size : Int) := of_decide_eq_true aS
     have hx16 := bt_at t481 x10_2
     replace p16 := eq_true p16
     replace q16 := eq_true q16
     have p29 : 0 ≤ (x10_2 : Int) := of_decide_eq_true aS
     have q29 : x10_2 < (t481.size : Int) := of_decide_eq_true aS
     have hx29 := bt_at t481 x10_2
     replace p29 := eq_true p29
     replace q29 := eq_true q29
     go_wp2
     go_roundg k2
     case measure => have := HJ5.out; have := HK2.out; omega
     case rel => exact ⟨(x8_2 ++ (t481.extract (x10_2 : Int).toNat ((wrap64 (x10_2 + 1)) : Int).toNat)), (wrap64 (x9_2 + 1)), (wrap64 (x10_2 + 1)), eX, eX, eX, H', ⟨by have := HJ5.out; have := HK2.out; omega⟩, ⟨by (with_reducible repeat (first | apply Kd.R_alloc | apply Kd.R_drewN | apply Kd.R_drew)); exact HO_3.out⟩, ⟨by (with_reducible repeat (first | apply Kd.R_alloc | apply Kd.R_drewN | apply Kd.R_drew)); exact HO_4.out⟩, ⟨by repeat (first | (with_reducible first | exact HB.out | apply below_alloc | apply pw_below_drewN | apply below_drew1) | exact HB.out)⟩⟩
def laws_FnEditSum.Pure : Prop := ∀ (l0 : List Int), l0.length ≤ maxLen → l0.length * 1 ≤ 140737488351232 → (∀ x ∈ l0, (Lit.int .u8 x).wf = true) → ∃ k, laws_FnEditSum.f k l0 = some true
theorem laws_FnEditSum.walk (P : laws_FnEditSum.Pure) (a0 : Option Addr) (len0 cap0 : Nat) (z0 : List Int) (w : World) (w0 : (a0 = none ∧ len0 = 0 ∧ cap0 = 0 ∧ z0 = []) ∨ ∃ x, a0 = some x ∧ len0 ≤ cap0 ∧ cap0 ≤ maxLen ∧ z0.length = cap0 ∧ (∀ i, i < z0.length → w.cell? (x.add i) = some (.int .u8 (z0.getD i 0))) ∧ ∀ n ∈ z0, (Lit.int .u8 n).wf = true) (y0 : len0 * 1 ≤ 140737488351232) :
  Calls Try.prog 12 #[.slice a0 len0 cap0] w fun e w' => e = .returned (.bool true) ∧ Below w.heap.size w w' := by
 obtain ⟨l0, rfl, hr0, hm0, hw0, hc0⟩ := ReadsInt.ofRowC w0
 obtain ⟨k, h⟩ := P l0 hm0 y0 hw0
 refine (laws_FnEditSum.calls k _ _ l0 true w (Kd.C_of_reads (d := (0 : Int)) (h1 := fun _ => rfl) hr0) hc0 h).mono ?_
 rintro e w' ⟨rfl, hd⟩
 exact ⟨rfl, hd⟩
end Go.Proofs.Ythpeiboobnnfgaa.E
end
section
namespace Go.Proofs.Ythpeiboobnnfgaa.Ed
structure Pr (α : Type) where
  ins : Int
  om : Int
  both : α → α → Int
section
variable {α : Type}
def least (p : Pr α) : List α → List α → Int
  | [], [] => 0
  | [], _ :: bs => p.ins + least p [] bs
  | _ :: as_, [] => p.om + least p as_ []
  | a :: as_, b :: bs => min (min (p.ins + least p (a :: as_) bs) (p.om + least p as_ (b :: bs))) (p.both a b + least p as_ bs)
termination_by a b => a.length + b.length
theorem least_nn (p : Pr α) : least p [] [] = 0 := by rw [least]
theorem least_nc (p : Pr α) (b : α) (bs : List α) : least p [] (b :: bs) = p.ins + least p [] bs := by rw [least]
theorem least_cn (p : Pr α) (a : α) (as_ : List α) : least p (a :: as_) [] = p.om + least p as_ [] := by rw [least]
theorem least_cc (p : Pr α) (a b : α) (as_ bs : List α) : least p (a :: as_) (b :: bs) = min (min (p.ins + least p (a :: as_) bs) (p.om + least p as_ (b :: bs))) (p.both a b + least p as_ bs) := by rw [least]
inductive Al (p : Pr α) : List α → List α → Int → Prop
  | nil : Al p [] [] 0
  | ins (b : α) {as_ bs : List α} {n : Int} : Al p as_ bs n → Al p as_ (b :: bs) (p.ins + n)
  | om (a : α) {as_ bs : List α} {n : Int} : Al p as_ bs n → Al p (a :: as_) bs (p.om + n)
  | both (a b : α) {as_ bs : List α} {n : Int} : Al p as_ bs n → Al p (a :: as_) (b :: bs) (p.both a b + n)
theorem Al.eq {p : Pr α} {as_ bs : List α} {n m : Int} (h : Al p as_ bs n) (e : n = m) : Al p as_ bs m := e ▸ h
theorem least_le_ins (p : Pr α) (b : α) (as_ bs : List α) : least p as_ (b :: bs) ≤ p.ins + least p as_ bs := by
  cases as_ with
  | nil => rw [least_nc]; exact Int.le_refl _
  | cons a as_ => rw [least_cc]; omega
theorem least_le_om (p : Pr α) (a : α) (as_ bs : List α) : least p (a :: as_) bs ≤ p.om + least p as_ bs := by
  cases bs with
  | nil => rw [least_cn]; exact Int.le_refl _
  | cons b bs => rw [least_cc]; omega
theorem least_le_both (p : Pr α) (a b : α) (as_ bs : List α) : least p (a :: as_) (b :: bs) ≤ p.both a b + least p as_ bs := by
  rw [least_cc]; omega
theorem Al.le {p : Pr α} {as_ bs : List α} {n : Int} (h : Al p as_ bs n) : least p as_ bs ≤ n := by
  induction h with
  | nil => rw [least_nn]; exact Int.le_refl _
  | ins b _ ih => have := least_le_ins p b; rename_i as_ bs n _; have := this as_ bs; omega
  | om a _ ih => have := least_le_om p a; rename_i as_ bs n _; have := this as_ bs; omega
  | both a b _ ih => have := least_le_both p a b; rename_i as_ bs n _; have := this as_ bs; omega
theorem Al.least (p : Pr α) : ∀ as_ bs : List α, Al p as_ bs (least p as_ bs)
  | [], [] => by rw [least_nn]; exact .nil
  | [], b :: bs => by rw [least_nc]; exact .ins b (Al.least p [] bs)
  | a :: as_, [] => by rw [least_cn]; exact .om a (Al.least p as_ [])
  | a :: as_, b :: bs => by
    have h1 := Al.ins b (Al.least p (a :: as_) bs)
    have h2 := Al.om a (Al.least p as_ (b :: bs))
    have h3 := Al.both (p := p) a b (Al.least p as_ bs)
    rw [least_cc]
    rcases Int.le_total (p.ins + Ed.least p (a :: as_) bs) (p.om + Ed.least p as_ (b :: bs)) with g | g
    · rcases Int.le_total (p.ins + Ed.least p (a :: as_) bs) (p.both a b + Ed.least p as_ bs) with g' | g'
      · exact h1.eq (by omega)
      · exact h3.eq (by omega)
    · rcases Int.le_total (p.om + Ed.least p as_ (b :: bs)) (p.both a b + Ed.least p as_ bs) with g' | g'
      · exact h2.eq (by omega)
      · exact h3.eq (by omega)
termination_by as_ bs => as_.length + bs.length
theorem least_nil (p : Pr α) : ∀ bs : List α, least p [] bs = p.ins * bs.length
  | [] => by rw [least_nn]; simp
  | b :: bs => by rw [least_nc, least_nil p bs, List.length_cons]; rw [show ((bs.length + 1 : Nat) : Int) = (bs.length : Int) + 1 from rfl, Int.mul_add]; omega
theorem least_nil' (p : Pr α) : ∀ as_ : List α, least p as_ [] = p.om * as_.length
  | [] => by rw [least_nn]; simp
  | a :: as_ => by rw [least_cn, least_nil' p as_, List.length_cons]; rw [show ((as_.length + 1 : Nat) : Int) = (as_.length : Int) + 1 from rfl, Int.mul_add]; omega
end
section
variable {α : Type}
structure Cost (p : Pr α) : Prop where
  ins : p.ins = 2
  om : p.om = 2
  same : ∀ a, p.both a a = 0
  differ : ∀ a b, p.both a b = 0 → a = b
  le : ∀ a b, 0 ≤ p.both a b ∧ p.both a b ≤ 3
  comm : ∀ a b, p.both a b = p.both b a
variable {p : Pr α}
theorem Cost.nonneg (c : Cost p) {as_ bs : List α} {n : Int} (h : Al p as_ bs n) : 0 ≤ n := by
  induction h with
  | nil => exact Int.le_refl _
  | ins b _ ih => have := c.ins; omega
  | om a _ ih => have := c.om; omega
  | both a b _ ih => have := c.le a b; omega
theorem Cost.least_nonneg (c : Cost p) (as_ bs : List α) : 0 ≤ least p as_ bs := c.nonneg (Al.least p as_ bs)
end
section
variable {α : Type}
structure Common (q : Pr α) : Prop where
  ins : q.ins = 0
  om : q.om = 0
  same : ∀ a, q.both a a = -1
  differ : ∀ a b, a ≠ b → q.both a b = 0
  comm : ∀ a b, q.both a b = q.both b a
variable {q : Pr α}
theorem Common.both (c : Common q) (a b : α) : q.both a b = 0 ∨ q.both a b = -1 ∧ a = b := by
  by_cases h : a = b
  · subst h; exact .inr ⟨c.same a, rfl⟩
  · exact .inl (c.differ a b h)
theorem Common.le_first (c : Common q) {as_ bs : List α} {n : Int} (h : Al q as_ bs n) : -n ≤ as_.length := by
  induction h with
  | nil => simp
  | ins b _ ih => have := c.ins; omega
  | om a _ ih => have := c.om; rw [List.length_cons]; omega
  | both a b _ ih => rw [List.length_cons]; rcases c.both a b with h | h <;> omega
theorem Common.nonpos (c : Common q) {as_ bs : List α} {n : Int} (h : Al q as_ bs n) : n ≤ 0 := by
  induction h with
  | nil => exact Int.le_refl _
  | ins b _ ih => have := c.ins; omega
  | om a _ ih => have := c.om; omega
  | both a b _ ih => rcases c.both a b with h | h <;> omega
end
end Go.Proofs.Ythpeiboobnnfgaa.Ed
end
section
namespace Go.Proofs.Ythpeiboobnnfgaa.Pur
open Go.RowKit Go.Proofs.YthpeiboobnnfgaaW.PrintWords
def EvP {α : Type} (g : Nat → Option α) (P : α → Prop) : Prop := ∃ r, Ev g r ∧ P r
section
variable {α β : Type}
theorem EvP.bind {g : Nat → Option α} {f : Nat → α → Option β} {P : α → Prop} {Q : β → Prop} (h : EvP g P) (k : ∀ a, P a → EvP (fun n => f n a) Q) : EvP (fun n => (g n).bind (f n)) Q := by
  obtain ⟨a, ha, hp⟩ := h
  obtain ⟨b, hb, hq⟩ := k a hp
  exact ⟨b, Ev.bind ha hb, hq⟩
theorem EvP.ret {P : α → Prop} {r : α} (h : P r) : EvP (fun _ => some r) P := ⟨r, Ev.now r, h⟩
theorem EvP.con {o : Option α} {P : α → Prop} {r : α} (h : o = some r) (hp : P r) : EvP (fun _ => o) P := by subst h; exact .ret hp
theorem EvP.ite {c : Prop} [Decidable c] {f g : Nat → Option α} {P : α → Prop} (h : c → EvP f P) (k : ¬ c → EvP g P) : EvP (fun n => if c then f n else g n) P := by
  by_cases hc : c
  · obtain ⟨r, hr, hp⟩ := h hc
    exact ⟨r, Ev.congr (fun n => if_pos hc) hr, hp⟩
  · obtain ⟨r, hr, hp⟩ := k hc
    exact ⟨r, Ev.congr (fun n => if_neg hc) hr, hp⟩
theorem EvP.yes {c : Prop} [Decidable c] {f g : Nat → Option α} {P : α → Prop} (hc : c) (h : EvP f P) : EvP (fun n => if c then f n else g n) P := .ite (fun _ => h) (fun k => absurd hc k)
theorem EvP.no {c : Prop} [Decidable c] {f g : Nat → Option α} {P : α → Prop} (hc : ¬ c) (h : EvP g P) : EvP (fun n => if c then f n else g n) P := .ite (fun k => absurd k hc) (fun _ => h)
theorem EvP.step {g f : Nat → Option α} {P : α → Prop} (h : ∀ k, g (k + 1) = f k) (k : EvP f P) : EvP g P := by
  obtain ⟨r, hr, hp⟩ := k
  exact ⟨r, Ev.step h hr, hp⟩
theorem EvP.succ {g : Nat → Option α} {P : α → Prop} (k : EvP (fun n => g (n + 1)) P) : EvP g P := EvP.step (fun _ => rfl) k
theorem EvP.mono {g : Nat → Option α} {P Q : α → Prop} (h : EvP g P) (k : ∀ r, P r → Q r) : EvP g Q := by
  obtain ⟨r, hr, hp⟩ := h
  exact ⟨r, hr, k r hp⟩
theorem EvP.rounds {g : Nat → Option α} {r : α} (h : EvP g (· = r)) : ∃ k, g k = some r := by
  obtain ⟨_, hr, rfl⟩ := h
  exact hr.rounds
end
structure Hd (p : Prop) : Prop where mk :: (out : p)
theorem w64 {i : Int} (h0 : -9223372036854775808 ≤ i) (h1 : i ≤ 9223372036854775807) : wrap64 i = i := by unfold wrap64; omega
theorem tmod_pos {a : Int} (b : Int) (h : 0 ≤ a) : Int.tmod a b = a % b := Int.tmod_eq_emod_of_nonneg h
theorem tdiv_pos {a : Int} (b : Int) (h : 0 ≤ a) : Int.tdiv a b = a / b := Int.tdiv_eq_ediv_of_nonneg h
theorem toNat_nat (n : Nat) : ((n : Int)).toNat = n := rfl
end Go.Proofs.Ythpeiboobnnfgaa.Pur
end
section
namespace Go.Proofs.Ythpeiboobnnfgaa.Pur
open Go.RowKit Go.Proofs.YthpeiboobnnfgaaW.PrintWords Go.Proofs.YthpeiboobnnfgaaW.PrintMore Go.Proofs.Ythpeiboobnnfgaa.E Go.Proofs.Ythpeiboobnnfgaa.Ed
def T (x : List (List Int)) (i k : Nat) : Int := (x.getD i []).getD k 0
def RL (x : List (List Int)) (i : Nat) : Nat := (x.getD i []).length
def putT (x : List (List Int)) (i k : Nat) (v : Int) : List (List Int) := x.set i ((x.getD i []).set k v)
theorem rd_T (x : List (List Int)) (i k : Nat) : rd (rd_L4 x (i : Int)) (k : Int) = T x i k := rfl
theorem rd_RL (x : List (List Int)) (i : Nat) : (rd_L4 x (i : Int)).length = RL x i := rfl
theorem getD_set {α : Type} (x : List α) (i j : Nat) (v d : α) : (x.set i v).getD j d = if i = j ∧ i < x.length then v else x.getD j d := by
  simp only [List.getD_eq_getElem?_getD, List.getElem?_set]
  by_cases h : i = j
  · subst h
    by_cases h2 : i < x.length
    · simp [h2]
    · simp [h2]
  · simp [h]
theorem putT_length (x : List (List Int)) (i k : Nat) (v : Int) : (putT x i k v).length = x.length := by simp [putT]
theorem putT_RL (x : List (List Int)) (i k j : Nat) (v : Int) : RL (putT x i k v) j = RL x j := by
  unfold RL putT
  rw [getD_set]
  split
  · rename_i h; rw [h.1]; simp
  · rfl
theorem putT_T (x : List (List Int)) (i k i' k' : Nat) (v : Int) (hi : i < x.length) (hk : k < RL x i) : T (putT x i k v) i' k' = if i = i' ∧ k = k' then v else T x i' k' := by
  unfold T putT
  rw [getD_set]
  by_cases h : i = i'
  · subst h
    rw [if_pos ⟨rfl, hi⟩, getD_set]
    by_cases h2 : k = k'
    · subst h2
      have hk' : k < (x.getD i []).length := hk
      rw [if_pos ⟨rfl, hk'⟩, if_pos ⟨rfl, rfl⟩]
    · rw [if_neg (fun h => h2 h.1), if_neg (fun h => h2 h.2)]
  · rw [if_neg (fun h' => h h'.1), if_neg (fun h' => h h'.1)]
theorem putT_put (x : List (List Int)) (i k : Nat) (u v : Int) : putT (putT x i k u) i k v = putT x i k v := by
  unfold putT
  rw [getD_set]
  by_cases hi : i < x.length
  · rw [if_pos ⟨rfl, hi⟩, List.set_set, List.set_set]
  · rw [List.set_eq_of_length_le (by simp; omega), List.set_eq_of_length_le (by omega), List.set_eq_of_length_le (by omega)]
section
variable {α : Type} (p : Pr α) (a b : List α)
structure Done (x : List (List Int)) (i k : Nat) : Prop where
  len : x.length = a.length + 1
  row : ∀ j, i ≤ j → j ≤ a.length → RL x j = b.length + 1
  told : ∀ j l, j ≤ a.length → l ≤ b.length → (i < j ∨ i = j ∧ k ≤ l) → T x j l = least p (a.drop j) (b.drop l)
  zero : ∀ l, l < k → T x i l = 0
structure Full (x : List (List Int)) : Prop where
  len : x.length = a.length + 1
  row : ∀ j, j ≤ a.length → RL x j = b.length + 1
  told : ∀ j l, j ≤ a.length → l ≤ b.length → T x j l = least p (a.drop j) (b.drop l)
variable {p a b}
theorem Done.put {x : List (List Int)} {i k : Nat} (h : Done p a b x i (k + 1)) (hi : i ≤ a.length) (hk : k ≤ b.length) {v : Int} (hv : v = least p (a.drop i) (b.drop k)) : Done p a b (putT x i k v) i k := by
  have h1 : i < x.length := by rw [h.len]; omega
  have h2 : k < RL x i := by rw [h.row i (Nat.le_refl _) hi]; omega
  refine ⟨by rw [putT_length]; exact h.len, fun j hj hj' => by rw [putT_RL]; exact h.row j hj hj', fun j l hj hl hd => ?_, fun l hl => ?_⟩
  · rw [putT_T x i k j l v h1 h2]
    by_cases e : i = j ∧ k = l
    · rw [if_pos e, hv, e.1, e.2]
    · rw [if_neg e]
      exact h.told j l hj hl (by omega)
  · rw [putT_T x i k i l v h1 h2, if_neg (by omega)]
    exact h.zero l (by omega)
theorem Done.stay {x : List (List Int)} (h : Done p a b x a.length (b.length + 1)) : Done p a b x a.length b.length := by
  refine ⟨h.len, h.row, fun j l hj hl hd => ?_, fun l hl => h.zero l (by omega)⟩
  obtain ⟨rfl, rfl⟩ : j = a.length ∧ l = b.length := by omega
  rw [h.zero _ (Nat.lt_succ_self _), List.drop_of_length_le (Nat.le_refl _), List.drop_of_length_le (Nat.le_refl _), least_nn]
theorem Done.new {x : List (List Int)} {i : Nat} (h : x.length = a.length + 1) (hr : ∀ j, i < j → j ≤ a.length → RL x j = b.length + 1)
    (ht : ∀ j l, j ≤ a.length → l ≤ b.length → i < j → T x j l = least p (a.drop j) (b.drop l)) (hi : i ≤ a.length) : Done p a b (x.set i (List.replicate (b.length + 1) 0)) i (b.length + 1) := by
  refine ⟨by simpa using h, fun j hj hj' => ?_, fun j l hj hl hd => ?_, fun l hl => ?_⟩
  · unfold RL
    rw [getD_set]
    split
    · simp
    · exact hr j (by omega) hj'
  · unfold T
    rw [getD_set, if_neg (by omega)]
    exact ht j l hj hl (by omega)
  · unfold T
    rw [getD_set, if_pos ⟨rfl, by omega⟩]
    simp [List.getD_eq_getElem?_getD, hl]
end
end Go.Proofs.Ythpeiboobnnfgaa.Pur
end
section
namespace Go.Proofs.Ythpeiboobnnfgaa.Pur
open Go.RowKit Go.Proofs.YthpeiboobnnfgaaW.PrintWords Go.Proofs.Ythpeiboobnnfgaa.E
def okT (t : S36) : Bool := decide (0 ≤ t.f0) && decide (t.f0 ≤ 20) && (!t.f1 || decide (t.f0 % 7 = 2))
def okM (l : List S36) : Bool := l.all okT && decide (l.length ≤ 24)
theorem spec_valid (t : S36) : spec_ToneValid.f t.f0 t.f1 = some (okT t) := by
  obtain ⟨s, b⟩ := t
  unfold spec_ToneValid.f spec_l6In.f spec_l1Letter.f okT
  by_cases h0 : s ≥ 0
  · rw [if_pos h0]
    by_cases h1 : s ≤ 20
    · cases b <;> simp [h0, h1, tmod_pos, Bool.beq_eq_decide_eq]
    · simp [h0, h1]
  · simp [h0]
theorem impl_valid (t : S36) : impl_Tone_valid.f t.f0 t.f1 = some (okT t) := by
  obtain ⟨s, b⟩ := t
  unfold impl_Tone_valid.f okT
  by_cases h0 : s ≥ 0
  · rw [if_pos h0]
    by_cases h1 : s ≤ 20
    · cases b <;> simp [h0, h1, tmod_pos, Bool.beq_eq_decide_eq]
    · simp [h0, h1]
  · simp [h0]
theorem rdT_lt {l : List S36} {i : Nat} (h : i < l.length) : rd_T36 l (i : Int) = l[i] := by
  unfold rd_T36
  rw [toNat_nat, List.getD_eq_getElem?_getD, List.getElem?_eq_getElem h]
  rfl
theorem all_drop {l : List S36} {i : Nat} (h : i < l.length) : (l.drop i).all okT = (okT l[i] && (l.drop (i + 1)).all okT) := by
  rw [List.drop_eq_getElem_cons h, List.all_cons]
theorem spec_melody_loop (l : List S36) (hl : l.length < 9223372036854775807) : ∀ d i : Nat, i + d = l.length → EvP (fun k => spec_MelodyValid.l0 k l (i : Int)) (· = ((l.drop i).all okT && decide (l.length ≤ 24))) := by
  intro d
  induction d with
  | zero =>
    intro i hi
    refine EvP.succ ?_
    simp only [spec_MelodyValid.l0]
    refine (EvP.no (by omega) (EvP.ret ?_))
    rw [List.drop_of_length_le (by omega)]
    simp only [List.all_nil, Bool.true_and]
    by_cases h : l.length ≤ 24
    · have : (l.length : Int) ≤ 24 := by omega
      simp [h, this]
    · have : ¬ (l.length : Int) ≤ 24 := by omega
      simp [h, this]
  | succ d ih =>
    intro i hi
    have hlt : i < l.length := by omega
    refine EvP.step (fun k => rfl) (EvP.yes (by omega) (EvP.yes (by omega) ?_))
    rw [rdT_lt hlt, all_drop hlt]
    refine EvP.bind (P := (· = okT l[i])) (EvP.con (spec_valid _) rfl) (fun _ e => ?_)
    subst e
    refine EvP.ite (fun h => ?_) (fun h => EvP.ret ?_)
    · rw [w64 (by omega) (by omega), h, Bool.true_and]
      exact ih (i + 1) (by omega)
    · simp [h]
theorem spec_melody (l : List S36) (hl : l.length < 9223372036854775807) : EvP (fun k => spec_MelodyValid.f k l) (· = okM l) := spec_melody_loop l hl l.length 0 (by omega)
theorem impl_melody_loop (l : List S36) (hl : l.length ≤ 24) : ∀ d i : Nat, i + d = l.length → EvP (fun k => impl_MelodyValid.l0 k l (l.length : Int) (i : Int)) (· = (l.drop i).all okT) := by
  intro d
  induction d with
  | zero =>
    intro i hi
    refine EvP.step (fun k => rfl) (EvP.no (by omega) (EvP.ret ?_))
    rw [List.drop_of_length_le (by omega)]
    rfl
  | succ d ih =>
    intro i hi
    have hlt : i < l.length := by omega
    refine EvP.step (fun k => rfl) (EvP.yes (by omega) (EvP.yes (by omega) ?_))
    try refine EvP.yes (by omega) ?_
    rw [rdT_lt hlt, all_drop hlt]
    refine EvP.bind (P := (· = okT l[i])) (EvP.con (impl_valid _) rfl) (fun _ e => ?_)
    subst e
    refine EvP.ite (fun h => ?_) (fun h => EvP.ret ?_)
    · rw [w64 (by omega) (by omega), h, Bool.true_and]
      exact ih (i + 1) (by omega)
    · simp [h]
theorem impl_melody (l : List S36) : EvP (fun k => impl_MelodyValid.f k l) (· = okM l) := by
  unfold impl_MelodyValid.f
  refine EvP.ite (fun h => EvP.ret ?_) (fun h => ?_)
  · simp [okM]; intro; omega
  · have hl : l.length ≤ 24 := by omega
    refine (impl_melody_loop l hl l.length 0 (by omega)).mono (fun r e => ?_)
    rw [e]
    simp [okM, hl]
end Go.Proofs.Ythpeiboobnnfgaa.Pur
end
section
namespace Go.Proofs.Ythpeiboobnnfgaa.Pur
open Go.RowKit Go.Proofs.YthpeiboobnnfgaaW.PrintWords Go.Proofs.YthpeiboobnnfgaaW.PrintMore Go.Proofs.Ythpeiboobnnfgaa.E Go.Proofs.Ythpeiboobnnfgaa.Ed
abbrev Tn := S36
def costP : Pr Tn := { ins := 2, om := 2, both := fun a b => if a.f0 = b.f0 then (if a.f1 = b.f1 then 0 else 1) else 3 }
def commonP : Pr Tn := { ins := 0, om := 0, both := fun a b => if a.f0 = b.f0 ∧ a.f1 = b.f1 then -1 else 0 }
theorem tn_ext {a b : Tn} (h0 : a.f0 = b.f0) (h1 : a.f1 = b.f1) : a = b := by cases a; cases b; simp_all
theorem costC : Cost costP where
  ins := rfl
  om := rfl
  same := fun a => by simp [costP]
  differ := fun a b h => by
    unfold costP at h
    by_cases h0 : a.f0 = b.f0
    · by_cases h1 : a.f1 = b.f1
      · exact tn_ext h0 h1
      · simp [h0, h1] at h
    · simp [h0] at h
  le := fun a b => by unfold costP; dsimp only; split <;> (try split) <;> omega
  comm := fun a b => by
    unfold costP
    dsimp only
    by_cases h0 : a.f0 = b.f0
    · by_cases h1 : a.f1 = b.f1
      · simp [h0, h1]
      · have h1' : ¬ b.f1 = a.f1 := fun h => h1 h.symm
        simp [h0, h1, h1']
    · have h0' : ¬ b.f0 = a.f0 := fun h => h0 h.symm
      simp [h0, h0']
theorem commonC : Common commonP where
  ins := rfl
  om := rfl
  same := fun a => by simp [commonP]
  differ := fun a b h => by
    unfold commonP
    dsimp only
    rw [if_neg (fun h' => h (tn_ext h'.1 h'.2))]
  comm := fun a b => by
    unfold commonP
    dsimp only
    by_cases h : a.f0 = b.f0 ∧ a.f1 = b.f1
    · rw [if_pos h, if_pos ⟨h.1.symm, h.2.symm⟩]
    · rw [if_neg h, if_neg (fun h' => h ⟨h'.1.symm, h'.2.symm⟩)]
theorem least_le_all {α : Type} (p : Pr α) : ∀ xs ys : List α, least p xs ys ≤ p.om * xs.length + p.ins * ys.length
  | [], ys => by rw [least_nil]; simp
  | x :: xs, ys => by
    have h1 := least_le_om p x xs ys
    have h2 := least_le_all p xs ys
    rw [List.length_cons, show ((xs.length + 1 : Nat) : Int) = (xs.length : Int) + 1 from rfl, Int.mul_add]
    omega
theorem cost_bd (xs ys : List Tn) : 0 ≤ least costP xs ys ∧ least costP xs ys ≤ 2 * xs.length + 2 * ys.length := ⟨costC.least_nonneg xs ys, least_le_all costP xs ys⟩
theorem common_bd (xs ys : List Tn) : -(xs.length : Int) ≤ least commonP xs ys ∧ least commonP xs ys ≤ 0 := by
  have h1 := commonC.le_first (Al.least commonP xs ys)
  have h2 := commonC.nonpos (Al.least commonP xs ys)
  omega
theorem drop_len {a : List Tn} (i : Nat) : (a.drop i).length = a.length - i := List.length_drop
theorem drop_cons {a : List Tn} {i : Nat} (h : i < a.length) : a.drop i = a[i] :: a.drop (i + 1) := List.drop_eq_getElem_cons h
theorem rdT_getElem {l : List Tn} {i : Nat} (h : i < l.length) : rd_T36 l (i : Int) = l[i] := rdT_lt h
theorem spec_replace (a b : Tn) : spec_l7Replace.f a.f0 a.f1 b.f0 b.f1 = some (costP.both a b) := by
  unfold spec_l7Replace.f costP
  dsimp only
  by_cases h0 : a.f0 = b.f0
  · by_cases h1 : a.f1 = b.f1
    · simp [h0, h1]
    · simp [h0, h1]
  · simp [h0]
theorem mn_min (a b : Int) : mn a b = min a b := by unfold mn; omega
section
variable (a b : List Tn) (ha : a.length ≤ 24) (hb : b.length ≤ 24) (Q : List (List Int) → Prop)
include ha hb
theorem spec_row (i : Nat) (hi : i ≤ a.length) (next : ∀ x, Done costP a b x i 0 → EvP (fun n => spec_l7Costs.l0 n a b x (wrap64 ((i : Int) - 1))) Q) :
    ∀ k1 : Nat, k1 ≤ b.length + 1 → ∀ x, Done costP a b x i k1 → EvP (fun n => spec_l7Costs.l1 n a b x (i : Int) ((k1 : Int) - 1)) Q := by
  intro k1
  induction k1 with
  | zero =>
    intro _ x D
    refine EvP.succ ?_
    simp only [spec_l7Costs.l1]
    exact EvP.no (by omega) (next x D)
  | succ k ih =>
    intro hk x D
    have hx : x.length = a.length + 1 := D.len
    have hri : (rd_L4 x (i : Int)).length = b.length + 1 := D.row i (Nat.le_refl _) hi
    have ek : (((k + 1 : Nat) : Int) - 1) = (k : Int) := by omega
    have ekm : wrap64 ((k : Int) - 1) = (k : Int) - 1 := w64 (by omega) (by omega)
    have ei1 : wrap64 ((i : Int) + 1) = ((i + 1 : Nat) : Int) := w64 (by omega) (by omega)
    have ek1 : wrap64 ((k : Int) + 1) = ((k + 1 : Nat) : Int) := w64 (by omega) (by omega)
    rw [ek]
    refine EvP.succ ?_
    simp only [spec_l7Costs.l1]
    refine EvP.yes (by omega) ?_
    have fin : ∀ v, v = least costP (a.drop i) (b.drop k) → EvP (fun n => spec_l7Costs.l1 n a b (putT x i k v) (i : Int) (wrap64 ((k : Int) - 1))) Q := by
      intro v hv
      rw [ekm]
      exact ih (by omega) _ (D.put hi (by omega) hv)
    refine EvP.ite (fun hia => ?_) (fun hia => ?_)
    · refine EvP.yes (by omega) (EvP.yes (by omega) (EvP.yes (by omega) (EvP.yes (by omega) (fin _ ?_))))
      rw [w64 (i := (b.length : Int) - k) (by omega) (by omega), w64 (by omega) (by omega), List.drop_of_length_le (show a.length ≤ i by omega), least_nil, drop_len]
      show _ = (2 : Int) * _
      omega
    · refine EvP.ite (fun hkb => ?_) (fun hkb => ?_)
      · refine EvP.yes (by omega) (EvP.yes (by omega) (EvP.yes (by omega) (EvP.yes (by omega) (fin _ ?_))))
        rw [w64 (i := (a.length : Int) - i) (by omega) (by omega), w64 (by omega) (by omega), List.drop_of_length_le (show b.length ≤ k by omega), least_nil', drop_len]
        show _ = (2 : Int) * _
        omega
      · have hia' : i < a.length := by omega
        have hkb' : k < b.length := by omega
        have hri1 : (rd_L4 x ((i + 1 : Nat) : Int)).length = b.length + 1 := D.row (i + 1) (by omega) (by omega)
        rw [ei1, ek1]
        refine EvP.yes (by omega) (EvP.yes (by omega) (EvP.yes (by omega) (EvP.yes (by omega) (EvP.yes (by omega) (EvP.yes (by omega) (EvP.yes (by omega) (EvP.yes (by omega) (EvP.yes (by omega) (EvP.yes (by omega) (EvP.yes (by omega) ?_))))))))))
        rw [rdT_getElem hia', rdT_getElem hkb']
        refine EvP.bind (P := (· = costP.both a[i] b[k])) (EvP.con (spec_replace _ _) rfl) (fun _ e => ?_)
        subst e
        refine EvP.yes (by omega) (fin _ ?_)
        rw [rd_T, rd_T, rd_T, D.told (i + 1) k (by omega) (by omega) (by omega), D.told i (k + 1) (by omega) (by omega) (by omega), D.told (i + 1) (k + 1) (by omega) (by omega) (by omega)]
        rw [drop_cons hia', drop_cons hkb', least_cc, ← drop_cons hia', ← drop_cons hkb', mn_min, mn_min]
        have b1 := cost_bd (a.drop (i + 1)) (b.drop k)
        have b2 := cost_bd (a.drop i) (b.drop (k + 1))
        have b3 := cost_bd (a.drop (i + 1)) (b.drop (k + 1))
        have b4 := costC.le a[i] b[k]
        simp only [drop_len] at b1 b2 b3
        rw [w64 (by omega) (by omega), w64 (by omega) (by omega)]
        have c1 : costP.ins = 2 := rfl
        have c2 : costP.om = 2 := rfl
        rw [c1, c2]
        omega
theorem spec_rows (hQ : ∀ x, Full costP a b x → Q x) :
    ∀ i1 : Nat, i1 ≤ a.length + 1 → ∀ x, x.length = a.length + 1 → (∀ j, i1 ≤ j → j ≤ a.length → RL x j = b.length + 1) → (∀ j l, j ≤ a.length → l ≤ b.length → i1 ≤ j → T x j l = least costP (a.drop j) (b.drop l)) →
      EvP (fun n => spec_l7Costs.l0 n a b x ((i1 : Int) - 1)) Q := by
  intro i1
  induction i1 with
  | zero =>
    intro _ x hx hr ht
    refine EvP.succ ?_
    simp only [spec_l7Costs.l0]
    refine EvP.no (by omega) ?_
    exact (EvP.ret (hQ x ⟨hx, fun j hj => hr j (Nat.zero_le _) hj, fun j l hj hl => ht j l hj hl (Nat.zero_le _)⟩))
  | succ i ih =>
    intro hi x hx hr ht
    have ei : (((i + 1 : Nat) : Int) - 1) = (i : Int) := by omega
    have eb : wrap64 ((b.length : Int) + 1) = ((b.length + 1 : Nat) : Int) := w64 (by omega) (by omega)
    rw [ei]
    refine EvP.succ ?_
    simp only [spec_l7Costs.l0]
    refine EvP.yes (by omega) ?_
    rw [eb]
    refine EvP.yes (by omega) (EvP.yes (by omega) (EvP.yes (by omega) (EvP.yes (by omega) ?_)))
    have D : Done costP a b (x.set i (List.replicate (b.length + 1) 0)) i (b.length + 1) := Done.new hx (fun j hj hj' => hr j (by omega) hj') (fun j l hj hl hij => ht j l hj hl (by omega)) (by omega)
    have eb' : (((b.length + 1 : Nat) : Int) - 1) = (b.length : Int) := by omega
    have := spec_row a b ha hb Q i (by omega) (fun x' D' => by
      rw [w64 (by omega) (by omega)]
      exact ih (by omega) x' D'.len (fun j hj hj' => D'.row j (by omega) hj') (fun j l hj hl hij => D'.told j l hj hl (by omega))) (b.length + 1) (Nat.le_refl _) _ D
    rw [eb'] at this
    exact this
end
theorem spec_costs (a b : List Tn) (ha : a.length ≤ 24) (hb : b.length ≤ 24) : EvP (fun n => spec_l7Costs.f n a b) (Full costP a b) := by
  unfold spec_l7Costs.f
  have ea : wrap64 ((a.length : Int) + 1) = ((a.length + 1 : Nat) : Int) := w64 (by omega) (by omega)
  rw [ea]
  refine EvP.yes (by omega) (EvP.yes (by omega) ?_)
  have := spec_rows a b ha hb (Full costP a b) (fun _ h => h) (a.length + 1) (Nat.le_refl _) (List.replicate (a.length + 1) []) (by simp) (fun j hj hj' => by omega) (fun j l hj hl hij => by omega)
  rw [show (((a.length + 1 : Nat) : Int) - 1) = (a.length : Int) by omega] at this
  exact this
end Go.Proofs.Ythpeiboobnnfgaa.Pur
end
section
namespace Go.Proofs.Ythpeiboobnnfgaa.Pur
open Go.RowKit Go.Proofs.YthpeiboobnnfgaaW.PrintWords Go.Proofs.YthpeiboobnnfgaaW.PrintMore Go.Proofs.Ythpeiboobnnfgaa.E Go.Proofs.Ythpeiboobnnfgaa.Ed
def eqT (a b : Tn) : Bool := a.f0 == b.f0 && (a.f1 == b.f1)
theorem eqT_iff (a b : Tn) : eqT a b = true ↔ a = b := by
  unfold eqT
  rw [Bool.and_eq_true, beq_iff_eq, beq_iff_eq]
  exact ⟨fun h => tn_ext h.1 h.2, fun h => by rw [h]; exact ⟨rfl, rfl⟩⟩
def use1 (_ ys : List Tn) : Int × Int × Int × Bool := (0, 1, 2, decide ((ys.length : Int) > 0))
def use2 : List Tn → List Tn → Int × Int × Int × Bool
  | x :: _, y :: _ => (1, 1, 0, eqT x y)
  | _, _ => (1, 1, 0, false)
def use3 (xs _ : List Tn) : Int × Int × Int × Bool := (1, 0, 2, decide ((xs.length : Int) > 0))
def use4 : List Tn → List Tn → Int × Int × Int × Bool
  | x :: _, y :: _ => if eqT x y = true then (0, 0, 0, false) else if x.f0 = y.f0 then (1, 1, 1, true) else (1, 1, 3, true)
  | _, _ => (0, 0, 0, false)
theorem use1_true (xs ys : List Tn) (h : 0 < ys.length) : use1 xs ys = (((0 : Nat) : Int), ((1 : Nat) : Int), 2, true) := by
  unfold use1
  rw [decide_eq_true (show (ys.length : Int) > 0 by omega)]
  rfl
theorem use1_false (xs ys : List Tn) (h : ys.length = 0) : (use1 xs ys).2.2.2 = false := decide_eq_false (by omega)
theorem use3_true (xs ys : List Tn) (h : 0 < xs.length) : use3 xs ys = (((1 : Nat) : Int), ((0 : Nat) : Int), 2, true) := by
  unfold use3
  rw [decide_eq_true (show (xs.length : Int) > 0 by omega)]
  rfl
theorem use3_false (xs ys : List Tn) (h : xs.length = 0) : (use3 xs ys).2.2.2 = false := decide_eq_false (by omega)
theorem use_ok (xs ys : List Tn) : EvP (fun k => impl_useOf.f k 1 xs ys) (· = use1 xs ys) ∧ EvP (fun k => impl_useOf.f k 2 xs ys) (· = use2 xs ys) ∧ EvP (fun k => impl_useOf.f k 3 xs ys) (· = use3 xs ys) ∧ EvP (fun k => impl_useOf.f k 4 xs ys) (· = use4 xs ys) := by
  have j0 : ∀ (e : Int) (u : Int × Int × Int × Bool), (∀ B, (B = (decide ((xs.length : Int) > 0) && decide ((ys.length : Int) > 0))) → EvP (fun k => impl_useOf.j0 k e xs ys B) (· = u)) → EvP (fun k => impl_useOf.f k e xs ys) (· = u) := by
    intro e u h
    unfold impl_useOf.f
    refine EvP.ite (fun h1 => h _ ?_) (fun h1 => h _ ?_)
    · have h2 : 0 < xs.length := by omega
      simp [h2]
    have : ¬ 0 < xs.length := by omega
    simp [this]
  refine ⟨j0 1 _ fun B hB => ?_, j0 2 _ fun B hB => ?_, j0 3 _ fun B hB => ?_, j0 4 _ fun B hB => ?_⟩
  · refine EvP.succ ?_
    simp only [impl_useOf.j0]
    exact EvP.yes (by simp) (EvP.ret rfl)
  · refine EvP.succ ?_
    simp only [impl_useOf.j0]
    refine EvP.no (by decide) (EvP.no (by decide) (EvP.yes (by simp) ?_))
    subst hB
    cases xs with
    | nil => exact EvP.no (by simp) (EvP.ret rfl)
    | cons x xs =>
      cases ys with
      | nil => exact EvP.no (by simp) (EvP.ret rfl)
      | cons y ys =>
        refine EvP.yes (by simp) (EvP.yes (by simp) (EvP.yes (by simp) (EvP.ret ?_)))
        rfl
  · refine EvP.succ ?_
    simp only [impl_useOf.j0]
    exact EvP.no (by decide) (EvP.yes (by simp) (EvP.ret rfl))
  · refine EvP.succ ?_
    simp only [impl_useOf.j0]
    refine EvP.no (by decide) (EvP.no (by decide) (EvP.no (by decide) (EvP.yes (by simp) ?_)))
    subst hB
    have jt : ∀ xs ys, EvP (fun k => impl_useOf.j1 k xs ys true) (· = ((0, 0, 0, false) : Int × Int × Int × Bool)) := by
      intro xs ys
      refine EvP.succ ?_
      simp only [impl_useOf.j1]
      exact EvP.yes (by simp) (EvP.ret rfl)
    cases xs with
    | nil => exact EvP.no (by simp) (jt _ _)
    | cons x xs =>
      cases ys with
      | nil => exact EvP.no (by simp) (jt _ _)
      | cons y ys =>
        refine EvP.yes (by simp) (EvP.yes (by simp) (EvP.yes (by simp) ?_))
        show EvP (fun k => impl_useOf.j1 k (x :: xs) (y :: ys) (eqT x y)) _
        rw [show use4 (x :: xs) (y :: ys) = if eqT x y = true then (0, 0, 0, false) else if x.f0 = y.f0 then (1, 1, 1, true) else (1, 1, 3, true) from rfl]
        by_cases h : eqT x y = true
        · rw [if_pos h, h]
          exact jt _ _
        · rw [if_neg h, Bool.eq_false_iff.mpr h]
          refine EvP.succ ?_
          simp only [impl_useOf.j1]
          refine EvP.no (by decide) (EvP.yes (by simp) (EvP.yes (by simp) ?_))
          show EvP (fun k => if x.f0 = y.f0 then _ else _) _
          by_cases h0 : x.f0 = y.f0
          · rw [if_pos h0]; exact EvP.ret (by rw [if_pos h0])
          · rw [if_neg h0]; exact EvP.ret (by rw [if_neg h0])
end Go.Proofs.Ythpeiboobnnfgaa.Pur
end
section
namespace Go.Proofs.Ythpeiboobnnfgaa.Pur
open Go.RowKit Go.Proofs.YthpeiboobnnfgaaW.PrintWords Go.Proofs.YthpeiboobnnfgaaW.PrintMore Go.Proofs.Ythpeiboobnnfgaa.E Go.Proofs.Ythpeiboobnnfgaa.Ed
theorem use2_same (x y : Tn) (xs ys : List Tn) (h : eqT x y = true) : use2 (x :: xs) (y :: ys) = (((1 : Nat) : Int), ((1 : Nat) : Int), 0, true) := by
  rw [show use2 (x :: xs) (y :: ys) = (1, 1, 0, eqT x y) from rfl, h]; rfl
theorem use2_not (x y : Tn) (xs ys : List Tn) (h : ¬ eqT x y = true) : (use2 (x :: xs) (y :: ys)).2.2.2 = false := by
  rw [show use2 (x :: xs) (y :: ys) = (1, 1, 0, eqT x y) from rfl]
  exact Bool.eq_false_iff.mpr h
theorem use4_same (x y : Tn) (xs ys : List Tn) (h : eqT x y = true) : (use4 (x :: xs) (y :: ys)).2.2.2 = false := by
  rw [show use4 (x :: xs) (y :: ys) = if eqT x y = true then (0, 0, 0, false) else if x.f0 = y.f0 then (1, 1, 1, true) else (1, 1, 3, true) from rfl, if_pos h]
theorem use4_not (x y : Tn) (xs ys : List Tn) (h : ¬ eqT x y = true) : use4 (x :: xs) (y :: ys) = (((1 : Nat) : Int), ((1 : Nat) : Int), (if x.f0 = y.f0 then 1 else 3), true) := by
  rw [show use4 (x :: xs) (y :: ys) = if eqT x y = true then (0, 0, 0, false) else if x.f0 = y.f0 then (1, 1, 1, true) else (1, 1, 3, true) from rfl, if_neg h]
  by_cases h0 : x.f0 = y.f0
  · rw [if_pos h0, if_pos h0]; rfl
  · rw [if_neg h0, if_neg h0]; rfl
theorem use2_nil (xs ys : List Tn) (h : xs.length = 0 ∨ ys.length = 0) : (use2 xs ys).2.2.2 = false := by
  cases xs with
  | nil => rfl
  | cons x xs => cases ys with
    | nil => rfl
    | cons y ys => simp at h
theorem use4_nil (xs ys : List Tn) (h : xs.length = 0 ∨ ys.length = 0) : (use4 xs ys).2.2.2 = false := by
  cases xs with
  | nil => rfl
  | cons x xs => cases ys with
    | nil => rfl
    | cons y ys => simp at h
end Go.Proofs.Ythpeiboobnnfgaa.Pur
end
section
namespace Go.Proofs.Ythpeiboobnnfgaa.Pur
open Go.RowKit Go.Proofs.YthpeiboobnnfgaaW.PrintWords Go.Proofs.YthpeiboobnnfgaaW.PrintMore Go.Proofs.Ythpeiboobnnfgaa.E Go.Proofs.Ythpeiboobnnfgaa.Ed
def useC (c : Int) (xs ys : List Tn) : Int × Int × Int × Bool := if c = 105 then use1 xs ys else if c = 107 then use2 xs ys else if c = 111 then use3 xs ys else if c = 114 then use4 xs ys else (0, 0, 0, false)
def sumT (t : ByteArray) : Nat → Nat → List Tn → List Tn → Int → Int × Bool
  | 0, _, xs, ys, n => (n, decide (xs.length = 0) && decide (ys.length = 0))
  | d + 1, p, xs, ys, n => if (useC (bt t (p : Int)) xs ys).2.2.2 = true then sumT t d (p + 1) (xs.drop (useC (bt t (p : Int)) xs ys).1.toNat) (ys.drop (useC (bt t (p : Int)) xs ys).2.1.toNat) (n + (useC (bt t (p : Int)) xs ys).2.2.1) else (0, false)
def ans (s : Int × Bool) : Int := if s.2 = true then s.1 else -1
theorem sumT_go {t : ByteArray} {d p : Nat} {xs ys : List Tn} {n c : Int} {x y : Nat} (h : useC (bt t (p : Int)) xs ys = ((x : Int), (y : Int), c, true)) : sumT t (d + 1) p xs ys n = sumT t d (p + 1) (xs.drop x) (ys.drop y) (n + c) := by
  rw [sumT, h]
  rfl
theorem sumT_end {t : ByteArray} {d p : Nat} {xs ys : List Tn} {n : Int} (h : (useC (bt t (p : Int)) xs ys).2.2.2 = false) : sumT t (d + 1) p xs ys n = (0, false) := by
  rw [sumT, if_neg (by rw [h]; decide)]
theorem useC_ways (c : Int) (xs ys : List Tn) : (useC c xs ys).2.2.2 = false ∨ ∃ (x y : Nat) (n : Int), useC c xs ys = ((x : Int), (y : Int), n, true) ∧ x ≤ xs.length ∧ y ≤ ys.length ∧ 0 ≤ n ∧ n ≤ 3 := by
  unfold useC
  by_cases c1 : c = 105
  · rw [if_pos c1]
    by_cases h : 0 < ys.length
    · exact .inr ⟨0, 1, 2, use1_true xs ys h, by omega, by omega, by omega, by omega⟩
    · exact .inl (use1_false xs ys (by omega))
  rw [if_neg c1]
  by_cases c2 : c = 107
  · rw [if_pos c2]
    cases xs with
    | nil => exact .inl rfl
    | cons x xs => cases ys with
      | nil => exact .inl rfl
      | cons y ys =>
        by_cases h : eqT x y = true
        · exact .inr ⟨1, 1, 0, use2_same x y xs ys h, by simp, by simp, by omega, by omega⟩
        · exact .inl (use2_not x y xs ys h)
  rw [if_neg c2]
  by_cases c3 : c = 111
  · rw [if_pos c3]
    by_cases h : 0 < xs.length
    · exact .inr ⟨1, 0, 2, use3_true xs ys h, by omega, by omega, by omega, by omega⟩
    · exact .inl (use3_false xs ys (by omega))
  rw [if_neg c3]
  by_cases c4 : c = 114
  · rw [if_pos c4]
    cases xs with
    | nil => exact .inl rfl
    | cons x xs => cases ys with
      | nil => exact .inl rfl
      | cons y ys =>
        by_cases h : eqT x y = true
        · exact .inl (use4_same x y xs ys h)
        · exact .inr ⟨1, 1, _, use4_not x y xs ys h, by simp, by simp, by split <;> omega, by split <;> omega⟩
  rw [if_neg c4]
  exact .inl rfl
def edOf (c : Int) : Int := if c = 105 then 1 else if c = 107 then 2 else if c = 111 then 3 else if c = 114 then 4 else 0
theorem edit_of (c : Int) : EvP (fun k => impl_editOf.f k c) (· = edOf c) := by
  unfold impl_editOf.f
  refine EvP.bind (P := (· = [1, 2, 3, 4])) (EvP.con rfl rfl) (fun _ e => ?_)
  subst e
  have row : ∀ (i j : Int) (e v : Int) (Q : Int → Prop), 0 ≤ i → i < 4 → wrap64 (i + 1) = j → rd [1, 2, 3, 4] i = e → en63_letter.f e = some v → (v = c → Q e) → (v ≠ c → EvP (fun k => impl_editOf.l0 k c [1, 2, 3, 4] 4 j) Q) → EvP (fun k => impl_editOf.l0 k c [1, 2, 3, 4] 4 i) Q := by
    intro i j e v Q h0 h4 hj he hv hy hn
    refine EvP.succ ?_
    simp only [impl_editOf.l0]
    refine EvP.yes h4 (EvP.yes h0 (EvP.yes (by simpa using h4) ?_))
    rw [he, hj]
    refine EvP.bind (P := (· = v)) (EvP.con hv rfl) (fun _ e' => ?_)
    subst e'
    exact EvP.ite (fun h => EvP.ret (hy h)) (fun h => hn h)
  show EvP (fun k => impl_editOf.l0 k c [1, 2, 3, 4] 4 0) _
  refine row 0 1 1 105 _ (by omega) (by omega) (w64 (by omega) (by omega)) rfl rfl (fun h => ?_) (fun h1 => ?_)
  · subst h; rfl
  refine row 1 2 2 107 _ (by omega) (by omega) (w64 (by omega) (by omega)) rfl rfl (fun h => ?_) (fun h2 => ?_)
  · subst h; rfl
  refine row 2 3 3 111 _ (by omega) (by omega) (w64 (by omega) (by omega)) rfl rfl (fun h => ?_) (fun h3 => ?_)
  · subst h; rfl
  refine row 3 4 4 114 _ (by omega) (by omega) (w64 (by omega) (by omega)) rfl rfl (fun h => ?_) (fun h4 => ?_)
  · subst h; rfl
  refine EvP.succ ?_
  simp only [impl_editOf.l0]
  refine EvP.no (by decide) (EvP.ret ?_)
  unfold edOf
  rw [if_neg (fun h => h1 h.symm), if_neg (fun h => h2 h.symm), if_neg (fun h => h3 h.symm), if_neg (fun h => h4 h.symm)]
theorem use_none (xs ys : List Tn) : EvP (fun k => impl_useOf.f k 0 xs ys) (· = ((0, 0, 0, false) : Int × Int × Int × Bool)) := by
  have j0 : ∀ B, EvP (fun k => impl_useOf.j0 k 0 xs ys B) (· = ((0, 0, 0, false) : Int × Int × Int × Bool)) := by
    intro B
    refine EvP.succ ?_
    simp only [impl_useOf.j0]
    exact EvP.no (by decide) (EvP.no (by decide) (EvP.no (by decide) (EvP.no (by decide) (EvP.ret rfl))))
  unfold impl_useOf.f
  exact EvP.ite (fun _ => j0 _) (fun _ => j0 _)
theorem use_of (c : Int) (xs ys : List Tn) : EvP (fun k => impl_useOf.f k (edOf c) xs ys) (· = useC c xs ys) := by
  obtain ⟨u1, u2, u3, u4⟩ := use_ok xs ys
  unfold edOf useC
  by_cases c1 : c = 105
  · rw [if_pos c1, if_pos c1]; exact u1
  rw [if_neg c1, if_neg c1]
  by_cases c2 : c = 107
  · rw [if_pos c2, if_pos c2]; exact u2
  rw [if_neg c2, if_neg c2]
  by_cases c3 : c = 111
  · rw [if_pos c3, if_pos c3]; exact u3
  rw [if_neg c3, if_neg c3]
  by_cases c4 : c = 114
  · rw [if_pos c4, if_pos c4]; exact u4
  rw [if_neg c4, if_neg c4]
  exact use_none xs ys
theorem impl_text (t : ByteArray) (ht : t.size ≤ 1048576) : ∀ d p : Nat, p + d = t.size → ∀ (xs ys : List Tn) (n : Int), 0 ≤ n → n ≤ 3 * (p : Int) → EvP (fun k => impl_alignmentSum.l0 k xs ys t n (t.size : Int) (p : Int)) (· = sumT t d p xs ys n) := by
  intro d
  induction d with
  | zero =>
    intro p hp xs ys n n0 n1
    refine EvP.succ ?_
    simp only [impl_alignmentSum.l0]
    refine EvP.no (by omega) (EvP.ite (fun h => EvP.ret ?_) (fun h => EvP.ret ?_))
    · have : xs.length = 0 := by omega
      simp [sumT, this]
      by_cases hy : ys = [] <;> simp [hy]
    · have : ¬ xs.length = 0 := by omega
      have hx : ¬ xs = [] := fun e => this (by rw [e]; rfl)
      simp [sumT, hx]
  | succ d ih =>
    intro p hp xs ys n n0 n1
    refine EvP.succ ?_
    simp only [impl_alignmentSum.l0]
    refine EvP.yes (by omega) (EvP.yes (by omega) (EvP.yes (by omega) ?_))
    refine EvP.bind (edit_of _) (fun _ e => ?_)
    subst e
    refine EvP.bind (use_of _ xs ys) (fun _ e => ?_)
    subst e
    rcases useC_ways (bt t (p : Int)) xs ys with h | ⟨x, y, c, h, hx, hy, c0, c3⟩
    · rw [sumT_end h, h]
      exact EvP.no (by decide) (EvP.ret rfl)
    · rw [sumT_go h, h]
      refine EvP.yes rfl (EvP.yes (by dsimp only; omega) (EvP.yes (by dsimp only; omega) (EvP.yes (by dsimp only; omega) (EvP.yes (by dsimp only; omega) ?_))))
      dsimp only
      rw [w64 (by omega) (by omega), w64 (by omega) (by omega)]
      exact ih (p + 1) (by omega) _ _ (n + c) (by omega) (by omega)
theorem l7_replace (x y : Tn) (h : ¬ eqT x y = true) : spec_l7Replace.f x.f0 x.f1 y.f0 y.f1 = some (if x.f0 = y.f0 then 1 else 3) := by
  unfold spec_l7Replace.f
  by_cases h0 : x.f0 = y.f0
  · by_cases h1 : x.f1 = y.f1
    · exact absurd ((eqT_iff x y).mpr (tn_ext h0 h1)) h
    · rw [if_pos h0, if_neg h1, if_pos h0]
  · rw [if_neg h0, if_neg h0]
section
variable (t : ByteArray) (ht : t.size ≤ 1048576) (a b : List Tn) (ha : a.length ≤ 24) (hb : b.length ≤ 24)
include ht ha hb
theorem spec_letter (d p : Nat) (hp : p + (d + 1) = t.size) (i j : Nat) (hi : i ≤ a.length) (hj : j ≤ b.length) (n : Int) (n0 : 0 ≤ n) (n1 : n ≤ 3 * (p : Int)) (Q : Int → Prop)
    (next : ∀ (x y : Nat) (c : Int), useC (bt t (p : Int)) (a.drop i) (b.drop j) = ((x : Int), (y : Int), c, true) → EvP (fun k => spec_EditSum.l0 k a b t ((i + x : Nat) : Int) ((j + y : Nat) : Int) (n + c) ((p + 1 : Nat) : Int)) Q)
    (stop : (useC (bt t (p : Int)) (a.drop i) (b.drop j)).2.2.2 = false → Q (-1)) (B : Bool) (hB : B = (decide (i < a.length) && decide (j < b.length))) :
    EvP (fun k => spec_EditSum.j2 k a b t (i : Int) (j : Int) n (p : Int) B) Q := by
  have la : (a.drop i).length = a.length - i := List.length_drop
  have lb : (b.drop j).length = b.length - j := List.length_drop
  have w1 : Hd (wrap64 ((p : Int) + 1) = ((p + 1 : Nat) : Int)) := ⟨w64 (by omega) (by omega)⟩
  have w2 : Hd (wrap64 (n + 2) = n + 2) := ⟨w64 (by omega) (by omega)⟩
  have w3 : Hd (wrap64 (i + 1 : Int) = ((i + 1 : Nat) : Int)) := ⟨w64 (by omega) (by omega)⟩
  have w4 : Hd (wrap64 (j + 1 : Int) = ((j + 1 : Nat) : Int)) := ⟨w64 (by omega) (by omega)⟩
  have w5 : ∀ c : Prop, [Decidable c] → Hd (wrap64 (n + (if c then (1 : Int) else 3)) = n + (if c then (1 : Int) else 3)) := by
    intro c _
    exact ⟨w64 (by split <;> omega) (by split <;> omega)⟩
  have hp0 : (0 : Int) ≤ (p : Int) := by omega
  have hp1 : (p : Int) < (t.size : Int) := by omega
  have both : B = true → ∃ (h0 : i < a.length) (h1 : j < b.length), a.drop i = a[i] :: a.drop (i + 1) ∧ b.drop j = b[j] :: b.drop (j + 1) := by
    intro h
    rw [hB, Bool.and_eq_true] at h
    have h0 := of_decide_eq_true h.1
    have h1 := of_decide_eq_true h.2
    exact ⟨h0, h1, List.drop_eq_getElem_cons h0, List.drop_eq_getElem_cons h1⟩
  have none_ : B = false → (a.drop i).length = 0 ∨ (b.drop j).length = 0 := by
    intro h
    rw [hB, Bool.and_eq_false_iff] at h
    rcases h with h | h
    · have := of_decide_eq_false h; exact .inl (by omega)
    · have := of_decide_eq_false h; exact .inr (by omega)
  have iA : i < a.length → (0 : Int) ≤ (i : Int) ∧ (i : Int) < (a.length : Int) := fun h => ⟨by omega, by omega⟩
  have jA : j < b.length → (0 : Int) ≤ (j : Int) ∧ (j : Int) < (b.length : Int) := fun h => ⟨by omega, by omega⟩
  clear ht ha hb n0 n1 hp
  generalize hc : bt t (p : Int) = c at *
  have J5 : c = 114 ∨ (useC c (a.drop i) (b.drop j)).2.2.2 = false → EvP (fun k => spec_EditSum.j5 k a b t (i : Int) (j : Int) n (p : Int) B false) Q := by
    intro h
    refine EvP.succ ?_
    simp only [spec_EditSum.j5, hc]
    refine EvP.no (by decide) (EvP.yes hp0 (EvP.yes hp1 (EvP.ite (fun h4 => ?_) (fun h4 => EvP.ret (stop (h.resolve_left h4))))))
    have u4 : useC c (a.drop i) (b.drop j) = use4 (a.drop i) (b.drop j) := by rw [h4]; rfl
    refine EvP.ite (fun hB1 => ?_) (fun hB0 => EvP.ret (stop (by rw [u4]; exact use4_nil _ _ (none_ (Bool.eq_false_iff.mpr hB0)))))
    obtain ⟨h0, h1, ea, eb⟩ := both hB1
    refine EvP.yes (iA h0).1 (EvP.yes (iA h0).2 (EvP.yes (jA h1).1 (EvP.yes (jA h1).2 ?_)))
    rw [rdT_lt h0, rdT_lt h1]
    by_cases he : eqT a[i] b[j] = true
    · refine EvP.no ?_ (EvP.ret (stop (by rw [u4, ea, eb]; exact use4_same _ _ _ _ he)))
      have := (eqT_iff _ _).mp he
      rw [this]; simp
    · refine EvP.yes ?_ ?_
      · have hn : eqT a[i] b[j] = false := Bool.eq_false_iff.mpr he
        unfold eqT at hn
        rw [← Bool.not_and, hn]; rfl
      refine EvP.bind (P := (· = if a[i].f0 = b[j].f0 then 1 else 3)) (EvP.con (l7_replace _ _ he) rfl) (fun _ e => ?_)
      subst e
      rw [w1.out, w3.out, w4.out, (w5 _).out]
      exact next 1 1 _ (by rw [u4, ea, eb]; exact use4_not _ _ _ _ he)
  have J4f : c = 107 ∨ c = 114 ∨ (useC c (a.drop i) (b.drop j)).2.2.2 = false → EvP (fun k => spec_EditSum.j4 k a b t (i : Int) (j : Int) n (p : Int) B false) Q := by
    intro h
    refine EvP.succ ?_
    simp only [spec_EditSum.j4, hc]
    refine EvP.no (by decide) (EvP.yes hp0 (EvP.yes hp1 (EvP.ite (fun h4 => ?_) (fun h4 => J5 (h.resolve_left h4)))))
    have u2 : useC c (a.drop i) (b.drop j) = use2 (a.drop i) (b.drop j) := by rw [h4]; rfl
    refine EvP.ite (fun hB1 => ?_) (fun hB0 => J5 (.inr (by rw [u2]; exact use2_nil _ _ (none_ (Bool.eq_false_iff.mpr hB0)))))
    obtain ⟨h0, h1, ea, eb⟩ := both hB1
    refine EvP.yes (iA h0).1 (EvP.yes (iA h0).2 (EvP.yes (jA h1).1 (EvP.yes (jA h1).2 ?_)))
    rw [rdT_lt h0, rdT_lt h1]
    show EvP (fun k => spec_EditSum.j5 k a b t (i : Int) (j : Int) n (p : Int) B (eqT a[i] b[j])) Q
    by_cases he : eqT a[i] b[j] = true
    · rw [he]
      refine EvP.succ ?_
      simp only [spec_EditSum.j5]
      refine EvP.yes trivial ?_
      rw [w1.out, w3.out, w4.out]
      have := next 1 1 0 (by rw [u2, ea, eb]; exact use2_same _ _ _ _ he)
      rwa [Int.add_zero] at this
    · rw [Bool.eq_false_iff.mpr he]
      exact J5 (.inr (by rw [u2, ea, eb]; exact use2_not _ _ _ _ he))
  have J3f : c ≠ 105 ∨ (useC c (a.drop i) (b.drop j)).2.2.2 = false → EvP (fun k => spec_EditSum.j3 k a b t (i : Int) (j : Int) n (p : Int) B false) Q := by
    intro h
    refine EvP.succ ?_
    simp only [spec_EditSum.j3, hc]
    refine EvP.no (by decide) (EvP.yes hp0 (EvP.yes hp1 (EvP.ite (fun h4 => ?_) (fun h4 => J4f ?_))))
    · have u3 : useC c (a.drop i) (b.drop j) = use3 (a.drop i) (b.drop j) := by rw [h4]; rfl
      by_cases h0 : i < a.length
      · rw [decide_eq_true (iA h0).2]
        refine EvP.succ ?_
        simp only [spec_EditSum.j4]
        refine EvP.yes trivial ?_
        rw [w1.out, w2.out, w3.out]
        exact next 1 0 2 (by rw [u3]; exact use3_true _ _ (by omega))
      · rw [decide_eq_false (by omega)]
        exact J4f (.inr (.inr (by rw [u3]; exact use3_false _ _ (by omega))))
    · by_cases c2 : c = 107
      · exact .inl c2
      by_cases c4 : c = 114
      · exact .inr (.inl c4)
      rcases h with h | h
      · exact .inr (.inr (by unfold useC; rw [if_neg h, if_neg c2, if_neg h4, if_neg c4]))
      · exact .inr (.inr h)
  refine EvP.succ ?_
  simp only [spec_EditSum.j2, hc]
  refine EvP.yes hp0 (EvP.yes hp1 (EvP.ite (fun h4 => ?_) (fun h4 => J3f (.inl h4))))
  have u1 : useC c (a.drop i) (b.drop j) = use1 (a.drop i) (b.drop j) := by rw [h4]; rfl
  by_cases h0 : j < b.length
  · rw [decide_eq_true (jA h0).2]
    refine EvP.succ ?_
    simp only [spec_EditSum.j3]
    refine EvP.yes trivial ?_
    rw [w1.out, w2.out, w4.out]
    exact next 0 1 2 (by rw [u1]; exact use1_true _ _ (by omega))
  · rw [decide_eq_false (by omega)]
    exact J3f (.inr (by rw [u1]; exact use1_false _ _ (by omega)))
theorem spec_text : ∀ d p : Nat, p + d = t.size → ∀ (i j : Nat) (n : Int), i ≤ a.length → j ≤ b.length → 0 ≤ n → n ≤ 3 * (p : Int) → EvP (fun k => spec_EditSum.l0 k a b t (i : Int) (j : Int) n (p : Int)) (· = ans (sumT t d p (a.drop i) (b.drop j) n)) := by
  intro d
  induction d with
  | zero =>
    intro p hp i j n hi hj n0 n1
    refine EvP.succ ?_
    simp only [spec_EditSum.l0]
    refine EvP.no (by omega) (EvP.ite (fun h => EvP.ret ?_) (fun h => EvP.ite (fun h2 => EvP.ret ?_) (fun h2 => EvP.ret ?_)))
    · have : ¬ a.length - i = 0 := by omega
      simp [sumT, ans, this]
    · have : ¬ b.length - j = 0 := by omega
      simp [sumT, ans, this]
    · have h3 : a.length - i = 0 := by omega
      have h4 : b.length - j = 0 := by omega
      simp [sumT, ans, h3, h4]
  | succ d ih =>
    intro p hp i j n hi hj n0 n1
    refine EvP.succ ?_
    simp only [spec_EditSum.l0]
    refine EvP.yes (by omega) ?_
    have st := spec_letter t ht a b ha hb d p hp i j hi hj n n0 n1 (· = ans (sumT t (d + 1) p (a.drop i) (b.drop j) n)) (fun x y c h => ?_) (fun h => ?_)
    · refine EvP.ite (fun h => ?_) (fun h => ?_)
      · have : i < a.length := by omega
        refine st _ ?_
        by_cases h2 : j < b.length <;> simp [this, h2]
      · have : ¬ i < a.length := by omega
        refine st _ ?_
        simp [this]
    · rw [sumT_go h, List.drop_drop, List.drop_drop]
      have la : (a.drop i).length = a.length - i := List.length_drop
      have lb : (b.drop j).length = b.length - j := List.length_drop
      rcases useC_ways (bt t (p : Int)) (a.drop i) (b.drop j) with g | ⟨x', y', c', g, hx, hy, c0, c3⟩
      · rw [h] at g; exact absurd g (by simp)
      · rw [h] at g
        simp only [Prod.mk.injEq] at g
        obtain ⟨g1, g2, g3, _⟩ := g
        exact ih (p + 1) (by omega) (i + x) (j + y) (n + c) (by omega) (by omega) (by omega) (by omega)
    · rw [sumT_end h]; rfl
end
def sumOf (a b : List Tn) (t : ByteArray) : Int × Bool := if okM a = true ∧ okM b = true then sumT t t.size 0 a b 0 else (0, false)
theorem okM_long {a : List Tn} (h : okM a = true) : a.length ≤ 24 := by
  unfold okM at h
  rw [Bool.and_eq_true] at h
  exact of_decide_eq_true h.2
theorem spec_sum (a b : List Tn) (t : ByteArray) (ht : t.size ≤ 1048576) (ha : a.length < 9223372036854775807) (hb : b.length < 9223372036854775807) : EvP (fun k => spec_EditSum.f k a b t) (· = ans (sumOf a b t)) := by
  unfold spec_EditSum.f sumOf
  have jt : ∀ v : Int, v = -1 → EvP (fun k => spec_EditSum.j0 k a b t true) (· = v) := by
    intro v hv
    refine EvP.succ ?_
    simp only [spec_EditSum.j0]
    exact EvP.yes (by simp) (EvP.ret hv.symm)
  refine EvP.bind (P := (· = okM a)) (spec_melody a ha) (fun _ e => ?_)
  subst e
  refine EvP.ite (fun h1 => ?_) (fun h1 => jt _ (by rw [if_neg (fun h => h1 h.1)]; rfl))
  refine EvP.bind (P := (· = okM b)) (spec_melody b hb) (fun _ e => ?_)
  subst e
  by_cases h2 : okM b = true
  · rw [if_pos ⟨h1, h2⟩, h2]
    refine EvP.succ ?_
    simp only [spec_EditSum.j0, Bool.not_true]
    refine EvP.no (by simp) ?_
    exact spec_text t ht a b (okM_long h1) (okM_long h2) t.size 0 (by omega) 0 0 0 (by omega) (by omega) (by omega) (by omega)
  · rw [Bool.eq_false_iff.mpr h2]
    exact jt _ (by rw [if_neg (fun h => Bool.noConfusion h.2)]; rfl)
theorem impl_asum (a b : List Tn) (t : ByteArray) (ht : t.size ≤ 1048576) : EvP (fun k => impl_alignmentSum.f k a b t) (· = sumOf a b t) := by
  unfold impl_alignmentSum.f sumOf
  have jt : ∀ v : Int × Bool, v = (0, false) → EvP (fun k => impl_alignmentSum.j0 k a b t true) (· = v) := by
    intro v hv
    refine EvP.succ ?_
    simp only [impl_alignmentSum.j0]
    exact EvP.yes (by simp) (EvP.ret hv.symm)
  refine EvP.bind (P := (· = okM a)) (impl_melody a) (fun _ e => ?_)
  subst e
  refine EvP.ite (fun h1 => ?_) (fun h1 => jt _ (by rw [if_neg (fun h => h1 h.1)]))
  refine EvP.bind (P := (· = okM b)) (impl_melody b) (fun _ e => ?_)
  subst e
  by_cases h2 : okM b = true
  · rw [if_pos ⟨h1, h2⟩, h2]
    refine EvP.succ ?_
    simp only [impl_alignmentSum.j0, Bool.not_true]
    refine EvP.no (by simp) ?_
    exact impl_text t ht t.size 0 (by omega) a b 0 (by omega) (by omega)
  · rw [Bool.eq_false_iff.mpr h2]
    exact jt _ (by rw [if_neg (fun h => Bool.noConfusion h.2)])
end Go.Proofs.Ythpeiboobnnfgaa.Pur
end
