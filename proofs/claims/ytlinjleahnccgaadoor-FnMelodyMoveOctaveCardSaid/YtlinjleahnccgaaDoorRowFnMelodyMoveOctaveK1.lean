/- Texts of this claim, joined by a program of this session's (wip/tools/pack.py). -/
import Derived.Test.YtlinjleahnccgaaDoorRowFnMelodyMoveOctaveK0
section
namespace Go.Proofs.YtlinjleahnccgaaDoor.E
open Go.RowKit Go.Proofs.YtlinjleahnccgaaDoorW.PrintWords Go.Proofs.YtlinjleahnccgaaDoorW.PrintLast Go.Proofs.YtlinjleahnccgaaDoorW.PrintMore
attribute [local go_sem] max2_int min2_int max_two min_two max_three min_three max_four min_four
set_option linter.unusedVariables false
set_option linter.unusedSimpArgs false
attribute [local go_sem] str_leq_ str_gtr_ str_geq_
def spec_DrawMelodyMove.f (k : Nat) (l0 : List Int) : Option ((List (S25)) × Int) := (spec_l6Open.f l0).bind fun bt395 => ((spec_l91Melody.f k bt395.1 bt395.2 5).bind fun bt398 => ((spec_l6Rd_pick.f k bt395.1 bt398.2 20).bind fun bt402 => (if bt402.1 = 0 then ((some (([9223372036854775807, (-9223372036854775808), 0] : List Int) : List Int)).bind fun y404 => ((spec_l6Rd_pick.f k bt395.1 bt402.2 3).bind fun bt407 => (if 0 ≤ bt407.1 then (if bt407.1 < (y404.length : Int) then (some (bt398.1, rd y404 bt407.1)) else (none)) else (none)))) else ((some (([(-7), (-4), (-3), 0, 3, 4, 7, 1, (-1), 2] : List Int) : List Int)).bind fun y410 => ((spec_l6Rd_pick.f k bt395.1 bt402.2 10).bind fun bt413 => (if 0 ≤ bt413.1 then (if bt413.1 < (y410.length : Int) then (some (bt398.1, rd y410 bt413.1)) else (none)) else (none)))))))
def spec_DrawMelodyMove.T4 : Bool × List (List Nat × List Nat) := (true, [([], []), ([], []), ([], []), ([2], [2]), ([1, 3], [1, 3]), ([4], [4]), ([0, 3, 0], [0]), ([5, 6, 0, 1, 2, 3, 4, 5, 6], [5])])
def spec_DrawMelodyMove.B4 : List Nat := [0, 0, 0, 4, 14, 30, 13, 127]
theorem spec_DrawMelodyMove.tab4 : rtab .any (opsOf Tryd.f32 4) = spec_DrawMelodyMove.T4 := by kernel_rfl
theorem spec_DrawMelodyMove.bits4 : waitsOk spec_DrawMelodyMove.T4.2 spec_DrawMelodyMove.B4 = true := by kernel_rfl
def spec_DrawMelodyMove.T5 : Bool × List (List Nat × List Nat) := (true, [([], []), ([], []), ([], []), ([2], [2]), ([1, 3], [1, 3]), ([4], [4]), ([0, 3, 0], [0]), ([5, 6, 0, 1, 2, 3, 4, 5, 6], [5])])
def spec_DrawMelodyMove.B5 : List Nat := [0, 0, 0, 4, 14, 30, 13, 127]
theorem spec_DrawMelodyMove.tab5 : rtab .any (opsOf Tryd.f32 5) = spec_DrawMelodyMove.T5 := by kernel_rfl
theorem spec_DrawMelodyMove.bits5 : waitsOk spec_DrawMelodyMove.T5.2 spec_DrawMelodyMove.B5 = true := by kernel_rfl
set_option maxHeartbeats 8000000 in
set_option maxRecDepth 100000 in
theorem spec_DrawMelodyMove.calls (k : Nat) (A0 : Option Addr) (c0 : Nat) (l0 : List Int) (r1 : List (S25)) (r2 : Int) (w : World) (hr0 : Kd.C (Kd.int .u8) w A0 l0.length l0) (hc0 : l0.length ≤ c0) (h : spec_DrawMelodyMove.f k l0 = some (r1, r2)) :
  Calls Tryd.prog 32 #[.slice A0 l0.length c0] w fun e w' => ∃ v0_ : Value, e = .returned (.tuple #[v0_, .int .i64 r2]) ∧ Kd.R k25 25 w' w.heap.size (fun _ => True) v0_ r1 ∧ Below w.heap.size w w' := by
 have HR0 := Aside0.mk hr0
 have HC0 := Aside0.mk hc0
 clear hr0 hc0
 have HB := Aside0.mk (Below.refl w.heap.size w)
 have H : ((spec_l6Open.f l0).bind fun bt395 => ((spec_l91Melody.f k bt395.1 bt395.2 5).bind fun bt398 => ((spec_l6Rd_pick.f k bt395.1 bt398.2 20).bind fun bt402 => (if bt402.1 = 0 then ((some (([9223372036854775807, (-9223372036854775808), 0] : List Int) : List Int)).bind fun y404 => ((spec_l6Rd_pick.f k bt395.1 bt402.2 3).bind fun bt407 => (if 0 ≤ bt407.1 then (if bt407.1 < (y404.length : Int) then (some (bt398.1, rd y404 bt407.1)) else (none)) else (none)))) else ((some (([(-7), (-4), (-3), 0, 3, 4, 7, 1, (-1), 2] : List Int) : List Int)).bind fun y410 => ((spec_l6Rd_pick.f k bt395.1 bt402.2 10).bind fun bt413 => (if 0 ≤ bt413.1 then (if bt413.1 < (y410.length : Int) then (some (bt398.1, rd y410 bt413.1)) else (none)) else (none)))))))) = some (r1, r2) := h
 clear h
 replace H := Option.bind_eq_some_iff.mp H
 obtain ⟨⟨t395, t396⟩, A20, H⟩ := H
 replace H : ((spec_l91Melody.f k t395 t396 5).bind fun bt398 => ((spec_l6Rd_pick.f k t395 bt398.2 20).bind fun bt402 => (if bt402.1 = 0 then ((some (([9223372036854775807, (-9223372036854775808), 0] : List Int) : List Int)).bind fun y404 => ((spec_l6Rd_pick.f k t395 bt402.2 3).bind fun bt407 => (if 0 ≤ bt407.1 then (if bt407.1 < (y404.length : Int) then (some (bt398.1, rd y404 bt407.1)) else (none)) else (none)))) else ((some (([(-7), (-4), (-3), 0, 3, 4, 7, 1, (-1), 2] : List Int) : List Int)).bind fun y410 => ((spec_l6Rd_pick.f k t395 bt402.2 10).bind fun bt413 => (if 0 ≤ bt413.1 then (if bt413.1 < (y410.length : Int) then (some (bt398.1, rd y410 bt413.1)) else (none)) else (none))))))) = some (r1, r2) := H
 have A2 := Aside0.mk A20
 clear A20
 replace H := Option.bind_eq_some_iff.mp H
 obtain ⟨⟨t398, t401⟩, A30, H⟩ := H
 replace H : ((spec_l6Rd_pick.f k t395 t401 20).bind fun bt402 => (if bt402.1 = 0 then ((some (([9223372036854775807, (-9223372036854775808), 0] : List Int) : List Int)).bind fun y404 => ((spec_l6Rd_pick.f k t395 bt402.2 3).bind fun bt407 => (if 0 ≤ bt407.1 then (if bt407.1 < (y404.length : Int) then (some (t398, rd y404 bt407.1)) else (none)) else (none)))) else ((some (([(-7), (-4), (-3), 0, 3, 4, 7, 1, (-1), 2] : List Int) : List Int)).bind fun y410 => ((spec_l6Rd_pick.f k t395 bt402.2 10).bind fun bt413 => (if 0 ≤ bt413.1 then (if bt413.1 < (y410.length : Int) then (some (t398, rd y410 bt413.1)) else (none)) else (none)))))) = some (r1, r2) := H
 have A3 := Aside0.mk A30
 clear A30
 replace H := Option.bind_eq_some_iff.mp H
 obtain ⟨⟨t402, t403⟩, A40, H⟩ := H
 replace H : (if t402 = 0 then ((some (([9223372036854775807, (-9223372036854775808), 0] : List Int) : List Int)).bind fun y404 => ((spec_l6Rd_pick.f k t395 t403 3).bind fun bt407 => (if 0 ≤ bt407.1 then (if bt407.1 < (y404.length : Int) then (some (t398, rd y404 bt407.1)) else (none)) else (none)))) else ((some (([(-7), (-4), (-3), 0, 3, 4, 7, 1, (-1), 2] : List Int) : List Int)).bind fun y410 => ((spec_l6Rd_pick.f k t395 t403 10).bind fun bt413 => (if 0 ≤ bt413.1 then (if bt413.1 < (y410.length : Int) then (some (t398, rd y410 bt413.1)) else (none)) else (none))))) = some (r1, r2) := H
 have A4 := Aside0.mk A40
 clear A40
 by_cases c5 : t402 = 0
 rotate_left
 ·rw [if_neg c5] at H
  have c5b0 : (t402 == 0) = false := beq_eq_false_iff_ne.mpr c5
  have c5b1 : (t402 != 0) = true := bne_iff_ne.mpr c5
  obtain ⟨y410, hy410⟩ : ∃ y_ : List Int, y_ = (([(-7), (-4), (-3), 0, 3, 4, 7, 1, (-1), 2] : List Int)) := ⟨_, rfl⟩
  replace H : ((spec_l6Rd_pick.f k t395 t403 10).bind fun bt413 => (if 0 ≤ bt413.1 then (if bt413.1 < (y410.length : Int) then (some (t398, rd y410 bt413.1)) else (none)) else (none))) = some (r1, r2) := by first | (rw [hy410]; with_reducible exact H) | (have H2_ := (Option.bind_some _ _).symm.trans H; rw [hy410]; with_reducible exact H2_) | (have H2_ := (Option.bind_some _ _).symm.trans H; with_reducible exact H2_) | with_reducible exact H | (rw [hy410]; exact H) | exact H
  have Ny410 := Aside0.mk hy410
  clear hy410
  replace H := Option.bind_eq_some_iff.mp H
  obtain ⟨⟨t413, t414⟩, A190, H⟩ := H
  replace H : (if 0 ≤ t413 then (if t413 < (y410.length : Int) then (some (t398, rd y410 t413)) else (none)) else (none)) = some (r1, r2) := H
  have A19 := Aside0.mk A190
  clear A190
  by_cases c20 : 0 ≤ t413
  rotate_left
  ·rw [if_neg c20] at H
   exact absurd H (by simp)
  rw [if_pos c20] at H
  have c20b0 : decide (0 ≤ t413) = true := decide_eq_true c20
  clear c20
  by_cases c21 : t413 < (y410.length : Int)
  rotate_left
  ·rw [if_neg c21] at H
   exact absurd H (by simp)
  rw [if_pos c21] at H
  have c21b0 : decide (t413 < (y410.length : Int)) = true := decide_eq_true c21
  clear c21
  simp only [Option.some.injEq, Prod.mk.injEq] at H
  obtain ⟨rfl, rfl⟩ := H
  go_enter Tryd.func32, Tryd.ntmps32
  try go_wp2_with (first | ((with_reducible refine gate_callee (f := 45) rfl ?_); refine goesL_ (some 7) rfl rfl Tryd.func45 (by kernel_rfl) rfl #[.slice A0 l0.length c0] rfl (by (try simp only [List.map_toArray, List.map_cons, List.map_nil]); first | done | rfl | (simp only [List.length_drop, List.length_take]; rfl)) ?_; (with_reducible refine (spec_l6Open.calls _ _ l0 t395 t396 w _ ?side1 ?side2 ?side3 A2.out).mono ?_); (case side1 => repeat (first | (with_reducible first | exact HB.out | apply below_alloc | apply pw_below_drewN | apply below_drew1) | exact HB.out)); (case side2 => exact HR0.out); (case side3 => exact HC0.out); rintro e w22 ⟨g397, rfl, hi, hb, hb2⟩; refine ⟨_, rfl, ?_⟩; have n0_ := Aside0.mk (hb); have n1_ := Aside0.mk (hi); clear HB; have HB := n0_; have HI397 := n1_; clear n0_ n1_; (try clear hb); (try clear hb2); (try clear hk); (try clear hi)) | ((with_reducible refine gate_callee (f := 54) rfl ?_); refine goesL_ (some 9) rfl rfl Tryd.func54 (by kernel_rfl) rfl #[.pointer (some ⟨g397, 0, none⟩), .int .i64 5] rfl (by (try simp only [List.map_toArray, List.map_cons, List.map_nil]); first | done | rfl | (simp only [List.length_drop, List.length_take]; rfl)) ?_; (with_reducible refine (spec_l91Melody.calls k g397 t395 t396 5 t398 t401 w _ ?side1 ?side2 A3.out).mono ?_); (case side1 => repeat (first | (with_reducible first | exact HI397.out | apply IsS80.alloc | apply IsS80.drewN | apply IsS80.drew | apply IsS80.set_1) | exact HI397.out)); (case side2 => repeat (first | (with_reducible first | exact HB.out | apply below_alloc | apply pw_below_drewN | apply below_drew1 | refine below_set ?_ (IsS80.ge HI397.out)) | exact HB.out)); rintro e w23 ⟨v399, rfl, ho0, hi, hb, hk⟩; refine ⟨_, rfl, ?_⟩; have n0_ := Aside0.mk (Kd.R_lower ho0 (below_size (by repeat (first | (with_reducible first | exact HB.out | apply below_alloc | apply pw_below_drewN | apply below_drew1 | refine below_set ?_ (IsS80.ge HI397.out)) | exact HB.out)))); have n1_ := Aside0.mk (hb); have n2_ := Aside0.mk (hi); clear HB; clear HI397; have HO400 := n0_; have HB := n1_; have HI397 := n2_; clear n0_ n1_ n2_; (try clear hb); (try clear hb2); (try clear hk); (try clear hi); (try clear ho0)) | ((with_reducible refine gate_callee (f := 46) rfl ?_); refine goesL_ (some 11) rfl rfl Tryd.func46 (by kernel_rfl) rfl #[.pointer (some ⟨g397, 0, none⟩), .int .i64 20] rfl (by (try simp only [List.map_toArray, List.map_cons, List.map_nil]); first | done | rfl | (simp only [List.length_drop, List.length_take]; rfl)) ?_; (with_reducible refine (spec_l6Rd_pick.calls k g397 t395 t401 20 t402 t403 w _ ?side1 ?side2 A4.out).mono ?_); (case side1 => repeat (first | (with_reducible first | exact HI397.out | apply IsS80.alloc | apply IsS80.drewN | apply IsS80.drew | apply IsS80.set_1) | exact HI397.out)); (case side2 => repeat (first | (with_reducible first | exact HB.out | apply below_alloc | apply pw_below_drewN | apply below_drew1 | refine below_set ?_ (IsS80.ge HI397.out)) | exact HB.out)); rintro e w24 ⟨rfl, hi, hb, hk⟩; refine ⟨_, rfl, ?_⟩; have n0_ := Aside0.mk (Kd.R_mono (Kd.R_keep (IsS80.apart (show IsS80 w _ g397 t395 t401 from by repeat (first | (with_reducible first | exact HI397.out | apply IsS80.alloc | apply IsS80.drewN | apply IsS80.drew | apply IsS80.set_1) | exact HI397.out)) (by (with_reducible repeat (first | apply Kd.R_alloc | apply Kd.R_drewN | apply Kd.R_drew)); exact HO400.out) (by decide)) hk (fun _ h => h.2)) (fun _ h => h.1)); have n1_ := Aside0.mk (hb); have n2_ := Aside0.mk (hi); clear HO400; clear HB; clear HI397; have HO400 := n0_; have HB := n1_; have HI397 := n2_; clear n0_ n1_ n2_; (try clear hb); (try clear hb2); (try clear hk); (try clear hi)))
  have pi415 : (0 ≤ (t413 : Int)) = True := eq_true (of_decide_eq_true (by first | (with_reducible assumption) | assumption))
  have qi415 : (t413 < (y410.length : Int)) = True := eq_true (of_decide_eq_true (by first | (with_reducible assumption) | assumption))
  have n0_ := Aside0.mk (Kd.R_drew HO400.out)
  have n1_ := Aside0.mk (IsS80.drew HI397.out)
  have n2_ := Aside0.mk (below_drew1 HB.out)
  clear HO400
  clear HI397
  clear HB
  have HO400 := n0_
  have HI397 := n1_
  have HB := n2_
  clear n0_ n1_ n2_
  refine start_ (n := 8) (S := fun w' => True) (ds := []) #[false, false, false, false, false, false, false, false] (by kernel_rfl) rfl rfl trivial (fun hHeld => ?_); refine with_tabW spec_DrawMelodyMove.tab5 spec_DrawMelodyMove.bits5 (fun HT_ HW_ => ?_)
  generalize w24.drew = w25 at HO400 HI397 HB hHeld ⊢
  refine pure_ (i := 0) (N := some 19) (v := ?_) (a' := ?_) #[true, false, false, false, false, false, false, false] rfl rfl (any_of HT_.out (by kernel_rfl)) (fun _ _ _ h => h) (Or.inl ⟨by rfl, ?_⟩) ?_ ?_
  rotate_left
  ·intro w'
   go_simp
   with_reducible rfl
  rotate_left
  ·simp only [Act.put, List.setIfInBounds_toArray, List.set_cons_zero, List.set_cons_succ, i64_w, i32_w]
   rfl
  refine pure_ (i := 2) (N := some 21) (v := ?_) (a' := ?_) #[true, false, true, false, false, false, false, false] rfl rfl (any_of HT_.out (by kernel_rfl)) (fun _ _ _ h => h) (Or.inl ⟨by rfl, ?_⟩) ?_ ?_
  rotate_left
  ·intro w'
   go_simp
   with_reducible rfl
  rotate_left
  ·simp only [Act.put, List.setIfInBounds_toArray, List.set_cons_zero, List.set_cons_succ, i64_w, i32_w]
   rfl
  refine inv_at [1, 3, 4, 5, 6, 7] (fun a0_ b a w' => ∃ (v411 : Value) (adz_v411 : Addr) (m4_ : Value), a = putSel a0_ b [(1, 20, v411), (3, 22, .int .i64 t413), (4, 23, m4_), (5, 24, .int .i64 (rd y410 t413)), (6, 2, v399), (7, 3, .int .i64 (rd y410 t413))] ∧ (Kd.R k25 25 w' w.heap.size (fun _ => True) v399 t398) ∧ (b 3 = false → IsS80 w w' g397 t395 t403) ∧ (Below w.heap.size w w') ∧ (b 1 = true → Kd.R (Kd.int .i64) 3 w' w.heap.size (fun _ => True) v411 y410) ∧ (b 1 = true → ∃ c_, (v411 : Value) = .slice (some adz_v411) y410.length c_) ∧ (b 3 = true → IsS80 w w' g397 t395 t414) ∧ (b 4 = true → (m4_ : Value) = .pointer (some (adz_v411.add (t413).toNat)))) HT_.out HW_.out (by kernel_rfl) (by kernel_rfl) ?_ ?_ ?_
  ·exact ⟨.bool false, ⟨0, 0, none⟩, .bool false, by simp only [putSel, Bool.false_eq_true, if_false], HO400.out, fun _ => HI397.out, HB.out, fun h_ => absurd h_ (by decide), fun h_ => absurd h_ (by decide), fun h_ => absurd h_ (by decide), fun h_ => absurd h_ (by decide)⟩
  ·skip
   clear HB HI397 HO400
   refine steps_cons ?_ ?_
   ·rintro b a w' ⟨v411, adz_v411, m4_, ha, Q_HO400, Q_HI397, Q_HB, Q_HO412, Q_HA_HO412, Q_HI397_e3, Q_X4_⟩ hb_ hon hoff
    refine ⟨_, rfl, fun K hK => ?_⟩
    replace ha := Aside0.mk ha
    have HO400 := Aside0.mk Q_HO400
    have HB := Aside0.mk Q_HB
    refine Kd.R_lit_step (Kd.int .i64) _ 3 ?hg (N := 20) ?hd (xs := ([(-7), (-4), (-3), 0, 3, 4, 7, 1, (-1), 2] : List Int)) (inner := [.int .i64 (-7), .int .i64 (-4), .int .i64 (-3), .int .i64 0, .int .i64 3, .int .i64 4, .int .i64 7, .int .i64 1, .int .i64 (-1), .int .i64 2]) (ok := fun _ => True) (okp := fun _ => True) ?hr ?hp (fun _ hk => hk) trivial (Below.refl _ _) (Nat.le_refl _) (by simp) ?_; (case hd => rfl); (case hg => rfl); (case hr => first | (go_simp; done) | (go_simp; rfl)); (case hp => exact (Reps.one (show Kd.M (Kd.int .i64) _ _ _ (-7) [.int .i64 (-7)] from rfl) (Reps.one (show Kd.M (Kd.int .i64) _ _ _ (-4) [.int .i64 (-4)] from rfl) (Reps.one (show Kd.M (Kd.int .i64) _ _ _ (-3) [.int .i64 (-3)] from rfl) (Reps.one (show Kd.M (Kd.int .i64) _ _ _ 0 [.int .i64 0] from rfl) (Reps.one (show Kd.M (Kd.int .i64) _ _ _ 3 [.int .i64 3] from rfl) (Reps.one (show Kd.M (Kd.int .i64) _ _ _ 4 [.int .i64 4] from rfl) (Reps.one (show Kd.M (Kd.int .i64) _ _ _ 7 [.int .i64 7] from rfl) (Reps.one (show Kd.M (Kd.int .i64) _ _ _ 1 [.int .i64 1] from rfl) (Reps.one (show Kd.M (Kd.int .i64) _ _ _ (-1) [.int .i64 (-1)] from rfl) (Reps.one (show Kd.M (Kd.int .i64) _ _ _ 2 [.int .i64 2] from rfl) (Reps.none _ _))))))))))))
    intro v411 w26 ho27 hb hg_ hnew_
    clear hg_ hnew_
    (first | rw [← Ny410.out] at ho27 | (simp only [Int.reduceToNat] at ho27; rw [← Ny410.out] at ho27))
    have n0_ := Aside0.mk (Kd.R_below (by (with_reducible repeat (first | apply Kd.R_alloc | apply Kd.R_drewN | apply Kd.R_drew)); exact HO400.out) hb)
    have n1_ := Aside0.mk (Kd.R_lower ho27 (below_size (by repeat (first | (with_reducible first | exact HB.out | apply below_alloc | apply pw_below_drewN | apply below_drew1) | exact HB.out))))
    have n3_ := Aside0.mk (below_step (by repeat (first | (with_reducible first | exact HB.out | apply below_alloc | apply pw_below_drewN | apply below_drew1) | exact HB.out)) hb)
    have z_HI397 := fun (h0_ : b 3 = false) => (show IsS80 w w26 g397 t395 t403 from by first | exact (IsS80.below (by repeat (first | (with_reducible first | exact (Q_HI397 h0_) | apply IsS80.alloc | apply IsS80.drewN | apply IsS80.drew | apply IsS80.set_1) | exact (Q_HI397 h0_))) hb))
    have z_HI397_e3 := fun (h0_ : b 3 = true) => (show IsS80 w w26 g397 t395 t414 from by first | exact (IsS80.below (by repeat (first | (with_reducible first | exact (Q_HI397_e3 h0_) | apply IsS80.alloc | apply IsS80.drewN | apply IsS80.drew | apply IsS80.set_1) | exact (Q_HI397_e3 h0_))) hb))
    clear HO400
    clear HB
    have HO400 := n0_
    have HO412 := n1_
    have HB := n3_
    clear n0_ n1_ n3_
    clear hb ho27
    obtain ⟨Ao28, co28, eo28⟩ := Kd.R_slice HO412.out
    subst eo28
    obtain ⟨ado28, fo28, _⟩ := Kd.at_int (Kd.R_reads' HO412.out).2.2 0 (by decide) (by rw [Ny410.out]; simp)
    cases fo28
    refine hK.out _ _ ⟨.slice (some ado28) y410.length co28, ado28, m4_, (by rw [ha.out]; exact putSel_upk 0 hb_ rfl rfl rfl), (by (with_reducible repeat (first | apply Kd.R_alloc | apply Kd.R_drewN | apply Kd.R_drew)); exact HO400.out), z_HI397, (by repeat (first | (with_reducible first | exact HB.out | apply below_alloc | apply pw_below_drewN | apply below_drew1) | exact HB.out)), fun _ => (by (with_reducible repeat (first | apply Kd.R_alloc | apply Kd.R_drewN | apply Kd.R_drew)); exact HO412.out), fun _ => ⟨_, rfl⟩, z_HI397_e3, fun h0_ => absurd ((hoff 4 (by kernel_rfl)).symm.trans h0_) (by decide)⟩
   refine steps_cons ?_ ?_
   ·rintro b a w' ⟨v411, adz_v411, m4_, ha, Q_HO400, Q_HI397, Q_HB, Q_HO412, Q_HA_HO412, Q_HI397_e3, Q_X4_⟩ hb_ hon hoff
    refine ⟨_, rfl, fun K hK => ?_⟩
    have e21 : a.tmps[21]? = some (.pointer (some ⟨g397, 0, none⟩)) := by rw [ha]; exact (putSel_off rfl).trans rfl
    replace ha := Aside0.mk ha
    have HO400 := Aside0.mk Q_HO400
    have HI397 := Aside0.mk (Q_HI397 hb_)
    have HB := Aside0.mk Q_HB
    refine goes_ Tryd.func46 (by kernel_rfl) rfl #[.pointer (some ⟨g397, 0, none⟩), .int .i64 10] (by rfl) rfl rfl (by first | (simp only [List.map_toArray, List.map_cons, List.map_nil, Act.eval, Array.getD_eq_getD_getElem?, Option.getD_some, e21]; done) | (simp only [List.map_toArray, List.map_cons, List.map_nil, Act.eval, Array.getD_eq_getD_getElem?, Option.getD_some, e21]; rfl)) ?_
    with_reducible refine (spec_l6Rd_pick.calls k g397 t395 t403 10 t413 t414 w _ ?side1 ?side2 A19.out).mono ?_
    (case side1 => repeat (first | (with_reducible first | exact HI397.out | apply IsS80.alloc | apply IsS80.drewN | apply IsS80.drew | apply IsS80.set_1) | exact HI397.out))
    (case side2 => repeat (first | (with_reducible first | exact HB.out | apply below_alloc | apply pw_below_drewN | apply below_drew1 | refine below_set ?_ (IsS80.ge HI397.out)) | exact HB.out))
    rintro e w26 ⟨rfl, hi, hb, hk⟩
    refine ⟨_, rfl, ?_⟩
    have n0_ := Aside0.mk (Kd.R_mono (Kd.R_keep (IsS80.apart (show IsS80 w _ g397 t395 t403 from by repeat (first | (with_reducible first | exact HI397.out | apply IsS80.alloc | apply IsS80.drewN | apply IsS80.drew | apply IsS80.set_1) | exact HI397.out)) (by (with_reducible repeat (first | apply Kd.R_alloc | apply Kd.R_drewN | apply Kd.R_drew)); exact HO400.out) (by decide)) hk (fun _ h => h.2)) (fun _ h => h.1))
    have n1_ := Aside0.mk (hb)
    have n2_ := Aside0.mk (hi)
    have z_HO412 := fun (h0_ : b 1 = true) => (show Kd.R (Kd.int .i64) 3 w26 w.heap.size (fun _ => True) v411 y410 from by first | exact (Kd.R_mono (Kd.R_keep (IsS80.apart (show IsS80 w _ g397 t395 t403 from by repeat (first | (with_reducible first | exact HI397.out | apply IsS80.alloc | apply IsS80.drewN | apply IsS80.drew | apply IsS80.set_1) | exact HI397.out)) (by (with_reducible repeat (first | apply Kd.R_alloc | apply Kd.R_drewN | apply Kd.R_drew)); exact (Q_HO412 h0_)) (by decide)) hk (fun _ h => h.2)) (fun _ h => h.1)) | exact Kd.R_mono (Kd.R_mono (Kd.R_keep (IsS80.apart (show IsS80 w _ g397 t395 t403 from by repeat (first | (with_reducible first | exact HI397.out | apply IsS80.alloc | apply IsS80.drewN | apply IsS80.drew | apply IsS80.set_1) | exact HI397.out)) (by (with_reducible repeat (first | apply Kd.R_alloc | apply Kd.R_drewN | apply Kd.R_drew)); exact (Q_HO412 h0_)) (by decide)) hk (fun _ h => h.2)) (fun _ h => h.1)) (fun _ h_ => by first | trivial | exact h_ | exact h_.1))
    clear HO400
    clear HB
    clear HI397
    have HO400 := n0_
    have HB := n1_
    have HI397 := n2_
    clear n0_ n1_ n2_
    (try clear hb)
    (try clear hb2)
    (try clear hk)
    (try clear hi)
    refine hK.out _ _ ⟨v411, adz_v411, m4_, (by rw [ha.out]; exact putSel_upk 1 hb_ rfl rfl rfl), (by (with_reducible repeat (first | apply Kd.R_alloc | apply Kd.R_drewN | apply Kd.R_drew)); exact HO400.out), fun h0_ => absurd ((up_self b 3).symm.trans h0_) (by decide), (by repeat (first | (with_reducible first | exact HB.out | apply below_alloc | apply pw_below_drewN | apply below_drew1 | refine below_set ?_ (IsS80.ge HI397.out)) | exact HB.out)), z_HO412, Q_HA_HO412, fun _ => (by repeat (first | (with_reducible first | exact HI397.out | apply IsS80.alloc | apply IsS80.drewN | apply IsS80.drew | apply IsS80.set_1) | exact HI397.out)), fun h0_ => absurd ((hoff 4 (by kernel_rfl)).symm.trans h0_) (by decide)⟩
   refine steps_cons ?_ ?_
   ·rintro b a w' ⟨v411, adz_v411, m4_, ha, Q_HO400, Q_HI397, Q_HB, Q_HO412, Q_HA_HO412, Q_HI397_e3, Q_X4_⟩ hb_ hon hoff
    refine ⟨_, rfl, fun K hK => ?_⟩
    have e20 : a.tmps[20]? = some (v411) := by rw [ha]; exact putSel_on (e := (1, 20, v411)) 0 rfl rfl (hon 1 (by kernel_rfl)) rfl
    have e22 : a.tmps[22]? = some (.int .i64 t413) := by rw [ha]; exact putSel_on (e := (3, 22, .int .i64 t413)) 1 rfl rfl (hon 3 (by kernel_rfl)) rfl
    replace ha := Aside0.mk ha
    have HO400 := Aside0.mk Q_HO400
    have HB := Aside0.mk Q_HB
    have HO412 := Aside0.mk (Q_HO412 (hon 1 (by kernel_rfl)))
    have HA_HO412 := Aside0.mk (Q_HA_HO412 (hon 1 (by kernel_rfl)))
    have HI397 := Aside0.mk (Q_HI397_e3 (hon 3 (by kernel_rfl)))
    obtain ⟨c_, hv_⟩ := HA_HO412.out
    rw [hv_] at e20
    refine value_ (w1 := w') (v := .pointer (some (adz_v411.add (t413).toNat))) (by rfl) rfl ?_ ?_
    ·go_simp
     (try simp only [i64_w])
     try rfl
    refine hK.out _ _ ⟨v411, adz_v411, (.pointer (some (adz_v411.add (t413).toNat))), (by rw [ha.out]; exact putSel_upk 2 hb_ rfl rfl rfl), Q_HO400, fun h0_ => absurd ((hon 3 (by kernel_rfl)).symm.trans h0_) (by decide), Q_HB, Q_HO412, Q_HA_HO412, Q_HI397_e3, fun _ => rfl⟩
   refine steps_cons ?_ ?_
   ·rintro b a w' ⟨v411, adz_v411, m4_, ha, Q_HO400, Q_HI397, Q_HB, Q_HO412, Q_HA_HO412, Q_HI397_e3, Q_X4_⟩ hb_ hon hoff
    refine ⟨_, rfl, fun K hK => ?_⟩
    have e23 : a.tmps[23]? = some (m4_) := by rw [ha]; exact putSel_on (e := (4, 23, m4_)) 2 rfl rfl (hon 4 (by kernel_rfl)) rfl
    rw [Q_X4_ (hon 4 (by kernel_rfl))] at e23
    replace ha := Aside0.mk ha
    have HO400 := Aside0.mk Q_HO400
    have HB := Aside0.mk Q_HB
    have HO412 := Aside0.mk (Q_HO412 (hon 1 (by kernel_rfl)))
    have HA_HO412 := Aside0.mk (Q_HA_HO412 (hon 1 (by kernel_rfl)))
    have HI397 := Aside0.mk (Q_HI397_e3 (hon 3 (by kernel_rfl)))
    obtain ⟨c_, hv_⟩ := HA_HO412.out
    have hF_ := HO412.out
    rw [hv_] at hF_
    obtain ⟨ad_, ea_, hx_⟩ := Kd.at_int (Kd.R_reads' hF_).2.2 t413 (of_eq_true pi415) (of_eq_true qi415)
    cases ea_
    refine value_ (w1 := w') (v := .int .i64 (rd y410 t413)) (by rfl) rfl ?_ ?_
    ·go_simp
     (try simp only [i64_w])
     try rfl
    refine hK.out _ _ ⟨v411, adz_v411, m4_, (by rw [ha.out]; exact putSel_upk 3 hb_ rfl rfl rfl), Q_HO400, fun h0_ => absurd ((hon 3 (by kernel_rfl)).symm.trans h0_) (by decide), Q_HB, Q_HO412, Q_HA_HO412, Q_HI397_e3, Q_X4_⟩
   refine steps_cons ?_ ?_
   ·rintro b a w' ⟨v411, adz_v411, m4_, ha, Q_HO400, Q_HI397, Q_HB, Q_HO412, Q_HA_HO412, Q_HI397_e3, Q_X4_⟩ hb_ hon hoff
    refine ⟨_, rfl, fun K hK => ?_⟩
    have e19 : a.tmps[19]? = some (v399) := by rw [ha]; exact (putSel_off rfl).trans rfl
    replace ha := Aside0.mk ha
    have HO400 := Aside0.mk Q_HO400
    have HB := Aside0.mk Q_HB
    have HI397 := Aside0.mk (Q_HI397_e3 (hon 3 (by kernel_rfl)))
    refine value_ (w1 := w') (v := v399) (by rfl) rfl ?_ ?_
    ·go_simp
     (try simp only [i64_w])
     try rfl
    refine hK.out _ _ ⟨v411, adz_v411, m4_, (by rw [ha.out]; exact putSel_upk 4 hb_ rfl rfl rfl), Q_HO400, fun h0_ => absurd ((hon 3 (by kernel_rfl)).symm.trans h0_) (by decide), Q_HB, Q_HO412, Q_HA_HO412, Q_HI397_e3, Q_X4_⟩
   refine steps_cons ?_ ?_
   ·rintro b a w' ⟨v411, adz_v411, m4_, ha, Q_HO400, Q_HI397, Q_HB, Q_HO412, Q_HA_HO412, Q_HI397_e3, Q_X4_⟩ hb_ hon hoff
    refine ⟨_, rfl, fun K hK => ?_⟩
    have e24 : a.tmps[24]? = some (.int .i64 (rd y410 t413)) := by rw [ha]; exact putSel_on (e := (5, 24, .int .i64 (rd y410 t413))) 3 rfl rfl (hon 5 (by kernel_rfl)) rfl
    replace ha := Aside0.mk ha
    have HO400 := Aside0.mk Q_HO400
    have HB := Aside0.mk Q_HB
    have HO412 := Aside0.mk (Q_HO412 (hon 1 (by kernel_rfl)))
    have HA_HO412 := Aside0.mk (Q_HA_HO412 (hon 1 (by kernel_rfl)))
    have HI397 := Aside0.mk (Q_HI397_e3 (hon 3 (by kernel_rfl)))
    refine value_ (w1 := w') (v := .int .i64 (rd y410 t413)) (by rfl) rfl ?_ ?_
    ·go_simp
     (try simp only [i64_w])
     try rfl
    refine hK.out _ _ ⟨v411, adz_v411, m4_, (by rw [ha.out]; exact putSel_upk 5 hb_ rfl rfl rfl), Q_HO400, fun h0_ => absurd ((hon 3 (by kernel_rfl)).symm.trans h0_) (by decide), Q_HB, Q_HO412, Q_HA_HO412, Q_HI397_e3, Q_X4_⟩
   exact steps_nil
  rintro b a w30 hall ⟨v411, adz_v411, m4_, ha, Q_HO400, Q_HI397, Q_HB, Q_HO412, Q_HA_HO412, Q_HI397_e3, Q_X4_⟩
  clear HB HI397 HO400
  have hb1_ := hall 1 (by kernel_rfl)
  have hb3_ := hall 3 (by kernel_rfl)
  have hb4_ := hall 4 (by kernel_rfl)
  have hb5_ := hall 5 (by kernel_rfl)
  have hb6_ := hall 6 (by kernel_rfl)
  have hb7_ := hall 7 (by kernel_rfl)
  subst ha
  obtain rfl := Q_X4_ hb4_
  simp only [putSel, hb1_, hb3_, hb4_, hb5_, hb6_, hb7_, if_true, Act.put, List.setIfInBounds_toArray, List.set_cons_zero, List.set_cons_succ]
  have HO400 := Aside0.mk Q_HO400
  clear Q_HO400
  clear Q_HI397
  have HB := Aside0.mk Q_HB
  clear Q_HB
  have HO412 := Aside0.mk (Q_HO412 hb1_)
  clear Q_HO412
  have HA_HO412 := Aside0.mk (Q_HA_HO412 hb1_)
  clear Q_HA_HO412
  have HI397 := Aside0.mk (Q_HI397_e3 hb3_)
  clear Q_HI397_e3
  clear hall hb1_ hb3_ hb4_ hb5_ hb6_ hb7_
  obtain ⟨co31, eo31⟩ := HA_HO412.out
  clear HA_HO412
  subst eo31
  try go_wp2
  go_ret2
  exact ⟨_, by first | rfl | (simp [errW_none, errW_some] <;> rfl) | (simp [*, errW_none, errW_some] <;> rfl), by (with_reducible repeat (first | apply Kd.R_alloc | apply Kd.R_drewN | apply Kd.R_drew)); exact HO400.out, by repeat (first | (with_reducible first | exact HB.out | apply below_alloc | apply pw_below_drewN | apply below_drew1 | refine below_set ?_ (IsS80.ge HI397.out)) | exact HB.out)⟩
 rw [if_pos c5] at H
 have c5b0 : (t402 == 0) = true := beq_iff_eq.mpr c5
 have c5b1 : (t402 != 0) = false := bne_eq_false_iff_eq.mpr c5
 clear c5
 obtain ⟨y404, hy404⟩ : ∃ y_ : List Int, y_ = (([9223372036854775807, (-9223372036854775808), 0] : List Int)) := ⟨_, rfl⟩
 replace H : ((spec_l6Rd_pick.f k t395 t403 3).bind fun bt407 => (if 0 ≤ bt407.1 then (if bt407.1 < (y404.length : Int) then (some (t398, rd y404 bt407.1)) else (none)) else (none))) = some (r1, r2) := by first | (rw [hy404]; with_reducible exact H) | (have H2_ := (Option.bind_some _ _).symm.trans H; rw [hy404]; with_reducible exact H2_) | (have H2_ := (Option.bind_some _ _).symm.trans H; with_reducible exact H2_) | with_reducible exact H | (rw [hy404]; exact H) | exact H
 have Ny404 := Aside0.mk hy404
 clear hy404
 replace H := Option.bind_eq_some_iff.mp H
 obtain ⟨⟨t407, t408⟩, A60, H⟩ := H
 replace H : (if 0 ≤ t407 then (if t407 < (y404.length : Int) then (some (t398, rd y404 t407)) else (none)) else (none)) = some (r1, r2) := H
 have A6 := Aside0.mk A60
 clear A60
 by_cases c7 : 0 ≤ t407
 rotate_left
 ·rw [if_neg c7] at H
  exact absurd H (by simp)
 rw [if_pos c7] at H
 have c7b0 : decide (0 ≤ t407) = true := decide_eq_true c7
 clear c7
 by_cases c8 : t407 < (y404.length : Int)
 rotate_left
 ·rw [if_neg c8] at H
  exact absurd H (by simp)
 rw [if_pos c8] at H
 have c8b0 : decide (t407 < (y404.length : Int)) = true := decide_eq_true c8
 clear c8
 simp only [Option.some.injEq, Prod.mk.injEq] at H
 obtain ⟨rfl, rfl⟩ := H
 go_enter Tryd.func32, Tryd.ntmps32
 try go_wp2_with (first | ((with_reducible refine gate_callee (f := 45) rfl ?_); refine goesL_ (some 7) rfl rfl Tryd.func45 (by kernel_rfl) rfl #[.slice A0 l0.length c0] rfl (by (try simp only [List.map_toArray, List.map_cons, List.map_nil]); first | done | rfl | (simp only [List.length_drop, List.length_take]; rfl)) ?_; (with_reducible refine (spec_l6Open.calls _ _ l0 t395 t396 w _ ?side1 ?side2 ?side3 A2.out).mono ?_); (case side1 => repeat (first | (with_reducible first | exact HB.out | apply below_alloc | apply pw_below_drewN | apply below_drew1) | exact HB.out)); (case side2 => exact HR0.out); (case side3 => exact HC0.out); rintro e w9 ⟨g397, rfl, hi, hb, hb2⟩; refine ⟨_, rfl, ?_⟩; have n0_ := Aside0.mk (hb); have n1_ := Aside0.mk (hi); clear HB; have HB := n0_; have HI397 := n1_; clear n0_ n1_; (try clear hb); (try clear hb2); (try clear hk); (try clear hi)) | ((with_reducible refine gate_callee (f := 54) rfl ?_); refine goesL_ (some 9) rfl rfl Tryd.func54 (by kernel_rfl) rfl #[.pointer (some ⟨g397, 0, none⟩), .int .i64 5] rfl (by (try simp only [List.map_toArray, List.map_cons, List.map_nil]); first | done | rfl | (simp only [List.length_drop, List.length_take]; rfl)) ?_; (with_reducible refine (spec_l91Melody.calls k g397 t395 t396 5 t398 t401 w _ ?side1 ?side2 A3.out).mono ?_); (case side1 => repeat (first | (with_reducible first | exact HI397.out | apply IsS80.alloc | apply IsS80.drewN | apply IsS80.drew | apply IsS80.set_1) | exact HI397.out)); (case side2 => repeat (first | (with_reducible first | exact HB.out | apply below_alloc | apply pw_below_drewN | apply below_drew1 | refine below_set ?_ (IsS80.ge HI397.out)) | exact HB.out)); rintro e w10 ⟨v399, rfl, ho0, hi, hb, hk⟩; refine ⟨_, rfl, ?_⟩; have n0_ := Aside0.mk (Kd.R_lower ho0 (below_size (by repeat (first | (with_reducible first | exact HB.out | apply below_alloc | apply pw_below_drewN | apply below_drew1 | refine below_set ?_ (IsS80.ge HI397.out)) | exact HB.out)))); have n1_ := Aside0.mk (hb); have n2_ := Aside0.mk (hi); clear HB; clear HI397; have HO400 := n0_; have HB := n1_; have HI397 := n2_; clear n0_ n1_ n2_; (try clear hb); (try clear hb2); (try clear hk); (try clear hi); (try clear ho0)) | ((with_reducible refine gate_callee (f := 46) rfl ?_); refine goesL_ (some 11) rfl rfl Tryd.func46 (by kernel_rfl) rfl #[.pointer (some ⟨g397, 0, none⟩), .int .i64 20] rfl (by (try simp only [List.map_toArray, List.map_cons, List.map_nil]); first | done | rfl | (simp only [List.length_drop, List.length_take]; rfl)) ?_; (with_reducible refine (spec_l6Rd_pick.calls k g397 t395 t401 20 t402 t403 w _ ?side1 ?side2 A4.out).mono ?_); (case side1 => repeat (first | (with_reducible first | exact HI397.out | apply IsS80.alloc | apply IsS80.drewN | apply IsS80.drew | apply IsS80.set_1) | exact HI397.out)); (case side2 => repeat (first | (with_reducible first | exact HB.out | apply below_alloc | apply pw_below_drewN | apply below_drew1 | refine below_set ?_ (IsS80.ge HI397.out)) | exact HB.out)); rintro e w11 ⟨rfl, hi, hb, hk⟩; refine ⟨_, rfl, ?_⟩; have n0_ := Aside0.mk (Kd.R_mono (Kd.R_keep (IsS80.apart (show IsS80 w _ g397 t395 t401 from by repeat (first | (with_reducible first | exact HI397.out | apply IsS80.alloc | apply IsS80.drewN | apply IsS80.drew | apply IsS80.set_1) | exact HI397.out)) (by (with_reducible repeat (first | apply Kd.R_alloc | apply Kd.R_drewN | apply Kd.R_drew)); exact HO400.out) (by decide)) hk (fun _ h => h.2)) (fun _ h => h.1)); have n1_ := Aside0.mk (hb); have n2_ := Aside0.mk (hi); clear HO400; clear HB; clear HI397; have HO400 := n0_; have HB := n1_; have HI397 := n2_; clear n0_ n1_ n2_; (try clear hb); (try clear hb2); (try clear hk); (try clear hi)))
 have pi409 : (0 ≤ (t407 : Int)) = True := eq_true (of_decide_eq_true (by first | (with_reducible assumption) | assumption))
 have qi409 : (t407 < (y404.length : Int)) = True := eq_true (of_decide_eq_true (by first | (with_reducible assumption) | assumption))
 have n0_ := Aside0.mk (Kd.R_drew HO400.out)
 have n1_ := Aside0.mk (IsS80.drew HI397.out)
 have n2_ := Aside0.mk (below_drew1 HB.out)
 clear HO400
 clear HI397
 clear HB
 have HO400 := n0_
 have HI397 := n1_
 have HB := n2_
 clear n0_ n1_ n2_
 refine start_ (n := 8) (S := fun w' => True) (ds := []) #[false, false, false, false, false, false, false, false] (by kernel_rfl) rfl rfl trivial (fun hHeld => ?_); refine with_tabW spec_DrawMelodyMove.tab4 spec_DrawMelodyMove.bits4 (fun HT_ HW_ => ?_)
 generalize w11.drew = w12 at HO400 HI397 HB hHeld ⊢
 refine pure_ (i := 0) (N := some 13) (v := ?_) (a' := ?_) #[true, false, false, false, false, false, false, false] rfl rfl (any_of HT_.out (by kernel_rfl)) (fun _ _ _ h => h) (Or.inl ⟨by rfl, ?_⟩) ?_ ?_
 rotate_left
 ·intro w'
  go_simp
  with_reducible rfl
 rotate_left
 ·simp only [Act.put, List.setIfInBounds_toArray, List.set_cons_zero, List.set_cons_succ, i64_w, i32_w]
  rfl
 refine pure_ (i := 2) (N := some 15) (v := ?_) (a' := ?_) #[true, false, true, false, false, false, false, false] rfl rfl (any_of HT_.out (by kernel_rfl)) (fun _ _ _ h => h) (Or.inl ⟨by rfl, ?_⟩) ?_ ?_
 rotate_left
 ·intro w'
  go_simp
  with_reducible rfl
 rotate_left
 ·simp only [Act.put, List.setIfInBounds_toArray, List.set_cons_zero, List.set_cons_succ, i64_w, i32_w]
  rfl
 refine inv_at [1, 3, 4, 5, 6, 7] (fun a0_ b a w' => ∃ (v405 : Value) (adz_v405 : Addr) (m4_ : Value), a = putSel a0_ b [(1, 14, v405), (3, 16, .int .i64 t407), (4, 17, m4_), (5, 18, .int .i64 (rd y404 t407)), (6, 2, v399), (7, 3, .int .i64 (rd y404 t407))] ∧ (Kd.R k25 25 w' w.heap.size (fun _ => True) v399 t398) ∧ (b 3 = false → IsS80 w w' g397 t395 t403) ∧ (Below w.heap.size w w') ∧ (b 1 = true → Kd.R (Kd.int .i64) 3 w' w.heap.size (fun _ => True) v405 y404) ∧ (b 1 = true → ∃ c_, (v405 : Value) = .slice (some adz_v405) y404.length c_) ∧ (b 3 = true → IsS80 w w' g397 t395 t408) ∧ (b 4 = true → (m4_ : Value) = .pointer (some (adz_v405.add (t407).toNat)))) HT_.out HW_.out (by kernel_rfl) (by kernel_rfl) ?_ ?_ ?_
 ·exact ⟨.bool false, ⟨0, 0, none⟩, .bool false, by simp only [putSel, Bool.false_eq_true, if_false], HO400.out, fun _ => HI397.out, HB.out, fun h_ => absurd h_ (by decide), fun h_ => absurd h_ (by decide), fun h_ => absurd h_ (by decide), fun h_ => absurd h_ (by decide)⟩
 ·skip
  clear HB HI397 HO400
  refine steps_cons ?_ ?_
  ·rintro b a w' ⟨v405, adz_v405, m4_, ha, Q_HO400, Q_HI397, Q_HB, Q_HO406, Q_HA_HO406, Q_HI397_e3, Q_X4_⟩ hb_ hon hoff
   refine ⟨_, rfl, fun K hK => ?_⟩
   replace ha := Aside0.mk ha
   have HO400 := Aside0.mk Q_HO400
   have HB := Aside0.mk Q_HB
   refine Kd.R_lit_step (Kd.int .i64) _ 3 ?hg (N := 14) ?hd (xs := ([9223372036854775807, (-9223372036854775808), 0] : List Int)) (inner := [.int .i64 9223372036854775807, .int .i64 (-9223372036854775808), .int .i64 0]) (ok := fun _ => True) (okp := fun _ => True) ?hr ?hp (fun _ hk => hk) trivial (Below.refl _ _) (Nat.le_refl _) (by simp) ?_; (case hd => rfl); (case hg => rfl); (case hr => first | (go_simp; done) | (go_simp; rfl)); (case hp => exact (Reps.one (show Kd.M (Kd.int .i64) _ _ _ 9223372036854775807 [.int .i64 9223372036854775807] from rfl) (Reps.one (show Kd.M (Kd.int .i64) _ _ _ (-9223372036854775808) [.int .i64 (-9223372036854775808)] from rfl) (Reps.one (show Kd.M (Kd.int .i64) _ _ _ 0 [.int .i64 0] from rfl) (Reps.none _ _)))))
   intro v405 w13 ho14 hb hg_ hnew_
   clear hg_ hnew_
   (first | rw [← Ny404.out] at ho14 | (simp only [Int.reduceToNat] at ho14; rw [← Ny404.out] at ho14))
   have n0_ := Aside0.mk (Kd.R_below (by (with_reducible repeat (first | apply Kd.R_alloc | apply Kd.R_drewN | apply Kd.R_drew)); exact HO400.out) hb)
   have n1_ := Aside0.mk (Kd.R_lower ho14 (below_size (by repeat (first | (with_reducible first | exact HB.out | apply below_alloc | apply pw_below_drewN | apply below_drew1) | exact HB.out))))
   have n3_ := Aside0.mk (below_step (by repeat (first | (with_reducible first | exact HB.out | apply below_alloc | apply pw_below_drewN | apply below_drew1) | exact HB.out)) hb)
   have z_HI397 := fun (h0_ : b 3 = false) => (show IsS80 w w13 g397 t395 t403 from by first | exact (IsS80.below (by repeat (first | (with_reducible first | exact (Q_HI397 h0_) | apply IsS80.alloc | apply IsS80.drewN | apply IsS80.drew | apply IsS80.set_1) | exact (Q_HI397 h0_))) hb))
   have z_HI397_e3 := fun (h0_ : b 3 = true) => (show IsS80 w w13 g397 t395 t408 from by first | exact (IsS80.below (by repeat (first | (with_reducible first | exact (Q_HI397_e3 h0_) | apply IsS80.alloc | apply IsS80.drewN | apply IsS80.drew | apply IsS80.set_1) | exact (Q_HI397_e3 h0_))) hb))
   clear HO400
   clear HB
   have HO400 := n0_
   have HO406 := n1_
   have HB := n3_
   clear n0_ n1_ n3_
   clear hb ho14
   obtain ⟨Ao15, co15, eo15⟩ := Kd.R_slice HO406.out
   subst eo15
   obtain ⟨ado15, fo15, _⟩ := Kd.at_int (Kd.R_reads' HO406.out).2.2 0 (by decide) (by rw [Ny404.out]; simp)
   cases fo15
   refine hK.out _ _ ⟨.slice (some ado15) y404.length co15, ado15, m4_, (by rw [ha.out]; exact putSel_upk 0 hb_ rfl rfl rfl), (by (with_reducible repeat (first | apply Kd.R_alloc | apply Kd.R_drewN | apply Kd.R_drew)); exact HO400.out), z_HI397, (by repeat (first | (with_reducible first | exact HB.out | apply below_alloc | apply pw_below_drewN | apply below_drew1) | exact HB.out)), fun _ => (by (with_reducible repeat (first | apply Kd.R_alloc | apply Kd.R_drewN | apply Kd.R_drew)); exact HO406.out), fun _ => ⟨_, rfl⟩, z_HI397_e3, fun h0_ => absurd ((hoff 4 (by kernel_rfl)).symm.trans h0_) (by decide)⟩
  refine steps_cons ?_ ?_
  ·rintro b a w' ⟨v405, adz_v405, m4_, ha, Q_HO400, Q_HI397, Q_HB, Q_HO406, Q_HA_HO406, Q_HI397_e3, Q_X4_⟩ hb_ hon hoff
   refine ⟨_, rfl, fun K hK => ?_⟩
   have e15 : a.tmps[15]? = some (.pointer (some ⟨g397, 0, none⟩)) := by rw [ha]; exact (putSel_off rfl).trans rfl
   replace ha := Aside0.mk ha
   have HO400 := Aside0.mk Q_HO400
   have HI397 := Aside0.mk (Q_HI397 hb_)
   have HB := Aside0.mk Q_HB
   refine goes_ Tryd.func46 (by kernel_rfl) rfl #[.pointer (some ⟨g397, 0, none⟩), .int .i64 3] (by rfl) rfl rfl (by first | (simp only [List.map_toArray, List.map_cons, List.map_nil, Act.eval, Array.getD_eq_getD_getElem?, Option.getD_some, e15]; done) | (simp only [List.map_toArray, List.map_cons, List.map_nil, Act.eval, Array.getD_eq_getD_getElem?, Option.getD_some, e15]; rfl)) ?_
   with_reducible refine (spec_l6Rd_pick.calls k g397 t395 t403 3 t407 t408 w _ ?side1 ?side2 A6.out).mono ?_
   (case side1 => repeat (first | (with_reducible first | exact HI397.out | apply IsS80.alloc | apply IsS80.drewN | apply IsS80.drew | apply IsS80.set_1) | exact HI397.out))
   (case side2 => repeat (first | (with_reducible first | exact HB.out | apply below_alloc | apply pw_below_drewN | apply below_drew1 | refine below_set ?_ (IsS80.ge HI397.out)) | exact HB.out))
   rintro e w13 ⟨rfl, hi, hb, hk⟩
   refine ⟨_, rfl, ?_⟩
   have n0_ := Aside0.mk (Kd.R_mono (Kd.R_keep (IsS80.apart (show IsS80 w _ g397 t395 t403 from by repeat (first | (with_reducible first | exact HI397.out | apply IsS80.alloc | apply IsS80.drewN | apply IsS80.drew | apply IsS80.set_1) | exact HI397.out)) (by (with_reducible repeat (first | apply Kd.R_alloc | apply Kd.R_drewN | apply Kd.R_drew)); exact HO400.out) (by decide)) hk (fun _ h => h.2)) (fun _ h => h.1))
   have n1_ := Aside0.mk (hb)
   have n2_ := Aside0.mk (hi)
   have z_HO406 := fun (h0_ : b 1 = true) => (show Kd.R (Kd.int .i64) 3 w13 w.heap.size (fun _ => True) v405 y404 from by first | exact (Kd.R_mono (Kd.R_keep (IsS80.apart (show IsS80 w _ g397 t395 t403 from by repeat (first | (with_reducible first | exact HI397.out | apply IsS80.alloc | apply IsS80.drewN | apply IsS80.drew | apply IsS80.set_1) | exact HI397.out)) (by (with_reducible repeat (first | apply Kd.R_alloc | apply Kd.R_drewN | apply Kd.R_drew)); exact (Q_HO406 h0_)) (by decide)) hk (fun _ h => h.2)) (fun _ h => h.1)) | exact Kd.R_mono (Kd.R_mono (Kd.R_keep (IsS80.apart (show IsS80 w _ g397 t395 t403 from by repeat (first | (with_reducible first | exact HI397.out | apply IsS80.alloc | apply IsS80.drewN | apply IsS80.drew | apply IsS80.set_1) | exact HI397.out)) (by (with_reducible repeat (first | apply Kd.R_alloc | apply Kd.R_drewN | apply Kd.R_drew)); exact (Q_HO406 h0_)) (by decide)) hk (fun _ h => h.2)) (fun _ h => h.1)) (fun _ h_ => by first | trivial | exact h_ | exact h_.1))
   clear HO400
   clear HB
   clear HI397
   have HO400 := n0_
   have HB := n1_
   have HI397 := n2_
   clear n0_ n1_ n2_
   (try clear hb)
   (try clear hb2)
   (try clear hk)
   (try clear hi)
   refine hK.out _ _ ⟨v405, adz_v405, m4_, (by rw [ha.out]; exact putSel_upk 1 hb_ rfl rfl rfl), (by (with_reducible repeat (first | apply Kd.R_alloc | apply Kd.R_drewN | apply Kd.R_drew)); exact HO400.out), fun h0_ => absurd ((up_self b 3).symm.trans h0_) (by decide), (by repeat (first | (with_reducible first | exact HB.out | apply below_alloc | apply pw_below_drewN | apply below_drew1 | refine below_set ?_ (IsS80.ge HI397.out)) | exact HB.out)), z_HO406, Q_HA_HO406, fun _ => (by repeat (first | (with_reducible first | exact HI397.out | apply IsS80.alloc | apply IsS80.drewN | apply IsS80.drew | apply IsS80.set_1) | exact HI397.out)), fun h0_ => absurd ((hoff 4 (by kernel_rfl)).symm.trans h0_) (by decide)⟩
  refine steps_cons ?_ ?_
  ·rintro b a w' ⟨v405, adz_v405, m4_, ha, Q_HO400, Q_HI397, Q_HB, Q_HO406, Q_HA_HO406, Q_HI397_e3, Q_X4_⟩ hb_ hon hoff
   refine ⟨_, rfl, fun K hK => ?_⟩
   have e14 : a.tmps[14]? = some (v405) := by rw [ha]; exact putSel_on (e := (1, 14, v405)) 0 rfl rfl (hon 1 (by kernel_rfl)) rfl
   have e16 : a.tmps[16]? = some (.int .i64 t407) := by rw [ha]; exact putSel_on (e := (3, 16, .int .i64 t407)) 1 rfl rfl (hon 3 (by kernel_rfl)) rfl
   replace ha := Aside0.mk ha
   have HO400 := Aside0.mk Q_HO400
   have HB := Aside0.mk Q_HB
   have HO406 := Aside0.mk (Q_HO406 (hon 1 (by kernel_rfl)))
   have HA_HO406 := Aside0.mk (Q_HA_HO406 (hon 1 (by kernel_rfl)))
   have HI397 := Aside0.mk (Q_HI397_e3 (hon 3 (by kernel_rfl)))
   obtain ⟨c_, hv_⟩ := HA_HO406.out
   rw [hv_] at e14
   refine value_ (w1 := w') (v := .pointer (some (adz_v405.add (t407).toNat))) (by rfl) rfl ?_ ?_
   ·go_simp
    (try simp only [i64_w])
    try rfl
   refine hK.out _ _ ⟨v405, adz_v405, (.pointer (some (adz_v405.add (t407).toNat))), (by rw [ha.out]; exact putSel_upk 2 hb_ rfl rfl rfl), Q_HO400, fun h0_ => absurd ((hon 3 (by kernel_rfl)).symm.trans h0_) (by decide), Q_HB, Q_HO406, Q_HA_HO406, Q_HI397_e3, fun _ => rfl⟩
  refine steps_cons ?_ ?_
  ·rintro b a w' ⟨v405, adz_v405, m4_, ha, Q_HO400, Q_HI397, Q_HB, Q_HO406, Q_HA_HO406, Q_HI397_e3, Q_X4_⟩ hb_ hon hoff
   refine ⟨_, rfl, fun K hK => ?_⟩
   have e17 : a.tmps[17]? = some (m4_) := by rw [ha]; exact putSel_on (e := (4, 17, m4_)) 2 rfl rfl (hon 4 (by kernel_rfl)) rfl
   rw [Q_X4_ (hon 4 (by kernel_rfl))] at e17
   replace ha := Aside0.mk ha
   have HO400 := Aside0.mk Q_HO400
   have HB := Aside0.mk Q_HB
   have HO406 := Aside0.mk (Q_HO406 (hon 1 (by kernel_rfl)))
   have HA_HO406 := Aside0.mk (Q_HA_HO406 (hon 1 (by kernel_rfl)))
   have HI397 := Aside0.mk (Q_HI397_e3 (hon 3 (by kernel_rfl)))
   obtain ⟨c_, hv_⟩ := HA_HO406.out
   have hF_ := HO406.out
   rw [hv_] at hF_
   obtain ⟨ad_, ea_, hx_⟩ := Kd.at_int (Kd.R_reads' hF_).2.2 t407 (of_eq_true pi409) (of_eq_true qi409)
   cases ea_
   refine value_ (w1 := w') (v := .int .i64 (rd y404 t407)) (by rfl) rfl ?_ ?_
   ·go_simp
    (try simp only [i64_w])
    try rfl
   refine hK.out _ _ ⟨v405, adz_v405, m4_, (by rw [ha.out]; exact putSel_upk 3 hb_ rfl rfl rfl), Q_HO400, fun h0_ => absurd ((hon 3 (by kernel_rfl)).symm.trans h0_) (by decide), Q_HB, Q_HO406, Q_HA_HO406, Q_HI397_e3, Q_X4_⟩
  refine steps_cons ?_ ?_
  ·rintro b a w' ⟨v405, adz_v405, m4_, ha, Q_HO400, Q_HI397, Q_HB, Q_HO406, Q_HA_HO406, Q_HI397_e3, Q_X4_⟩ hb_ hon hoff
   refine ⟨_, rfl, fun K hK => ?_⟩
   have e13 : a.tmps[13]? = some (v399) := by rw [ha]; exact (putSel_off rfl).trans rfl
   replace ha := Aside0.mk ha
   have HO400 := Aside0.mk Q_HO400
   have HB := Aside0.mk Q_HB
   have HI397 := Aside0.mk (Q_HI397_e3 (hon 3 (by kernel_rfl)))
   refine value_ (w1 := w') (v := v399) (by rfl) rfl ?_ ?_
   ·go_simp
    (try simp only [i64_w])
    try rfl
   refine hK.out _ _ ⟨v405, adz_v405, m4_, (by rw [ha.out]; exact putSel_upk 4 hb_ rfl rfl rfl), Q_HO400, fun h0_ => absurd ((hon 3 (by kernel_rfl)).symm.trans h0_) (by decide), Q_HB, Q_HO406, Q_HA_HO406, Q_HI397_e3, Q_X4_⟩
  refine steps_cons ?_ ?_
  ·rintro b a w' ⟨v405, adz_v405, m4_, ha, Q_HO400, Q_HI397, Q_HB, Q_HO406, Q_HA_HO406, Q_HI397_e3, Q_X4_⟩ hb_ hon hoff
   refine ⟨_, rfl, fun K hK => ?_⟩
   have e18 : a.tmps[18]? = some (.int .i64 (rd y404 t407)) := by rw [ha]; exact putSel_on (e := (5, 18, .int .i64 (rd y404 t407))) 3 rfl rfl (hon 5 (by kernel_rfl)) rfl
   replace ha := Aside0.mk ha
   have HO400 := Aside0.mk Q_HO400
   have HB := Aside0.mk Q_HB
   have HO406 := Aside0.mk (Q_HO406 (hon 1 (by kernel_rfl)))
   have HA_HO406 := Aside0.mk (Q_HA_HO406 (hon 1 (by kernel_rfl)))
   have HI397 := Aside0.mk (Q_HI397_e3 (hon 3 (by kernel_rfl)))
   refine value_ (w1 := w') (v := .int .i64 (rd y404 t407)) (by rfl) rfl ?_ ?_
   ·go_simp
    (try simp only [i64_w])
    try rfl
   refine hK.out _ _ ⟨v405, adz_v405, m4_, (by rw [ha.out]; exact putSel_upk 5 hb_ rfl rfl rfl), Q_HO400, fun h0_ => absurd ((hon 3 (by kernel_rfl)).symm.trans h0_) (by decide), Q_HB, Q_HO406, Q_HA_HO406, Q_HI397_e3, Q_X4_⟩
  exact steps_nil
 rintro b a w17 hall ⟨v405, adz_v405, m4_, ha, Q_HO400, Q_HI397, Q_HB, Q_HO406, Q_HA_HO406, Q_HI397_e3, Q_X4_⟩
 clear HB HI397 HO400
 have hb1_ := hall 1 (by kernel_rfl)
 have hb3_ := hall 3 (by kernel_rfl)
 have hb4_ := hall 4 (by kernel_rfl)
 have hb5_ := hall 5 (by kernel_rfl)
 have hb6_ := hall 6 (by kernel_rfl)
 have hb7_ := hall 7 (by kernel_rfl)
 subst ha
 obtain rfl := Q_X4_ hb4_
 simp only [putSel, hb1_, hb3_, hb4_, hb5_, hb6_, hb7_, if_true, Act.put, List.setIfInBounds_toArray, List.set_cons_zero, List.set_cons_succ]
 have HO400 := Aside0.mk Q_HO400
 clear Q_HO400
 clear Q_HI397
 have HB := Aside0.mk Q_HB
 clear Q_HB
 have HO406 := Aside0.mk (Q_HO406 hb1_)
 clear Q_HO406
 have HA_HO406 := Aside0.mk (Q_HA_HO406 hb1_)
 clear Q_HA_HO406
 have HI397 := Aside0.mk (Q_HI397_e3 hb3_)
 clear Q_HI397_e3
 clear hall hb1_ hb3_ hb4_ hb5_ hb6_ hb7_
 obtain ⟨co18, eo18⟩ := HA_HO406.out
 clear HA_HO406
 subst eo18
 try go_wp2
 go_ret2
 exact ⟨_, by first | rfl | (simp [errW_none, errW_some] <;> rfl) | (simp [*, errW_none, errW_some] <;> rfl), by (with_reducible repeat (first | apply Kd.R_alloc | apply Kd.R_drewN | apply Kd.R_drew)); exact HO400.out, by repeat (first | (with_reducible first | exact HB.out | apply below_alloc | apply pw_below_drewN | apply below_drew1 | refine below_set ?_ (IsS80.ge HI397.out)) | exact HB.out)⟩
end Go.Proofs.YtlinjleahnccgaaDoor.E
end
section
namespace Go.Proofs.YtlinjleahnccgaaDoor.E
open Go.RowKit Go.Proofs.YtlinjleahnccgaaDoorW.PrintWords Go.Proofs.YtlinjleahnccgaaDoorW.PrintLast Go.Proofs.YtlinjleahnccgaaDoorW.PrintMore
attribute [local go_sem] max2_int min2_int max_two min_two max_three min_three max_four min_four
set_option linter.unusedVariables false
set_option linter.unusedSimpArgs false
attribute [local go_sem] str_leq_ str_gtr_ str_geq_
def impl_ToneAbove.j0 : Nat → Int → Bool → Bool → Int → Bool → Option (Int × Bool × Bool)
 | 0, _, _, _, _, _ => none
 | k + 1, x1, x2, x19, x209000, x209001 => if x19 = true then (some (0, false, false)) else ((impl_Tone_valid.f (wrap64 (x209000 + x1)) x2).bind fun t212 => (if t212 = true then (some (wrap64 (x209000 + x1), x2, true)) else (some (0, false, false))))
def impl_ToneAbove.f (k : Nat) (a0_0 : Int) (a0_1 : Bool) (a1 : Int) (a2 : Bool) : Option (Int × Bool × Bool) := (impl_Tone_valid.f a0_0 a0_1).bind fun t210 => (if t210 = true then (if a1 < (-20) then (impl_ToneAbove.j0 k a1 a2 true a0_0 a0_1) else (impl_ToneAbove.j0 k a1 a2 (decide (a1 > 20)) a0_0 a0_1)) else (impl_ToneAbove.j0 k a1 a2 true a0_0 a0_1))
set_option maxHeartbeats 8000000 in
set_option maxRecDepth 100000 in
theorem impl_ToneAbove.calls (k : Nat) (a0_0 : Int) (a0_1 : Bool) (a1 : Int) (a2 : Bool) (r1 : Int) (r2 : Bool) (r3 : Bool) (w : World) (h : impl_ToneAbove.f k a0_0 a0_1 a1 a2 = some (r1, r2, r3)) :
  Calls Tryd.prog 20 #[.agg #[.int .i64 a0_0, .bool a0_1], .int .i64 a1, .bool a2] w fun e w' => e = .returned (.tuple #[.agg #[.int .i64 r1, .bool r2], .bool r3]) ∧ Below w.heap.size w w' := by
 have hu25 := Tryd.underlying25
 have HB := Aside0.mk (Below.refl w.heap.size w)
 have H : ((impl_Tone_valid.f a0_0 a0_1).bind fun t210 => (if t210 = true then (if a1 < (-20) then (impl_ToneAbove.j0 k a1 a2 true a0_0 a0_1) else (impl_ToneAbove.j0 k a1 a2 (decide (a1 > 20)) a0_0 a0_1)) else (impl_ToneAbove.j0 k a1 a2 true a0_0 a0_1))) = some (r1, r2, r3) := h
 clear h
 have HC4 := Aside0.mk H
 clear H
 go_enter Tryd.func20, Tryd.ntmps20
 go_upto_region 1 with (first | ((with_reducible refine gate_dst (N := 3) rfl ?_); refine box_event ?hg (N := 3) ?hd (cs := #[.int .i64 a0_0, .bool a0_1]) (t := 25) ?hr ?_; (case hd => rfl); (case hg => rfl); (case hr => first | (go_simp; done) | (go_simp; rfl)); intro gb208 hg w5 hbox hb; have n0_ := Aside0.mk (below_step (by repeat (first | (with_reducible first | exact HB.out | apply below_alloc | apply pw_below_drewN | apply below_drew1) | exact HB.out)) hb); have n1_ := Aside0.mk (hbox); have n2_ := Aside0.mk ((by rw [hg]; exact (below_size (by repeat (first | (with_reducible first | exact HB.out | apply below_alloc | apply pw_below_drewN | apply below_drew1) | exact HB.out))) : w.heap.size ≤ gb208)); have n3_ := Aside0.mk ((by rw [hg]; exact (below_size (by repeat (first | (with_reducible first | exact HB.out | apply below_alloc | apply pw_below_drewN | apply below_drew1) | exact HB.out))) : w.heap.size ≤ gb208)); clear HB; have HB := n0_; have BK208 := n1_; have GW208 := n2_; have GE208 := n3_; clear n0_ n1_ n2_ n3_; clear hb hbox hg) | ((with_reducible refine gate_dst (N := 6) rfl ?_); refine box_event ?hg (N := 6) ?hd (cs := #[.int .i64 0, .bool false]) (t := 25) ?hr ?_; (case hd => rfl); (case hg => rfl); (case hr => first | (go_simp; done) | (go_simp; rfl)); intro gb209 hg w6 hbox hb; have n0_ := Aside0.mk (blk_below (g := gb208) (o := .cells #[.int .i64 a0_0, .bool a0_1] 25 (0, 0)) (by (with_reducible repeat (first | refine blk_drewN ?_ _ | refine blk_drew ?_ | refine blk_alloc ?_ _)); exact BK208.out) hb); have n1_ := Aside0.mk (below_step (by repeat (first | (with_reducible first | exact HB.out | apply below_alloc | apply pw_below_drewN | apply below_drew1 | refine below_set ?_ GE208.out) | exact HB.out)) hb); have n2_ := Aside0.mk (hbox); have n3_ := Aside0.mk ((by rw [hg]; exact (below_size (by repeat (first | (with_reducible first | exact HB.out | apply below_alloc | apply pw_below_drewN | apply below_drew1 | refine below_set ?_ GE208.out) | exact HB.out))) : w.heap.size ≤ gb209)); have n4_ := Aside0.mk ((by rw [hg]; exact (below_size (by repeat (first | (with_reducible first | exact HB.out | apply below_alloc | apply pw_below_drewN | apply below_drew1 | refine below_set ?_ GE208.out) | exact HB.out))) : w.heap.size ≤ gb209)); have n5_ := Aside0.mk ((by rw [hg]; exact Nat.ne_of_lt (blk_lt (g := gb208) (o := .cells #[.int .i64 a0_0, .bool a0_1] 25 (0, 0)) (by (with_reducible repeat (first | refine blk_drewN ?_ _ | refine blk_drew ?_ | refine blk_alloc ?_ _)); exact BK208.out)) : gb208 ≠ gb209)); have n6_ := Aside0.mk ((by rw [hg]; exact Nat.ne_of_gt (blk_lt (g := gb208) (o := .cells #[.int .i64 a0_0, .bool a0_1] 25 (0, 0)) (by (with_reducible repeat (first | refine blk_drewN ?_ _ | refine blk_drew ?_ | refine blk_alloc ?_ _)); exact BK208.out)) : gb209 ≠ gb208)); clear BK208; clear HB; have BK208 := n0_; have HB := n1_; have BK209 := n2_; have GW209 := n3_; have GE209 := n4_; have NB208_209 := n5_; have NB209_208 := n6_; clear n0_ n1_ n2_ n3_ n4_ n5_ n6_; clear hb hbox hg))
 (try simp only [Act.put, List.setIfInBounds_toArray, List.set_cons_zero, List.set_cons_succ])
 go_cut [19] (fun v19 wc => ∃ (kq : Nat) (x19_3 : Bool), v19 = .bool x19_3 ∧ Aside0 (impl_ToneAbove.j0 kq a1 a2 x19_3 a0_0 a0_1 = some (r1, r2, r3)) ∧ Aside0 (kq ≤ k) ∧ Aside0 (wc.heap[gb208]? = some (.cells #[.int .i64 a0_0, .bool a0_1] 25 (0, 0))) ∧ Aside0 (wc.heap[gb209]? = some (.cells #[.int .i64 0, .bool false] 25 (0, 0))) ∧ Aside0 (Below w.heap.size w wc))
 case first =>
  have H := HC4.out
  clear HC4
  replace H := Option.bind_eq_some_iff.mp H
  obtain ⟨t210, A70, H⟩ := H
  replace H : (if t210 = true then (if a1 < (-20) then (impl_ToneAbove.j0 k a1 a2 true a0_0 a0_1) else (impl_ToneAbove.j0 k a1 a2 (decide (a1 > 20)) a0_0 a0_1)) else (impl_ToneAbove.j0 k a1 a2 true a0_0 a0_1)) = some (r1, r2, r3) := H
  have A7 := Aside0.mk A70
  clear A70
  by_cases c8 : t210 = true
  rotate_left
  ·replace c8 := Bool.eq_false_iff.mpr c8
   subst c8
   have H1 : (impl_ToneAbove.j0 k a1 a2 true a0_0 a0_1) = some (r1, r2, r3) := by rw [if_neg (show ¬ (false = true) by decide)] at H; exact H
   clear H
   have H := H1
   clear H1
   have H' := Aside0.mk H
   clear H
   have hnb16 := NB208_209.out
   have hnc16 := NB209_208.out
   have hcz17_0 : w6.cell? ⟨gb208, 0, none⟩ = some (.int .i64 a0_0) := (blk_cell BK208.out 0).trans rfl
   have hcz17_1 : w6.cell? ⟨gb208, 1, none⟩ = some (.bool a0_1) := (blk_cell BK208.out 1).trans rfl
   have hfz17_0 := blk_frozen BK208.out 0
   have hfz17_1 := blk_frozen BK208.out 1
   go_wp2_with (first | ((with_reducible refine gate_callee (f := 39) rfl ?_); refine goesL_ (some 10) rfl rfl Tryd.func39 (by kernel_rfl) rfl #[.agg #[.int .i64 a0_0, .bool a0_1]] rfl (by (try simp only [List.map_toArray, List.map_cons, List.map_nil]); first | done | rfl | (simp only [List.length_drop, List.length_take]; rfl)) ?_; (with_reducible refine (impl_Tone_valid.calls a0_0 a0_1 false _ A7.out).mono ?_); rintro e w18 ⟨rfl, hb⟩; refine ⟨_, rfl, ?_⟩; have n0_ := Aside0.mk (blk_below (g := gb208) (o := .cells #[.int .i64 a0_0, .bool a0_1] 25 (0, 0)) (by (with_reducible repeat (first | refine blk_drewN ?_ _ | refine blk_drew ?_ | refine blk_alloc ?_ _)); exact BK208.out) hb); have n1_ := Aside0.mk (blk_below (g := gb209) (o := .cells #[.int .i64 0, .bool false] 25 (0, 0)) (by (with_reducible repeat (first | refine blk_drewN ?_ _ | refine blk_drew ?_ | refine blk_alloc ?_ _)); exact BK209.out) hb); have n2_ := Aside0.mk (below_step (by repeat (first | (with_reducible first | exact HB.out | apply below_alloc | apply pw_below_drewN | apply below_drew1 | refine below_set ?_ GE208.out | refine below_set ?_ GE209.out) | exact HB.out)) hb); clear BK208; clear BK209; clear HB; have BK208 := n0_; have BK209 := n1_; have HB := n2_; clear n0_ n1_ n2_; (try clear hb); (try clear hb2); (try clear hk); (try clear hi)))
   go_meet
   case rel => exact ⟨_, (true), (by first | rfl | (simp; done) | (simp [*]; done)), H', ⟨by first | omega | exact Nat.le_refl _⟩, ⟨by (with_reducible repeat (first | refine blk_drewN ?_ _ | refine blk_drew ?_ | refine blk_alloc ?_ _)); exact BK208.out⟩, ⟨by (with_reducible repeat (first | refine blk_drewN ?_ _ | refine blk_drew ?_ | refine blk_alloc ?_ _)); exact BK209.out⟩, ⟨by repeat (first | (with_reducible first | exact HB.out | apply below_alloc | apply pw_below_drewN | apply below_drew1 | refine below_set ?_ GE208.out | refine below_set ?_ GE209.out) | exact HB.out)⟩⟩
  subst c8
  have H1 : (if a1 < (-20) then (impl_ToneAbove.j0 k a1 a2 true a0_0 a0_1) else (impl_ToneAbove.j0 k a1 a2 (decide (a1 > 20)) a0_0 a0_1)) = some (r1, r2, r3) := by rw [if_pos rfl] at H; exact H
  clear H
  have H := H1
  clear H1
  by_cases c9 : a1 < (-20)
  rotate_left
  ·rw [if_neg c9] at H
   have c9b0 : decide (a1 < (-20)) = false := decide_eq_false c9
   clear c9
   (first | rw [c9b0] | (simp only [i64_w, i32_w]; rw [c9b0]) | skip)
   have H' := Aside0.mk H
   clear H
   have hnb13 := NB208_209.out
   have hnc13 := NB209_208.out
   have hcz14_0 : w6.cell? ⟨gb208, 0, none⟩ = some (.int .i64 a0_0) := (blk_cell BK208.out 0).trans rfl
   have hcz14_1 : w6.cell? ⟨gb208, 1, none⟩ = some (.bool a0_1) := (blk_cell BK208.out 1).trans rfl
   have hfz14_0 := blk_frozen BK208.out 0
   have hfz14_1 := blk_frozen BK208.out 1
   go_wp2_with (first | ((with_reducible refine gate_callee (f := 39) rfl ?_); refine goesL_ (some 10) rfl rfl Tryd.func39 (by kernel_rfl) rfl #[.agg #[.int .i64 a0_0, .bool a0_1]] rfl (by (try simp only [List.map_toArray, List.map_cons, List.map_nil]); first | done | rfl | (simp only [List.length_drop, List.length_take]; rfl)) ?_; (with_reducible refine (impl_Tone_valid.calls a0_0 a0_1 true _ A7.out).mono ?_); rintro e w15 ⟨rfl, hb⟩; refine ⟨_, rfl, ?_⟩; have n0_ := Aside0.mk (blk_below (g := gb208) (o := .cells #[.int .i64 a0_0, .bool a0_1] 25 (0, 0)) (by (with_reducible repeat (first | refine blk_drewN ?_ _ | refine blk_drew ?_ | refine blk_alloc ?_ _)); exact BK208.out) hb); have n1_ := Aside0.mk (blk_below (g := gb209) (o := .cells #[.int .i64 0, .bool false] 25 (0, 0)) (by (with_reducible repeat (first | refine blk_drewN ?_ _ | refine blk_drew ?_ | refine blk_alloc ?_ _)); exact BK209.out) hb); have n2_ := Aside0.mk (below_step (by repeat (first | (with_reducible first | exact HB.out | apply below_alloc | apply pw_below_drewN | apply below_drew1 | refine below_set ?_ GE208.out | refine below_set ?_ GE209.out) | exact HB.out)) hb); clear BK208; clear BK209; clear HB; have BK208 := n0_; have BK209 := n1_; have HB := n2_; clear n0_ n1_ n2_; (try clear hb); (try clear hb2); (try clear hk); (try clear hi)))
   go_meet
   case rel => exact ⟨_, (decide (a1 > 20)), (by first | rfl | (simp; done) | (simp [*]; done)), H', ⟨by first | omega | exact Nat.le_refl _⟩, ⟨by (with_reducible repeat (first | refine blk_drewN ?_ _ | refine blk_drew ?_ | refine blk_alloc ?_ _)); exact BK208.out⟩, ⟨by (with_reducible repeat (first | refine blk_drewN ?_ _ | refine blk_drew ?_ | refine blk_alloc ?_ _)); exact BK209.out⟩, ⟨by repeat (first | (with_reducible first | exact HB.out | apply below_alloc | apply pw_below_drewN | apply below_drew1 | refine below_set ?_ GE208.out | refine below_set ?_ GE209.out) | exact HB.out)⟩⟩
  rw [if_pos c9] at H
  have c9b0 : decide (a1 < (-20)) = true := decide_eq_true c9
  clear c9
  (first | rw [c9b0] | (simp only [i64_w, i32_w]; rw [c9b0]) | skip)
  have H' := Aside0.mk H
  clear H
  have hnb10 := NB208_209.out
  have hnc10 := NB209_208.out
  have hcz11_0 : w6.cell? ⟨gb208, 0, none⟩ = some (.int .i64 a0_0) := (blk_cell BK208.out 0).trans rfl
  have hcz11_1 : w6.cell? ⟨gb208, 1, none⟩ = some (.bool a0_1) := (blk_cell BK208.out 1).trans rfl
  have hfz11_0 := blk_frozen BK208.out 0
  have hfz11_1 := blk_frozen BK208.out 1
  go_wp2_with (first | ((with_reducible refine gate_callee (f := 39) rfl ?_); refine goesL_ (some 10) rfl rfl Tryd.func39 (by kernel_rfl) rfl #[.agg #[.int .i64 a0_0, .bool a0_1]] rfl (by (try simp only [List.map_toArray, List.map_cons, List.map_nil]); first | done | rfl | (simp only [List.length_drop, List.length_take]; rfl)) ?_; (with_reducible refine (impl_Tone_valid.calls a0_0 a0_1 true _ A7.out).mono ?_); rintro e w12 ⟨rfl, hb⟩; refine ⟨_, rfl, ?_⟩; have n0_ := Aside0.mk (blk_below (g := gb208) (o := .cells #[.int .i64 a0_0, .bool a0_1] 25 (0, 0)) (by (with_reducible repeat (first | refine blk_drewN ?_ _ | refine blk_drew ?_ | refine blk_alloc ?_ _)); exact BK208.out) hb); have n1_ := Aside0.mk (blk_below (g := gb209) (o := .cells #[.int .i64 0, .bool false] 25 (0, 0)) (by (with_reducible repeat (first | refine blk_drewN ?_ _ | refine blk_drew ?_ | refine blk_alloc ?_ _)); exact BK209.out) hb); have n2_ := Aside0.mk (below_step (by repeat (first | (with_reducible first | exact HB.out | apply below_alloc | apply pw_below_drewN | apply below_drew1 | refine below_set ?_ GE208.out | refine below_set ?_ GE209.out) | exact HB.out)) hb); clear BK208; clear BK209; clear HB; have BK208 := n0_; have BK209 := n1_; have HB := n2_; clear n0_ n1_ n2_; (try clear hb); (try clear hb2); (try clear hk); (try clear hi)))
  go_meet
  case rel => exact ⟨_, (true), (by first | rfl | (simp; done) | (simp [*]; done)), H', ⟨by first | omega | exact Nat.le_refl _⟩, ⟨by (with_reducible repeat (first | refine blk_drewN ?_ _ | refine blk_drew ?_ | refine blk_alloc ?_ _)); exact BK208.out⟩, ⟨by (with_reducible repeat (first | refine blk_drewN ?_ _ | refine blk_drew ?_ | refine blk_alloc ?_ _)); exact BK209.out⟩, ⟨by repeat (first | (with_reducible first | exact HB.out | apply below_alloc | apply pw_below_drewN | apply below_drew1 | refine below_set ?_ GE208.out | refine below_set ?_ GE209.out) | exact HB.out)⟩⟩
 case rest =>
  clear HC4
  try clear c1
  try clear c2
  try clear p2
  try clear c3
  try clear c8
  try clear c9
  try clear c9b0
  try clear c10
  try clear c13
  try clear c16
  try clear hcz11_0
  try clear hcz11_1
  try clear hcz14_0
  try clear hcz14_1
  try clear hcz17_0
  try clear hcz17_1
  try clear hfz11_0
  try clear hfz11_1
  try clear hfz14_0
  try clear hfz14_1
  try clear hfz17_0
  try clear hfz17_1
  obtain ⟨kq, x19_3, rfl, HA, HJ3, BK208, BK209, HB⟩ := hcut
  cases kq with
  | zero => exact absurd HA.out (by simp [impl_ToneAbove.j0])
  | succ kj3 =>
   have H := HA.out
   clear HA
   simp only [impl_ToneAbove.j0] at H
   by_cases c19 : x19_3 = true
   ·subst c19
    have H1 : (some (0, false, false)) = some (r1, r2, r3) := by rw [if_pos rfl] at H; exact H
    clear H
    have H := H1
    clear H1
    simp only [Option.some.injEq, Prod.mk.injEq] at H
    obtain ⟨rfl, rfl, rfl⟩ := H
    have hnb20 := NB209_208.out
    have hnc20 := NB208_209.out
    have hcz21_0 : wc.cell? ⟨gb209, 0, none⟩ = some (.int .i64 0) := (blk_cell BK209.out 0).trans rfl
    have hcz21_1 : wc.cell? ⟨gb209, 1, none⟩ = some (.bool false) := (blk_cell BK209.out 1).trans rfl
    have hfz21_0 := blk_frozen BK209.out 0
    have hfz21_1 := blk_frozen BK209.out 1
    go_wp2
    refine bodyPost_ret (results_ct rfl _ _ gb209 25 #[.int .i64 0, .bool false] (0, 0) _ rfl (by (with_reducible repeat (first | refine blk_drewN ?_ _ | refine blk_drew ?_ | refine blk_alloc ?_ _)); refine blk_put (cs := #[.int .i64 0, .bool false]) ?_ 1 _ rfl; (with_reducible repeat (first | refine blk_drewN ?_ _ | refine blk_drew ?_ | refine blk_alloc ?_ _)); refine blk_put (cs := #[.int .i64 0, .bool false]) ?_ 0 _ rfl; (with_reducible repeat (first | refine blk_drewN ?_ _ | refine blk_drew ?_ | refine blk_alloc ?_ _)); exact BK209.out) Tryd.underlying25 rfl (by kernel_rfl)) rfl ?_
    exact ⟨by first | rfl | (simp [errW_none, errW_some] <;> rfl) | (simp [*, errW_none, errW_some] <;> rfl), by repeat (first | (with_reducible first | exact HB.out | apply below_alloc | apply pw_below_drewN | apply below_drew1 | refine below_set ?_ GE208.out | refine below_set ?_ GE209.out) | exact HB.out)⟩
   replace c19 := Bool.eq_false_iff.mpr c19
   subst c19
   have H1 : ((impl_Tone_valid.f (wrap64 (a0_0 + a1)) a2).bind fun t212 => (if t212 = true then (some (wrap64 (a0_0 + a1), a2, true)) else (some (0, false, false)))) = some (r1, r2, r3) := by rw [if_neg (show ¬ (false = true) by decide)] at H; exact H
   clear H
   have H := H1
   clear H1
   replace H := Option.bind_eq_some_iff.mp H
   obtain ⟨t212, A220, H⟩ := H
   replace H : (if t212 = true then (some (wrap64 (a0_0 + a1), a2, true)) else (some (0, false, false))) = some (r1, r2, r3) := H
   have A22 := Aside0.mk A220
   clear A220
   by_cases c23 : t212 = true
   ·subst c23
    have H1 : (some (wrap64 (a0_0 + a1), a2, true)) = some (r1, r2, r3) := by rw [if_pos rfl] at H; exact H
    clear H
    have H := H1
    clear H1
    simp only [Option.some.injEq, Prod.mk.injEq] at H
    obtain ⟨rfl, rfl, rfl⟩ := H
    have hnb24 := NB208_209.out
    have hnc24 := NB209_208.out
    have hcz25_0 : wc.cell? ⟨gb208, 0, none⟩ = some (.int .i64 a0_0) := (blk_cell BK208.out 0).trans rfl
    have hcz25_1 : wc.cell? ⟨gb208, 1, none⟩ = some (.bool a0_1) := (blk_cell BK208.out 1).trans rfl
    have hfz25_0 := blk_frozen BK208.out 0
    have hfz25_1 := blk_frozen BK208.out 1
    go_wp2_with (first | ((with_reducible refine gate_dst (N := 8) rfl ?_); refine box_event ?hg (N := 8) ?hd (cs := #[.int .i64 0, .bool false]) (t := 25) ?hr ?_; (case hd => rfl); (case hg => rfl); (case hr => first | (go_simp; done) | (go_simp; rfl)); intro gb211 hg w26 hbox hb; have n0_ := Aside0.mk (blk_below (g := gb208) (o := .cells #[.int .i64 a0_0, .bool a0_1] 25 (0, 0)) (by (with_reducible repeat (first | refine blk_drewN ?_ _ | refine blk_drew ?_ | refine blk_alloc ?_ _)); exact BK208.out) hb); have n1_ := Aside0.mk (blk_below (g := gb209) (o := .cells #[.int .i64 0, .bool false] 25 (0, 0)) (by (with_reducible repeat (first | refine blk_drewN ?_ _ | refine blk_drew ?_ | refine blk_alloc ?_ _)); exact BK209.out) hb); have n2_ := Aside0.mk (below_step (by repeat (first | (with_reducible first | exact HB.out | apply below_alloc | apply pw_below_drewN | apply below_drew1 | refine below_set ?_ GE208.out | refine below_set ?_ GE209.out) | exact HB.out)) hb); have n3_ := Aside0.mk (hbox); have n4_ := Aside0.mk ((by rw [hg]; exact (below_size (by repeat (first | (with_reducible first | exact HB.out | apply below_alloc | apply pw_below_drewN | apply below_drew1 | refine below_set ?_ GE208.out | refine below_set ?_ GE209.out) | exact HB.out))) : w.heap.size ≤ gb211)); have n5_ := Aside0.mk ((by rw [hg]; exact (below_size (by repeat (first | (with_reducible first | exact HB.out | apply below_alloc | apply pw_below_drewN | apply below_drew1 | refine below_set ?_ GE208.out | refine below_set ?_ GE209.out) | exact HB.out))) : w.heap.size ≤ gb211)); have n6_ := Aside0.mk ((by rw [hg]; exact Nat.ne_of_lt (blk_lt (g := gb208) (o := .cells #[.int .i64 a0_0, .bool a0_1] 25 (0, 0)) (by (with_reducible repeat (first | refine blk_drewN ?_ _ | refine blk_drew ?_ | refine blk_alloc ?_ _)); exact BK208.out)) : gb208 ≠ gb211)); have n7_ := Aside0.mk ((by rw [hg]; exact Nat.ne_of_gt (blk_lt (g := gb208) (o := .cells #[.int .i64 a0_0, .bool a0_1] 25 (0, 0)) (by (with_reducible repeat (first | refine blk_drewN ?_ _ | refine blk_drew ?_ | refine blk_alloc ?_ _)); exact BK208.out)) : gb211 ≠ gb208)); have n8_ := Aside0.mk ((by rw [hg]; exact Nat.ne_of_lt (blk_lt (g := gb209) (o := .cells #[.int .i64 0, .bool false] 25 (0, 0)) (by (with_reducible repeat (first | refine blk_drewN ?_ _ | refine blk_drew ?_ | refine blk_alloc ?_ _)); exact BK209.out)) : gb209 ≠ gb211)); have n9_ := Aside0.mk ((by rw [hg]; exact Nat.ne_of_gt (blk_lt (g := gb209) (o := .cells #[.int .i64 0, .bool false] 25 (0, 0)) (by (with_reducible repeat (first | refine blk_drewN ?_ _ | refine blk_drew ?_ | refine blk_alloc ?_ _)); exact BK209.out)) : gb211 ≠ gb209)); clear BK208; clear BK209; clear HB; have BK208 := n0_; have BK209 := n1_; have HB := n2_; have BK211 := n3_; have GW211 := n4_; have GE211 := n5_; have NB208_211 := n6_; have NB211_208 := n7_; have NB209_211 := n8_; have NB211_209 := n9_; clear n0_ n1_ n2_ n3_ n4_ n5_ n6_ n7_ n8_ n9_; clear hb hbox hg; have hnb27 := NB211_208.out; have hnc27 := NB208_211.out; have hnb28 := NB211_209.out; have hnc28 := NB209_211.out; have hcz29_0 : w26.cell? ⟨gb211, 0, none⟩ = some (.int .i64 0) := (blk_cell BK211.out 0).trans rfl; have hcz29_1 : w26.cell? ⟨gb211, 1, none⟩ = some (.bool false) := (blk_cell BK211.out 1).trans rfl; have hfz29_0 := blk_frozen BK211.out 0; have hfz29_1 := blk_frozen BK211.out 1) | ((with_reducible refine gate_callee (f := 39) rfl ?_); refine goesL_ (some 28) rfl rfl Tryd.func39 (by kernel_rfl) rfl #[.agg #[.int .i64 (wrap64 (a0_0 + a1)), .bool a2]] rfl (by (try simp only [List.map_toArray, List.map_cons, List.map_nil]); first | done | rfl | (simp only [List.length_drop, List.length_take]; rfl)) ?_; (with_reducible refine (impl_Tone_valid.calls (wrap64 (a0_0 + a1)) a2 true _ A22.out).mono ?_); rintro e w30 ⟨rfl, hb⟩; refine ⟨_, rfl, ?_⟩; have n0_ := Aside0.mk (blk_below (g := gb208) (o := .cells #[.int .i64 a0_0, .bool a0_1] 25 (0, 0)) (by (with_reducible repeat (first | refine blk_drewN ?_ _ | refine blk_drew ?_ | refine blk_alloc ?_ _)); refine blk_far ?_ NB208_211.out _; (with_reducible repeat (first | refine blk_drewN ?_ _ | refine blk_drew ?_ | refine blk_alloc ?_ _)); refine blk_far ?_ NB208_211.out _; (with_reducible repeat (first | refine blk_drewN ?_ _ | refine blk_drew ?_ | refine blk_alloc ?_ _)); exact BK208.out) hb); have n1_ := Aside0.mk (blk_below (g := gb209) (o := .cells #[.int .i64 0, .bool false] 25 (0, 0)) (by (with_reducible repeat (first | refine blk_drewN ?_ _ | refine blk_drew ?_ | refine blk_alloc ?_ _)); refine blk_far ?_ NB209_211.out _; (with_reducible repeat (first | refine blk_drewN ?_ _ | refine blk_drew ?_ | refine blk_alloc ?_ _)); refine blk_far ?_ NB209_211.out _; (with_reducible repeat (first | refine blk_drewN ?_ _ | refine blk_drew ?_ | refine blk_alloc ?_ _)); exact BK209.out) hb); have n2_ := Aside0.mk (blk_below (g := gb211) (o := .cells #[.int .i64 (wrap64 (a0_0 + a1)), .bool a2] 25 (0, 0)) (by (with_reducible repeat (first | refine blk_drewN ?_ _ | refine blk_drew ?_ | refine blk_alloc ?_ _)); refine blk_put (cs := #[.int .i64 (wrap64 (a0_0 + a1)), .bool false]) ?_ 1 _ rfl; (with_reducible repeat (first | refine blk_drewN ?_ _ | refine blk_drew ?_ | refine blk_alloc ?_ _)); refine blk_put (cs := #[.int .i64 0, .bool false]) ?_ 0 _ rfl; (with_reducible repeat (first | refine blk_drewN ?_ _ | refine blk_drew ?_ | refine blk_alloc ?_ _)); exact BK211.out) hb); have n3_ := Aside0.mk (below_step (by repeat (first | (with_reducible first | exact HB.out | apply below_alloc | apply pw_below_drewN | apply below_drew1 | refine below_set ?_ GE208.out | refine below_set ?_ GE209.out | refine below_set ?_ GE211.out) | exact HB.out)) hb); clear BK208; clear BK209; clear BK211; clear HB; have BK208 := n0_; have BK209 := n1_; have BK211 := n2_; have HB := n3_; clear n0_ n1_ n2_ n3_; (try clear hb); (try clear hb2); (try clear hk); (try clear hi); have hcz31_0 : w30.cell? ⟨gb211, 0, none⟩ = some (.int .i64 (wrap64 (a0_0 + a1))) := (blk_cell BK211.out 0).trans rfl; have hcz31_1 : w30.cell? ⟨gb211, 1, none⟩ = some (.bool a2) := (blk_cell BK211.out 1).trans rfl; have hfz31_0 := blk_frozen BK211.out 0; have hfz31_1 := blk_frozen BK211.out 1; have hcz32_0 : w30.cell? ⟨gb209, 0, none⟩ = some (.int .i64 0) := (blk_cell BK209.out 0).trans rfl; have hcz32_1 : w30.cell? ⟨gb209, 1, none⟩ = some (.bool false) := (blk_cell BK209.out 1).trans rfl; have hfz32_0 := blk_frozen BK209.out 0; have hfz32_1 := blk_frozen BK209.out 1))
    refine bodyPost_ret (results_ct rfl _ _ gb209 25 #[.int .i64 (wrap64 (a0_0 + a1)), .bool a2] (0, 0) _ rfl (by (with_reducible repeat (first | refine blk_drewN ?_ _ | refine blk_drew ?_ | refine blk_alloc ?_ _)); refine blk_put (cs := #[.int .i64 (wrap64 (a0_0 + a1)), .bool false]) ?_ 1 _ rfl; (with_reducible repeat (first | refine blk_drewN ?_ _ | refine blk_drew ?_ | refine blk_alloc ?_ _)); refine blk_put (cs := #[.int .i64 0, .bool false]) ?_ 0 _ rfl; (with_reducible repeat (first | refine blk_drewN ?_ _ | refine blk_drew ?_ | refine blk_alloc ?_ _)); exact BK209.out) Tryd.underlying25 rfl (by kernel_rfl)) rfl ?_
    exact ⟨by first | rfl | (simp [errW_none, errW_some] <;> rfl) | (simp [*, errW_none, errW_some] <;> rfl), by repeat (first | (with_reducible first | exact HB.out | apply below_alloc | apply pw_below_drewN | apply below_drew1 | refine below_set ?_ GE208.out | refine below_set ?_ GE209.out | refine below_set ?_ GE211.out) | exact HB.out)⟩
   replace c23 := Bool.eq_false_iff.mpr c23
   subst c23
   have H1 : (some (0, false, false)) = some (r1, r2, r3) := by rw [if_neg (show ¬ (false = true) by decide)] at H; exact H
   clear H
   have H := H1
   clear H1
   simp only [Option.some.injEq, Prod.mk.injEq] at H
   obtain ⟨rfl, rfl, rfl⟩ := H
   have hnb33 := NB208_209.out
   have hnc33 := NB209_208.out
   have hcz34_0 : wc.cell? ⟨gb208, 0, none⟩ = some (.int .i64 a0_0) := (blk_cell BK208.out 0).trans rfl
   have hcz34_1 : wc.cell? ⟨gb208, 1, none⟩ = some (.bool a0_1) := (blk_cell BK208.out 1).trans rfl
   have hfz34_0 := blk_frozen BK208.out 0
   have hfz34_1 := blk_frozen BK208.out 1
   go_wp2_with (first | ((with_reducible refine gate_dst (N := 8) rfl ?_); refine box_event ?hg (N := 8) ?hd (cs := #[.int .i64 0, .bool false]) (t := 25) ?hr ?_; (case hd => rfl); (case hg => rfl); (case hr => first | (go_simp; done) | (go_simp; rfl)); intro gb211 hg w35 hbox hb; have n0_ := Aside0.mk (blk_below (g := gb208) (o := .cells #[.int .i64 a0_0, .bool a0_1] 25 (0, 0)) (by (with_reducible repeat (first | refine blk_drewN ?_ _ | refine blk_drew ?_ | refine blk_alloc ?_ _)); exact BK208.out) hb); have n1_ := Aside0.mk (blk_below (g := gb209) (o := .cells #[.int .i64 0, .bool false] 25 (0, 0)) (by (with_reducible repeat (first | refine blk_drewN ?_ _ | refine blk_drew ?_ | refine blk_alloc ?_ _)); exact BK209.out) hb); have n2_ := Aside0.mk (below_step (by repeat (first | (with_reducible first | exact HB.out | apply below_alloc | apply pw_below_drewN | apply below_drew1 | refine below_set ?_ GE208.out | refine below_set ?_ GE209.out) | exact HB.out)) hb); have n3_ := Aside0.mk (hbox); have n4_ := Aside0.mk ((by rw [hg]; exact (below_size (by repeat (first | (with_reducible first | exact HB.out | apply below_alloc | apply pw_below_drewN | apply below_drew1 | refine below_set ?_ GE208.out | refine below_set ?_ GE209.out) | exact HB.out))) : w.heap.size ≤ gb211)); have n5_ := Aside0.mk ((by rw [hg]; exact (below_size (by repeat (first | (with_reducible first | exact HB.out | apply below_alloc | apply pw_below_drewN | apply below_drew1 | refine below_set ?_ GE208.out | refine below_set ?_ GE209.out) | exact HB.out))) : w.heap.size ≤ gb211)); have n6_ := Aside0.mk ((by rw [hg]; exact Nat.ne_of_lt (blk_lt (g := gb208) (o := .cells #[.int .i64 a0_0, .bool a0_1] 25 (0, 0)) (by (with_reducible repeat (first | refine blk_drewN ?_ _ | refine blk_drew ?_ | refine blk_alloc ?_ _)); exact BK208.out)) : gb208 ≠ gb211)); have n7_ := Aside0.mk ((by rw [hg]; exact Nat.ne_of_gt (blk_lt (g := gb208) (o := .cells #[.int .i64 a0_0, .bool a0_1] 25 (0, 0)) (by (with_reducible repeat (first | refine blk_drewN ?_ _ | refine blk_drew ?_ | refine blk_alloc ?_ _)); exact BK208.out)) : gb211 ≠ gb208)); have n8_ := Aside0.mk ((by rw [hg]; exact Nat.ne_of_lt (blk_lt (g := gb209) (o := .cells #[.int .i64 0, .bool false] 25 (0, 0)) (by (with_reducible repeat (first | refine blk_drewN ?_ _ | refine blk_drew ?_ | refine blk_alloc ?_ _)); exact BK209.out)) : gb209 ≠ gb211)); have n9_ := Aside0.mk ((by rw [hg]; exact Nat.ne_of_gt (blk_lt (g := gb209) (o := .cells #[.int .i64 0, .bool false] 25 (0, 0)) (by (with_reducible repeat (first | refine blk_drewN ?_ _ | refine blk_drew ?_ | refine blk_alloc ?_ _)); exact BK209.out)) : gb211 ≠ gb209)); clear BK208; clear BK209; clear HB; have BK208 := n0_; have BK209 := n1_; have HB := n2_; have BK211 := n3_; have GW211 := n4_; have GE211 := n5_; have NB208_211 := n6_; have NB211_208 := n7_; have NB209_211 := n8_; have NB211_209 := n9_; clear n0_ n1_ n2_ n3_ n4_ n5_ n6_ n7_ n8_ n9_; clear hb hbox hg; have hnb36 := NB211_208.out; have hnc36 := NB208_211.out; have hnb37 := NB211_209.out; have hnc37 := NB209_211.out; have hcz38_0 : w35.cell? ⟨gb211, 0, none⟩ = some (.int .i64 0) := (blk_cell BK211.out 0).trans rfl; have hcz38_1 : w35.cell? ⟨gb211, 1, none⟩ = some (.bool false) := (blk_cell BK211.out 1).trans rfl; have hfz38_0 := blk_frozen BK211.out 0; have hfz38_1 := blk_frozen BK211.out 1) | ((with_reducible refine gate_callee (f := 39) rfl ?_); refine goesL_ (some 28) rfl rfl Tryd.func39 (by kernel_rfl) rfl #[.agg #[.int .i64 (wrap64 (a0_0 + a1)), .bool a2]] rfl (by (try simp only [List.map_toArray, List.map_cons, List.map_nil]); first | done | rfl | (simp only [List.length_drop, List.length_take]; rfl)) ?_; (with_reducible refine (impl_Tone_valid.calls (wrap64 (a0_0 + a1)) a2 false _ A22.out).mono ?_); rintro e w39 ⟨rfl, hb⟩; refine ⟨_, rfl, ?_⟩; have n0_ := Aside0.mk (blk_below (g := gb208) (o := .cells #[.int .i64 a0_0, .bool a0_1] 25 (0, 0)) (by (with_reducible repeat (first | refine blk_drewN ?_ _ | refine blk_drew ?_ | refine blk_alloc ?_ _)); refine blk_far ?_ NB208_211.out _; (with_reducible repeat (first | refine blk_drewN ?_ _ | refine blk_drew ?_ | refine blk_alloc ?_ _)); refine blk_far ?_ NB208_211.out _; (with_reducible repeat (first | refine blk_drewN ?_ _ | refine blk_drew ?_ | refine blk_alloc ?_ _)); exact BK208.out) hb); have n1_ := Aside0.mk (blk_below (g := gb209) (o := .cells #[.int .i64 0, .bool false] 25 (0, 0)) (by (with_reducible repeat (first | refine blk_drewN ?_ _ | refine blk_drew ?_ | refine blk_alloc ?_ _)); refine blk_far ?_ NB209_211.out _; (with_reducible repeat (first | refine blk_drewN ?_ _ | refine blk_drew ?_ | refine blk_alloc ?_ _)); refine blk_far ?_ NB209_211.out _; (with_reducible repeat (first | refine blk_drewN ?_ _ | refine blk_drew ?_ | refine blk_alloc ?_ _)); exact BK209.out) hb); have n2_ := Aside0.mk (blk_below (g := gb211) (o := .cells #[.int .i64 (wrap64 (a0_0 + a1)), .bool a2] 25 (0, 0)) (by (with_reducible repeat (first | refine blk_drewN ?_ _ | refine blk_drew ?_ | refine blk_alloc ?_ _)); refine blk_put (cs := #[.int .i64 (wrap64 (a0_0 + a1)), .bool false]) ?_ 1 _ rfl; (with_reducible repeat (first | refine blk_drewN ?_ _ | refine blk_drew ?_ | refine blk_alloc ?_ _)); refine blk_put (cs := #[.int .i64 0, .bool false]) ?_ 0 _ rfl; (with_reducible repeat (first | refine blk_drewN ?_ _ | refine blk_drew ?_ | refine blk_alloc ?_ _)); exact BK211.out) hb); have n3_ := Aside0.mk (below_step (by repeat (first | (with_reducible first | exact HB.out | apply below_alloc | apply pw_below_drewN | apply below_drew1 | refine below_set ?_ GE208.out | refine below_set ?_ GE209.out | refine below_set ?_ GE211.out) | exact HB.out)) hb); clear BK208; clear BK209; clear BK211; clear HB; have BK208 := n0_; have BK209 := n1_; have BK211 := n2_; have HB := n3_; clear n0_ n1_ n2_ n3_; (try clear hb); (try clear hb2); (try clear hk); (try clear hi); have hcz40_0 : w39.cell? ⟨gb209, 0, none⟩ = some (.int .i64 0) := (blk_cell BK209.out 0).trans rfl; have hcz40_1 : w39.cell? ⟨gb209, 1, none⟩ = some (.bool false) := (blk_cell BK209.out 1).trans rfl; have hfz40_0 := blk_frozen BK209.out 0; have hfz40_1 := blk_frozen BK209.out 1))
   refine bodyPost_ret (results_ct rfl _ _ gb209 25 #[.int .i64 0, .bool false] (0, 0) _ rfl (by (with_reducible repeat (first | refine blk_drewN ?_ _ | refine blk_drew ?_ | refine blk_alloc ?_ _)); refine blk_put (cs := #[.int .i64 0, .bool false]) ?_ 1 _ rfl; (with_reducible repeat (first | refine blk_drewN ?_ _ | refine blk_drew ?_ | refine blk_alloc ?_ _)); refine blk_put (cs := #[.int .i64 0, .bool false]) ?_ 0 _ rfl; (with_reducible repeat (first | refine blk_drewN ?_ _ | refine blk_drew ?_ | refine blk_alloc ?_ _)); exact BK209.out) Tryd.underlying25 rfl (by kernel_rfl)) rfl ?_
   exact ⟨by first | rfl | (simp [errW_none, errW_some] <;> rfl) | (simp [*, errW_none, errW_some] <;> rfl), by repeat (first | (with_reducible first | exact HB.out | apply below_alloc | apply pw_below_drewN | apply below_drew1 | refine below_set ?_ GE208.out | refine below_set ?_ GE209.out | refine below_set ?_ GE211.out) | exact HB.out)⟩
end Go.Proofs.YtlinjleahnccgaaDoor.E
end
section
namespace Go.Proofs.YtlinjleahnccgaaDoor.E
open Go.RowKit Go.Proofs.YtlinjleahnccgaaDoorW.PrintWords Go.Proofs.YtlinjleahnccgaaDoorW.PrintLast Go.Proofs.YtlinjleahnccgaaDoorW.PrintMore
attribute [local go_sem] max2_int min2_int max_two min_two max_three min_three max_four min_four
set_option linter.unusedVariables false
set_option linter.unusedSimpArgs false
attribute [local go_sem] str_leq_ str_gtr_ str_geq_
def impl_MelodyValid.l0 : Nat → List (S25) → Int → Int → Option (Bool)
 | 0, _, _, _ => none
 | k + 1, x8, x9, x10 => if x10 < x9 then (if 0 ≤ x10 then (if x10 < (x8.length : Int) then ((impl_Tone_valid.f ((rd_T25 x8 x10).f0) ((rd_T25 x8 x10).f1)).bind fun t283 => (if t283 = true then (impl_MelodyValid.l0 k x8 x9 (wrap64 (x10 + 1))) else (some false))) else (none)) else (none)) else (some true)
def impl_MelodyValid.f (k : Nat) (l0 : List (S25)) : Option (Bool) := if (l0.length : Int) > 24 then (some false) else (impl_MelodyValid.l0 k l0 (l0.length : Int) 0)
set_option maxHeartbeats 8000000 in
set_option maxRecDepth 100000 in
theorem impl_MelodyValid.calls (k : Nat) (A0 : Option Addr) (c0 : Nat) (l0 : List (S25)) (r : Bool) (w : World) (hr0 : Kd.C k25 w A0 l0.length l0) (hc0 : l0.length ≤ c0) (h : impl_MelodyValid.f k l0 = some r) :
  Calls Tryd.prog 49 #[.slice A0 l0.length c0] w fun e w' => e = .returned (.bool r) ∧ Below w.heap.size w w' := by
 have hu25 := Tryd.underlying25
 have HR0 := Aside0.mk hr0
 have HC0 := Aside0.mk hc0
 clear hr0 hc0
 have HB := Aside0.mk (Below.refl w.heap.size w)
 have H : (if (l0.length : Int) > 24 then (some false) else (impl_MelodyValid.l0 k l0 (l0.length : Int) 0)) = some r := h
 clear h
 by_cases c2 : (l0.length : Int) > 24
 ·rw [if_pos c2] at H
  have c2b0 : decide (24 < (l0.length : Int)) = true := decide_eq_true c2
  have c2b1 : decide (24 < l0.length) = true := decide_eq_true (by omega)
  clear c2
  obtain rfl := Option.some.inj H
  go_enter Tryd.func49, Tryd.ntmps49
  go_wp2
  go_ret
  exact ⟨by first | rfl | (simp [errW_none, errW_some] <;> rfl) | (simp [*, errW_none, errW_some] <;> rfl), by repeat (first | (with_reducible first | exact HB.out | apply below_alloc | apply pw_below_drewN | apply below_drew1) | exact HB.out)⟩
 rw [if_neg c2] at H
 have c2b0 : decide (24 < (l0.length : Int)) = false := decide_eq_false c2
 have c2b1 : decide (24 < l0.length) = false := decide_eq_false (by omega)
 clear c2
 have H' := Aside0.mk H
 clear H
 go_enter Tryd.func49, Tryd.ntmps49
 go_wp2
 go_loopg [10] k (fun kq v10 w' => ∃ (x10_1 : Int), v10 = .int .i64 x10_1 ∧ Aside0 (impl_MelodyValid.l0 kq l0 (l0.length : Int) x10_1 = some r) ∧ Aside0 (kq ≤ k) ∧ Aside0 (Below w.heap.size w w'))
 case atStart => exact ⟨(0), (by first | rfl | (simp; done) | (simp [*]; done)), H', ⟨Nat.le_refl _⟩, ⟨by repeat (first | (with_reducible first | exact HB.out | apply below_alloc | apply pw_below_drewN | apply below_drew1) | exact HB.out)⟩⟩
 case round =>
  clear H'
  try clear c2
  try clear c2b0
  try clear c2b1
  try clear p2
  obtain ⟨x10_1, rfl, HA, HK1, HB⟩ := hrel
  cases gk with
  | zero => exact absurd HA.out (by simp [impl_MelodyValid.l0])
  | succ k1 =>
   have H := HA.out
   clear HA
   simp only [impl_MelodyValid.l0] at H
   by_cases c3 : x10_1 < (l0.length : Int)
   rotate_left
   ·rw [if_neg c3] at H
    have c3b0 : decide (x10_1 < (l0.length : Int)) = false := decide_eq_false c3
    clear c3
    obtain rfl := Option.some.inj H
    go_wp2
    go_ret
    exact ⟨by first | rfl | (simp [errW_none, errW_some] <;> rfl) | (simp [*, errW_none, errW_some] <;> rfl), by repeat (first | (with_reducible first | exact HB.out | apply below_alloc | apply pw_below_drewN | apply below_drew1) | exact HB.out)⟩
   rw [if_pos c3] at H
   have c3b0 : decide (x10_1 < (l0.length : Int)) = true := decide_eq_true c3
   clear c3
   by_cases c4 : 0 ≤ x10_1
   rotate_left
   ·rw [if_neg c4] at H
    exact absurd H (by simp)
   rw [if_pos c4] at H
   have c4b0 : decide (0 ≤ x10_1) = true := decide_eq_true c4
   clear c4
   by_cases c5 : x10_1 < (l0.length : Int)
   rotate_left
   ·rw [if_neg c5] at H
    exact absurd H (by simp)
   rw [if_pos c5] at H
   have c5b0 : decide (x10_1 < (l0.length : Int)) = true := decide_eq_true c5
   clear c5
   replace H := Option.bind_eq_some_iff.mp H
   obtain ⟨t283, A60, H⟩ := H
   replace H : (if t283 = true then (impl_MelodyValid.l0 k1 l0 (l0.length : Int) (wrap64 (x10_1 + 1))) else (some false)) = some r := H
   have A6 := Aside0.mk A60
   clear A60
   by_cases c7 : t283 = true
   rotate_left
   ·replace c7 := Bool.eq_false_iff.mpr c7
    subst c7
    have H1 : (some false) = some r := by rw [if_neg (show ¬ (false = true) by decide)] at H; exact H
    clear H
    have H := H1
    clear H1
    obtain rfl := Option.some.inj H
    have p281 : 0 ≤ (x10_1 : Int) := of_decide_eq_true (by first | (with_reducible assumption) | assumption)
    have q281 : x10_1 < (l0.length : Int) := of_decide_eq_true (by first | (with_reducible assumption) | assumption)
    obtain ⟨ad281, e281, hx281_0, hx281_1⟩ := at_T25 HR0.out x10_1 p281 q281
    cases e281
    replace hx281_0 := (HB.out.cell (World.block_lt_of_cell? w _ hx281_0)).trans hx281_0
    replace hx281_1 := (HB.out.cell (World.block_lt_of_cell? w _ hx281_1)).trans hx281_1
    replace p281 := eq_true p281
    replace q281 := eq_true q281
    go_wp2_with (first | ((with_reducible refine gate_dst (N := 4) rfl ?_); refine box_event ?hg (N := 4) ?hd (cs := #[.int .i64 0, .bool false]) (t := 25) ?hr ?_; (case hd => rfl); (case hg => rfl); (case hr => first | (go_simp; done) | (go_simp; rfl)); intro gb282 hg w11 hbox hb; have n0_ := Aside0.mk (below_step (by repeat (first | (with_reducible first | exact HB.out | apply below_alloc | apply pw_below_drewN | apply below_drew1) | exact HB.out)) hb); have n1_ := Aside0.mk (hbox); have n2_ := Aside0.mk ((by rw [hg]; exact (below_size (by repeat (first | (with_reducible first | exact HB.out | apply below_alloc | apply pw_below_drewN | apply below_drew1) | exact HB.out))) : w.heap.size ≤ gb282)); have n3_ := Aside0.mk ((by rw [hg]; exact (below_size (by repeat (first | (with_reducible first | exact HB.out | apply below_alloc | apply pw_below_drewN | apply below_drew1) | exact HB.out))) : w.heap.size ≤ gb282)); clear HB; have HB := n0_; have BK282 := n1_; have GW282 := n2_; have GE282 := n3_; clear n0_ n1_ n2_ n3_; clear hb hbox hg; have hcz12_0 : w11.cell? ⟨gb282, 0, none⟩ = some (.int .i64 0) := (blk_cell BK282.out 0).trans rfl; have hcz12_1 : w11.cell? ⟨gb282, 1, none⟩ = some (.bool false) := (blk_cell BK282.out 1).trans rfl; have hfz12_0 := blk_frozen BK282.out 0; have hfz12_1 := blk_frozen BK282.out 1) | ((with_reducible refine gate_callee (f := 39) rfl ?_); refine goesL_ (some 15) rfl rfl Tryd.func39 (by kernel_rfl) rfl #[.agg #[.int .i64 ((rd_T25 l0 x10_1).f0), .bool ((rd_T25 l0 x10_1).f1)]] rfl (by (try simp only [List.map_toArray, List.map_cons, List.map_nil]); first | done | rfl | (simp only [List.length_drop, List.length_take]; rfl)) ?_; (with_reducible refine (impl_Tone_valid.calls ((rd_T25 l0 x10_1).f0) ((rd_T25 l0 x10_1).f1) false _ A6.out).mono ?_); rintro e w13 ⟨rfl, hb⟩; refine ⟨_, rfl, ?_⟩; have n0_ := Aside0.mk (blk_below (g := gb282) (o := .cells #[.int .i64 ((rd_T25 l0 x10_1).f0), .bool ((rd_T25 l0 x10_1).f1)] 25 (0, 0)) (by (with_reducible repeat (first | refine blk_drewN ?_ _ | refine blk_drew ?_ | refine blk_alloc ?_ _)); refine blk_put (cs := #[.int .i64 ((rd_T25 l0 x10_1).f0), .bool false]) ?_ 1 _ rfl; (with_reducible repeat (first | refine blk_drewN ?_ _ | refine blk_drew ?_ | refine blk_alloc ?_ _)); refine blk_put (cs := #[.int .i64 0, .bool false]) ?_ 0 _ rfl; (with_reducible repeat (first | refine blk_drewN ?_ _ | refine blk_drew ?_ | refine blk_alloc ?_ _)); exact BK282.out) hb); have n1_ := Aside0.mk (below_step (by repeat (first | (with_reducible first | exact HB.out | apply below_alloc | apply pw_below_drewN | apply below_drew1 | refine below_set ?_ GE282.out) | exact HB.out)) hb); clear BK282; clear HB; have BK282 := n0_; have HB := n1_; clear n0_ n1_; (try clear hb); (try clear hb2); (try clear hk); (try clear hi)))
    go_ret
    exact ⟨by first | rfl | (simp [errW_none, errW_some] <;> rfl) | (simp [*, errW_none, errW_some] <;> rfl), by repeat (first | (with_reducible first | exact HB.out | apply below_alloc | apply pw_below_drewN | apply below_drew1 | refine below_set ?_ GE282.out) | exact HB.out)⟩
   subst c7
   have H1 : (impl_MelodyValid.l0 k1 l0 (l0.length : Int) (wrap64 (x10_1 + 1))) = some r := by rw [if_pos rfl] at H; exact H
   clear H
   have H := H1
   clear H1
   have H' := Aside0.mk H
   clear H
   have p281 : 0 ≤ (x10_1 : Int) := of_decide_eq_true (by first | (with_reducible assumption) | assumption)
   have q281 : x10_1 < (l0.length : Int) := of_decide_eq_true (by first | (with_reducible assumption) | assumption)
   obtain ⟨ad281, e281, hx281_0, hx281_1⟩ := at_T25 HR0.out x10_1 p281 q281
   cases e281
   replace hx281_0 := (HB.out.cell (World.block_lt_of_cell? w _ hx281_0)).trans hx281_0
   replace hx281_1 := (HB.out.cell (World.block_lt_of_cell? w _ hx281_1)).trans hx281_1
   replace p281 := eq_true p281
   replace q281 := eq_true q281
   go_wp2_with (first | ((with_reducible refine gate_dst (N := 4) rfl ?_); refine box_event ?hg (N := 4) ?hd (cs := #[.int .i64 0, .bool false]) (t := 25) ?hr ?_; (case hd => rfl); (case hg => rfl); (case hr => first | (go_simp; done) | (go_simp; rfl)); intro gb282 hg w8 hbox hb; have n0_ := Aside0.mk (below_step (by repeat (first | (with_reducible first | exact HB.out | apply below_alloc | apply pw_below_drewN | apply below_drew1) | exact HB.out)) hb); have n1_ := Aside0.mk (hbox); have n2_ := Aside0.mk ((by rw [hg]; exact (below_size (by repeat (first | (with_reducible first | exact HB.out | apply below_alloc | apply pw_below_drewN | apply below_drew1) | exact HB.out))) : w.heap.size ≤ gb282)); have n3_ := Aside0.mk ((by rw [hg]; exact (below_size (by repeat (first | (with_reducible first | exact HB.out | apply below_alloc | apply pw_below_drewN | apply below_drew1) | exact HB.out))) : w.heap.size ≤ gb282)); clear HB; have HB := n0_; have BK282 := n1_; have GW282 := n2_; have GE282 := n3_; clear n0_ n1_ n2_ n3_; clear hb hbox hg; have hcz9_0 : w8.cell? ⟨gb282, 0, none⟩ = some (.int .i64 0) := (blk_cell BK282.out 0).trans rfl; have hcz9_1 : w8.cell? ⟨gb282, 1, none⟩ = some (.bool false) := (blk_cell BK282.out 1).trans rfl; have hfz9_0 := blk_frozen BK282.out 0; have hfz9_1 := blk_frozen BK282.out 1) | ((with_reducible refine gate_callee (f := 39) rfl ?_); refine goesL_ (some 15) rfl rfl Tryd.func39 (by kernel_rfl) rfl #[.agg #[.int .i64 ((rd_T25 l0 x10_1).f0), .bool ((rd_T25 l0 x10_1).f1)]] rfl (by (try simp only [List.map_toArray, List.map_cons, List.map_nil]); first | done | rfl | (simp only [List.length_drop, List.length_take]; rfl)) ?_; (with_reducible refine (impl_Tone_valid.calls ((rd_T25 l0 x10_1).f0) ((rd_T25 l0 x10_1).f1) true _ A6.out).mono ?_); rintro e w10 ⟨rfl, hb⟩; refine ⟨_, rfl, ?_⟩; have n0_ := Aside0.mk (blk_below (g := gb282) (o := .cells #[.int .i64 ((rd_T25 l0 x10_1).f0), .bool ((rd_T25 l0 x10_1).f1)] 25 (0, 0)) (by (with_reducible repeat (first | refine blk_drewN ?_ _ | refine blk_drew ?_ | refine blk_alloc ?_ _)); refine blk_put (cs := #[.int .i64 ((rd_T25 l0 x10_1).f0), .bool false]) ?_ 1 _ rfl; (with_reducible repeat (first | refine blk_drewN ?_ _ | refine blk_drew ?_ | refine blk_alloc ?_ _)); refine blk_put (cs := #[.int .i64 0, .bool false]) ?_ 0 _ rfl; (with_reducible repeat (first | refine blk_drewN ?_ _ | refine blk_drew ?_ | refine blk_alloc ?_ _)); exact BK282.out) hb); have n1_ := Aside0.mk (below_step (by repeat (first | (with_reducible first | exact HB.out | apply below_alloc | apply pw_below_drewN | apply below_drew1 | refine below_set ?_ GE282.out) | exact HB.out)) hb); clear BK282; clear HB; have BK282 := n0_; have HB := n1_; clear n0_ n1_; (try clear hb); (try clear hb2); (try clear hk); (try clear hi)))
   go_roundg k1
   case measure => have := HK1.out; omega
   case rel => exact ⟨(wrap64 (x10_1 + 1)), (by first | rfl | (simp; done) | (simp [*]; done)), H', ⟨by have := HK1.out; omega⟩, ⟨by repeat (first | (with_reducible first | exact HB.out | apply below_alloc | apply pw_below_drewN | apply below_drew1 | refine below_set ?_ GE282.out) | exact HB.out)⟩⟩
end Go.Proofs.YtlinjleahnccgaaDoor.E
end
section
namespace Go.Proofs.YtlinjleahnccgaaDoor.E
open Go.RowKit Go.Proofs.YtlinjleahnccgaaDoorW.PrintWords Go.Proofs.YtlinjleahnccgaaDoorW.PrintLast Go.Proofs.YtlinjleahnccgaaDoorW.PrintMore
attribute [local go_sem] max2_int min2_int max_two min_two max_three min_three max_four min_four
set_option linter.unusedVariables false
set_option linter.unusedSimpArgs false
attribute [local go_sem] str_leq_ str_gtr_ str_geq_
def impl_Tone_height.f (a0_0 : Int) (a0_1 : Bool) : Option Int := if 0 ≤ a0_0 then (if a0_0 ≤ 100 then some (heights.getD (a0_0 % 7).toNat 0 + 12 * (a0_0 / 7) - (if a0_1 = true then 1 else 0)) else none) else none
theorem heights_le (i : Nat) : 0 ≤ heights.getD i 0 ∧ heights.getD i 0 ≤ 10 := by
 unfold heights
 match i with
 | 0 => decide
 | 1 => decide
 | 2 => decide
 | 3 => decide
 | 4 => decide
 | 5 => decide
 | 6 => decide
 | _ + 7 => simp
set_option maxHeartbeats 8000000 in
set_option maxRecDepth 100000 in
theorem impl_Tone_height.calls (a0_0 : Int) (a0_1 : Bool) (r : Int) (w : World) (hG : GOk [1] w) (h : impl_Tone_height.f a0_0 a0_1 = some r) :
  Calls Tryd.prog 56 #[.agg #[.int .i64 a0_0, .bool a0_1]] w fun e w' => e = .returned (.int .i64 r) ∧ Below w.heap.size w w' := by
 have hu25 := Tryd.underlying25
 unfold impl_Tone_height.f at h
 by_cases h1 : 0 ≤ a0_0
 rotate_left
 ·rw [if_neg h1] at h; cases h
 by_cases h2 : a0_0 ≤ 100
 ·rw [if_pos h1, if_pos h2] at h
  obtain rfl := Option.some.inj h
  have hh := heights_le (a0_0 % 7).toNat
  revert hh
  have hc : (w.alloc (Obj.cells #[Value.int IntKind.i64 a0_0, Value.bool a0_1] 25)).cell? ⟨1, (a0_0 % 7).toNat, none⟩ = some (.int .i64 (heights.getD (a0_0 % 7).toNat 0)) := cell_keep (hG 1 (by decide) (a0_0 % 7).toNat (by omega)) (below_alloc (Below.refl _ _) _)
  revert hc
  generalize heights.getD (a0_0 % 7).toNat 0 = z
  intro hc hh
  cases a0_1
  all_goals
   go_enter Tryd.func56, Tryd.ntmps56
   go_wp2
   go_quiet (fail)
   go_wp2
   go_ret
   exact ⟨by simp, pw_below_drewN (below_alloc (Below.refl _ _) _) _⟩
 ·rw [if_pos h1, if_neg h2] at h; cases h
end Go.Proofs.YtlinjleahnccgaaDoor.E
end
section
namespace Go.Proofs.YtlinjleahnccgaaDoor.E
open Go.RowKit Go.Proofs.YtlinjleahnccgaaDoorW.PrintWords Go.Proofs.YtlinjleahnccgaaDoorW.PrintLast Go.Proofs.YtlinjleahnccgaaDoorW.PrintMore
attribute [local go_sem] max2_int min2_int max_two min_two max_three min_three max_four min_four
set_option linter.unusedVariables false
set_option linter.unusedSimpArgs false
attribute [local go_sem] str_leq_ str_gtr_ str_geq_
def strconv_Itoa.f (a0 : Int) : Option ByteArray := if 0 ≤ a0 then (if a0 < 100 then some ⟨(Go.Lib.decDigits a0.toNat).toArray⟩ else none) else none
end Go.Proofs.YtlinjleahnccgaaDoor.E
end
section
namespace Go.Proofs.YtlinjleahnccgaaDoor.E
open Go.RowKit Go.Proofs.YtlinjleahnccgaaDoorW.PrintWords Go.Proofs.YtlinjleahnccgaaDoorW.PrintLast Go.Proofs.YtlinjleahnccgaaDoorW.PrintMore
attribute [local go_sem] max2_int min2_int max_two min_two max_three min_three max_four min_four
set_option linter.unusedVariables false
set_option linter.unusedSimpArgs false
attribute [local go_sem] str_leq_ str_gtr_ str_geq_
def impl_Tone_text.f (a0_0 : Int) (a0_1 : Bool) : Option (ByteArray) := (impl_Tone_letter.f a0_0 a0_1).bind fun t135 => (if a0_1 = true then ((strconv_Itoa.f (wrap64 (Int.tdiv a0_0 7))).bind fun t136 => (if 1 + t136.size ≤ 9223372036854775807 then (some ((⟨#[98]⟩ : ByteArray) ++ t136)) else (none))) else ((strconv_Itoa.f (wrap64 (Int.tdiv a0_0 7))).bind fun t137 => (if t135.size + t137.size ≤ 9223372036854775807 then (some (t135 ++ t137)) else (none))))
end Go.Proofs.YtlinjleahnccgaaDoor.E
end
section
namespace Go.Proofs.YtlinjleahnccgaaDoor.E
open Go.RowKit Go.Proofs.YtlinjleahnccgaaDoorW.PrintWords Go.Proofs.YtlinjleahnccgaaDoorW.PrintLast Go.Proofs.YtlinjleahnccgaaDoorW.PrintMore
attribute [local go_sem] max2_int min2_int max_two min_two max_three min_three max_four min_four
set_option linter.unusedVariables false
set_option linter.unusedSimpArgs false
attribute [local go_sem] str_leq_ str_gtr_ str_geq_
def strings_Join.f (l0 : List ByteArray) (a1 : ByteArray) : Option ByteArray := if l0.length ≤ 140737488355328 then (if (Go.Lib.join (l0.map (·.data.toList)) a1.data.toList).length ≤ 140737488355328 then some ⟨(Go.Lib.join (l0.map (·.data.toList)) a1.data.toList).toArray⟩ else none) else none
end Go.Proofs.YtlinjleahnccgaaDoor.E
end
section
namespace Go.Proofs.YtlinjleahnccgaaDoor.E
open Go.RowKit Go.Proofs.YtlinjleahnccgaaDoorW.PrintWords Go.Proofs.YtlinjleahnccgaaDoorW.PrintLast Go.Proofs.YtlinjleahnccgaaDoorW.PrintMore
attribute [local go_sem] max2_int min2_int max_two min_two max_three min_three max_four min_four
set_option linter.unusedVariables false
set_option linter.unusedSimpArgs false
attribute [local go_sem] str_leq_ str_gtr_ str_geq_
def mtWords : List S25 → Option (List ByteArray)
 | [] => some []
 | t :: ts => (impl_Tone_text.f t.f0 t.f1).bind fun x => (mtWords ts).bind fun xs => some (x :: xs)
def impl_MelodyText.f (k : Nat) (l0 : List (S25)) : Option ByteArray := (impl_MelodyValid.f k l0).bind fun v => (if v = true then (if l0.length ≤ 1000000 then ((mtWords l0).bind fun ws => strings_Join.f ws ⟨#[32]⟩) else none) else some ⟨#[]⟩)
def pr (t : S25) : Int × Bool := (t.f0, t.f1)
theorem chain_cells {w : World} {A : Option Addr} {l : List S25} (h : Kd.C k25 w A l.length l) : ∀ i : Nat, i < (l.map pr).length → ∃ ad, A = some ad ∧ w.cell? (ad.add (i * 2)) = some (.int .i64 ((l.map pr).getD i (0, false)).1) ∧ w.cell? ⟨(ad.add (i * 2)).block, (ad.add (i * 2)).off + 1, none⟩ = some (.bool ((l.map pr).getD i (0, false)).2) := by
 intro i hi
 rw [List.length_map] at hi
 obtain ⟨ad, e, z1, z2⟩ := at_T25 h (i : Int) (by omega) (by omega)
 refine ⟨ad, e, ?_, ?_⟩
 ·rw [List.getD_eq_getElem?_getD, List.getElem?_map, List.getElem?_eq_getElem hi]
  unfold rd_T25 at z1
  rw [show ((i : Int)).toNat = i from rfl, List.getD_eq_getElem?_getD, List.getElem?_eq_getElem hi] at z1
  exact z1
 ·rw [List.getD_eq_getElem?_getD, List.getElem?_map, List.getElem?_eq_getElem hi]
  unfold rd_T25 at z2
  rw [show ((i : Int)).toNat = i from rfl, List.getD_eq_getElem?_getD, List.getElem?_eq_getElem hi] at z2
  exact z2
end Go.Proofs.YtlinjleahnccgaaDoor.E
end
section
namespace Go.Proofs.YtlinjleahnccgaaDoor.E
open Go.RowKit Go.Proofs.YtlinjleahnccgaaDoorW.PrintWords Go.Proofs.YtlinjleahnccgaaDoorW.PrintLast Go.Proofs.YtlinjleahnccgaaDoorW.PrintMore
attribute [local go_sem] max2_int min2_int max_two min_two max_three min_three max_four min_four
set_option linter.unusedVariables false
set_option linter.unusedSimpArgs false
attribute [local go_sem] str_leq_ str_gtr_ str_geq_
def mmTry (kk : Nat) (a1 a2 : Int) (t : S25) (b : Bool) (good : S25 → Option (List S25 × Bool)) (bad : Option (List S25 × Bool)) : Option (List S25 × Bool) := (impl_ToneAbove.f kk t.f0 t.f1 a1 b).bind fun r => (if r.2.2 = true then ((impl_Tone_height.f r.1 r.2.1).bind fun h1 => (impl_Tone_height.f t.f0 t.f1).bind fun h2 => (if wrap64 (h1 - h2) = a2 then good ⟨r.1, r.2.1⟩ else bad)) else bad)
def mmGo (kk : Nat) (a1 a2 : Int) : List S25 → List S25 → Option (List S25 × Bool)
 | [], acc => some (acc, true)
 | t :: ts, acc => mmTry kk a1 a2 t false (fun x => mmGo kk a1 a2 ts (acc ++ [x])) (mmTry kk a1 a2 t true (fun x => mmGo kk a1 a2 ts (acc ++ [x])) (some ([], false)))
def mmIn (kk : Nat) (a1 a2 : Int) (t : S25) (ts acc : List S25) : Nat → Option (List S25 × Bool)
 | 0 => mmTry kk a1 a2 t false (fun x => mmGo kk a1 a2 ts (acc ++ [x])) (mmTry kk a1 a2 t true (fun x => mmGo kk a1 a2 ts (acc ++ [x])) (some ([], false)))
 | 1 => mmTry kk a1 a2 t true (fun x => mmGo kk a1 a2 ts (acc ++ [x])) (some ([], false))
 | _ + 2 => some ([], false)
def impl_movedMelody.f (k : Nat) (l0 : List (S25)) (a1 : Int) (a2 : Int) : Option ((List (S25)) × Bool) := if l0.length ≤ 1000000 then mmGo k a1 a2 l0 [] else none
theorem mm_ix0 (w : World) : (Instr.index 58 (.agg #[.bool false, .bool true]) (.int .i64 0)).run Tryd.prog w = .ok (.bool false) w := by kernel_rfl
theorem mm_ix1 (w : World) : (Instr.index 58 (.agg #[.bool false, .bool true]) (.int .i64 1)).run Tryd.prog w = .ok (.bool true) w := by kernel_rfl
attribute [local go_sem] mm_ix0 mm_ix1
def impl_movedMelody.T10 : Bool × List (List Nat × List Nat) := (true, [([], []), ([0], [0]), ([1], [1]), ([2, 1, 1], [1, 2]), ([1], [1]), ([4, 1], [1, 4]), ([5, 1], [1, 5]), ([6, 1], [1, 6]), ([7, 3, 1], [1, 7]), ([3, 8, 1], [1, 3, 8]), ([1], [1]), ([9, 10, 1], [1, 9, 10]), ([1, 11], [1, 11])])
def impl_movedMelody.B10 : List Nat := [0, 1, 3, 7, 3, 19, 51, 115, 255, 511, 3, 2047, 4095]
theorem impl_movedMelody.tab10 : rtab .any (opsOf Tryd.f55 10) = impl_movedMelody.T10 := by kernel_rfl
theorem impl_movedMelody.bits10 : waitsOk impl_movedMelody.T10.2 impl_movedMelody.B10 = true := by kernel_rfl
set_option maxHeartbeats 16000000 in
set_option maxRecDepth 100000 in
theorem impl_movedMelody.calls (k : Nat) (A0 : Option Addr) (c0 : Nat) (l0 : List (S25)) (a1 : Int) (a2 : Int) (r1 : List (S25)) (r2 : Bool) (w : World) (hr0 : Kd.C k25 w A0 l0.length l0) (hc0 : l0.length ≤ c0) (hG : GOk [1] w) (h : impl_movedMelody.f k l0 a1 a2 = some (r1, r2)) :
  Calls Tryd.prog 55 #[.slice A0 l0.length c0, .int .i64 a1, .int .i64 a2] w fun e w' => ∃ v0_ : Value, e = .returned (.tuple #[v0_, .bool r2]) ∧ Kd.R k25 25 w' w.heap.size (fun _ => True) v0_ r1 ∧ Below w.heap.size w w' := by
 have hu25 := Tryd.underlying25
 have hu68 := Tryd.underlying68
 unfold impl_movedMelody.f at h
 by_cases hn : l0.length ≤ 1000000
 rotate_left
 ·rw [if_neg hn] at h; cases h
 rw [if_pos hn] at h
 have HH := Aside0.mk h
 have HR0 := Aside0.mk hr0
 have HC0 := Aside0.mk hc0
 have HG := Aside0.mk hG
 have HN := Aside0.mk hn
 have HB := Aside0.mk (Below.refl w.heap.size w)
 clear h hr0 hc0 hG hn
 go_enter Tryd.func55, Tryd.ntmps55
 go_wp2_with (first | ((with_reducible refine gate_dst (N := 15) rfl ?_); refine Kd.R_lit k25 _ 25 ?hg (N := 15) ?hd (xs := ([] : List S25)) (inner := []) (ok := fun _ => True) (okp := fun _ => True) ?hr ?hp (fun _ hk => hk) trivial (Below.refl _ _) (Nat.le_refl _) (by simp) ?_; (case hd => rfl); (case hg => rfl); (case hr => first | (go_simp; done) | (go_simp; rfl)); (case hp => exact (Reps.none _ _)); intro v8 w5 ho hb hg_ hnew_; clear hg_ hnew_; have HO := Aside0.mk (Kd.R_lower ho (below_size HB.out)); have n1_ := Aside0.mk (below_step HB.out hb); clear HB ho hb; have HB := n1_; clear n1_) | (go_at_call 50; (rw [show (l0.length) = (l0.map pr).length from (List.length_map _).symm]; (with_reducible refine (linked_calls A0 c0 (l0.map pr) _ (by rw [List.length_map]; exact HN.out) (chain_cells (Kd.C_below HR0.out HB.out))).mono ?_); rintro e w6 ⟨p, rfl, hch, hb⟩; have CH := Aside0.mk hch; have n0_ := Aside0.mk (Kd.R_below HO.out hb); have n1_ := Aside0.mk (below_step HB.out hb); clear HB HO hb hch; have HO := n0_; have HB := n1_; clear n0_ n1_)))
 go_loopg [8, 9] l0.length (fun kq v8 v9 w' => ∃ (acc rest : List S25) (p : Option Addr), v9 = .pointer p ∧ rest.length = kq ∧ acc.length + kq = l0.length ∧ Aside0 (mmGo k a1 a2 rest acc = some (r1, r2)) ∧ Aside0 (Kd.R k25 25 w' w.heap.size (fun _ => True) v8 acc) ∧ Aside0 (Chain w' p (rest.map pr)) ∧ Aside0 (Below w.heap.size w w'))
 case atStart => exact ⟨[], l0, _, rfl, rfl, by simp, HH, HO, CH, HB⟩
 case round =>
  clear HH HO CH HB
  obtain ⟨acc, rest, p, rfl, HL, HW, HH, HO, CH, HB⟩ := hrel
  cases gk with
  | zero =>
   obtain rfl := List.eq_nil_of_length_eq_zero HL
   have E := HH.out
   clear HH
   simp only [mmGo, Option.some.injEq, Prod.mk.injEq] at E
   obtain ⟨rfl, rfl⟩ := E
   obtain rfl : p = none := CH.out
   go_wp2
   go_ret2
   exact ⟨_, rfl, HO.out, HB.out⟩
  | succ k1 =>
   obtain ⟨t, ts, rfl⟩ : ∃ t ts, rest = t :: ts := by
    cases rest with
    | nil => simp at HL
    | cons t ts => exact ⟨t, ts, rfl⟩
   have HTS : Aside0 (ts.length = k1) := ⟨by simpa using HL⟩
   have HAL : Aside0 (acc.length + (k1 + 1) = l0.length) := ⟨HW⟩
   have H2 : Aside0 (mmIn k a1 a2 t ts acc 0 = some (r1, r2)) := HH
   clear HH HL HW
   obtain ⟨g, q, rfl, hbk, hch⟩ := CH.out
   have BK := Aside0.mk hbk
   have CQ := Aside0.mk hch
   clear CH hbk hch
   go_wp2
   go_loopg [8, 10, 25] 2 (fun kq v8 v10 v25 w' => ∃ (j : Nat), v10 = .bool false ∧ v25 = .int .i64 j ∧ j + kq = 2 ∧ Aside0 (mmIn k a1 a2 t ts acc j = some (r1, r2)) ∧ Aside0 (Kd.R k25 25 w' w.heap.size (fun _ => True) v8 acc) ∧ Aside0 (w'.heap[g]? = some (.cells #[.int .i64 t.f0, .bool t.f1, .pointer q] 68 (0, 0))) ∧ Aside0 (Chain w' q (ts.map pr)) ∧ Aside0 (Below w.heap.size w w'))
   case atStart => exact ⟨0, rfl, rfl, rfl, H2, HO, BK, CQ, HB⟩
   case round =>
    clear H2 HO BK CQ HB
    obtain ⟨j, rfl, rfl, HJ, H2, HO, BK, CQ, HB⟩ := hrel
    cases gk with
    | zero =>
     obtain rfl : j = 2 := by omega
     have E := H2.out
     clear H2
     simp only [mmIn, Option.some.injEq, Prod.mk.injEq] at E
     obtain ⟨rfl, rfl⟩ := E
     go_wp2
     go_ret2
     exact ⟨_, rfl, Kd.R_nil _ _ _ _ _, HB.out⟩
    | succ k2 =>
     have E := H2.out
     clear H2
     obtain rfl | rfl : j = 0 ∨ j = 1 := by omega
     ·
      unfold mmIn mmTry at E
      obtain ⟨r, A10, E⟩ := Option.bind_eq_some_iff.mp E
      obtain ⟨x, s, ok⟩ := r
      have A1 := Aside0.mk A10
      clear A10
      simp only at E
      have z0 : wr.cell? ⟨g, 0, none⟩ = some (.int .i64 t.f0) := (blk_cell BK.out 0).trans rfl
      have z1 : wr.cell? ⟨g, 1, none⟩ = some (.bool t.f1) := (blk_cell BK.out 1).trans rfl
      by_cases c3 : ok = true
      rotate_left
      ·replace c3 := Bool.eq_false_iff.mpr c3
       subst c3
       rw [if_neg (show ¬ (false = true) by decide)] at E
       have H3 : Aside0 (mmIn k a1 a2 t ts acc 1 = some (r1, r2)) := ⟨E⟩
       clear E
       go_wp2_with (first | (go_at_call 20; ((with_reducible refine (impl_ToneAbove.calls k t.f0 t.f1 a1 false x s false _ A1.out).mono ?_); rintro e w11 ⟨rfl, hb⟩; have n0_ := Aside0.mk (Kd.R_below HO.out hb); have n1_ := Aside0.mk (below_step HB.out hb); have n2_ := Aside0.mk (blk_below BK.out hb); have n3_ := Aside0.mk (Chain.below hb CQ.out); clear HO HB BK CQ hb z0 z1; have HO := n0_; have HB := n1_; have BK := n2_; have CQ := n3_; clear n0_ n1_ n2_ n3_)) | ((with_reducible refine gate_dst (N := 13) rfl ?_); refine box_event ?hg (N := 13) ?hd (cs := #[.int .i64 0, .bool false]) (t := 25) ?hr ?_; (case hd => rfl); (case hg => rfl); (case hr => first | (go_simp; done) | (go_simp; rfl)); intro gb hg w13 hbox hb; have BX := Aside0.mk hbox; have BB := Aside0.mk hb; have GB := Aside0.mk hg; clear hbox hb hg; have hcz_0 : w13.cell? ⟨gb, 0, none⟩ = some (.int .i64 0) := (blk_cell BX.out 0).trans rfl; have hcz_1 : w13.cell? ⟨gb, 1, none⟩ = some (.bool false) := (blk_cell BX.out 1).trans rfl; have hfz_0 := blk_frozen BX.out 0; have hfz_1 := blk_frozen BX.out 1))
       have BA : Aside0 (Below w11.heap.size w11 ((w13.setCell ⟨gb, 0, none⟩ (.int .i64 x)).setCell ⟨gb, 1, none⟩ (.bool s))) := ⟨below_set (below_set BB.out (Nat.le_of_eq GB.out.symm)) (Nat.le_of_eq GB.out.symm)⟩
       have n0_ := Aside0.mk (Kd.R_below HO.out BA.out)
       have n1_ := Aside0.mk (below_step HB.out BA.out)
       have n2_ := Aside0.mk (blk_below BK.out BA.out)
       have n3_ := Aside0.mk (Chain.below BA.out CQ.out)
       have n4_ : Aside0 (((w13.setCell ⟨gb, 0, none⟩ (.int .i64 x)).setCell ⟨gb, 1, none⟩ (.bool s)).heap[gb]? = some (.cells #[.int .i64 x, .bool s] 25 (0, 0))) := ⟨by refine blk_put (cs := #[.int .i64 x, .bool false]) ?_ 1 _ rfl; refine blk_put (cs := #[.int .i64 0, .bool false]) ?_ 0 _ rfl; exact BX.out⟩
       have GE : Aside0 (w.heap.size ≤ gb) := ⟨by rw [GB.out]; exact below_size HB.out⟩
       clear HO HB BK CQ BX BB BA hcz_0 hcz_1 hfz_0 hfz_1
       generalize ((w13.setCell ⟨gb, 0, none⟩ (.int .i64 x)).setCell ⟨gb, 1, none⟩ (.bool s)) = w14 at n0_ n1_ n2_ n3_ n4_ ⊢
       have HO := n0_
       have HB := n1_
       have BK := n2_
       have CQ := n3_
       have BX := n4_
       clear n0_ n1_ n2_ n3_ n4_
       have n0_ := Aside0.mk (Kd.R_drew HO.out)
       have n1_ := Aside0.mk (below_drew1 HB.out)
       have n2_ := Aside0.mk (blk_drew BK.out)
       have n3_ := Aside0.mk (Chain.drew CQ.out)
       have n4_ := Aside0.mk (blk_drew BX.out)
       clear HO HB BK CQ BX
       have HO := n0_
       have HB := n1_
       have BK := n2_
       have CQ := n3_
       have BX := n4_
       clear n0_ n1_ n2_ n3_ n4_
       refine start_ (n := 13) (S := fun w' => w'.cell? ⟨gb, 0, none⟩ = some (.int .i64 x) ∧ w'.cell? ⟨gb, 1, none⟩ = some (.bool s) ∧ w'.cell? ⟨g, 0, none⟩ = some (.int .i64 t.f0) ∧ w'.cell? ⟨g, 1, none⟩ = some (.bool t.f1)) (ds := []) #[false, false, false, false, false, false, false, false, false, false, false, false, false] (by kernel_rfl) rfl rfl ⟨(blk_cell BX.out 0).trans rfl, (blk_cell BX.out 1).trans rfl, (blk_cell BK.out 0).trans rfl, (blk_cell BK.out 1).trans rfl⟩ (fun hHeld => ?_)
       refine with_tabW impl_movedMelody.tab10 impl_movedMelody.bits10 (fun HT_ HW_ => ?_)
       generalize w14.drew = w15 at HO HB BK CQ BX hHeld ⊢
       refine pure_ (i := 0) (N := some 38) (v := ?_) (a' := ?_) #[true, false, false, false, false, false, false, false, false, false, false, false, false] rfl rfl (any_of HT_.out (by kernel_rfl)) (fun _ _ _ h => h) (Or.inl ⟨by rfl, ?_⟩) ?_ ?_
       rotate_left
       ·intro w'
        go_simp
        with_reducible rfl
       rotate_left
       ·simp only [Act.put, List.setIfInBounds_toArray, List.set_cons_zero, List.set_cons_succ, i64_w, i32_w]
        rfl
       refine pure_ (i := 1) (N := some 39) (v := ?_) (a' := ?_) #[true, true, false, false, false, false, false, false, false, false, false, false, false] rfl rfl (any_of HT_.out (by kernel_rfl)) (fun _ _ _ h => h) (Or.inl ⟨by rfl, ?_⟩) ?_ ?_
       rotate_left
       ·intro w'
        go_simp
        with_reducible rfl
       rotate_left
       ·simp only [Act.put, List.setIfInBounds_toArray, List.set_cons_zero, List.set_cons_succ, i64_w, i32_w]
        rfl
       refine pure_ (i := 2) (N := some 40) (v := undef) (a' := ?_) #[true, true, true, false, false, false, false, false, false, false, false, false, false] rfl rfl (any_of HT_.out (by kernel_rfl)) (fun _ _ _ h => h) (Or.inr ⟨by rfl, rfl⟩) ?_ ?_
       rotate_left
       ·simp only [Act.put, List.setIfInBounds_toArray, List.set_cons_zero, List.set_cons_succ, i64_w, i32_w]
        rfl
       refine pure_ (i := 3) (N := some 41) (v := undef) (a' := ?_) #[true, true, true, true, false, false, false, false, false, false, false, false, false] rfl rfl (any_of HT_.out (by kernel_rfl)) (fun _ _ _ h => h) (Or.inr ⟨by rfl, rfl⟩) ?_ ?_
       rotate_left
       ·simp only [Act.put, List.setIfInBounds_toArray, List.set_cons_zero, List.set_cons_succ, i64_w, i32_w]
        rfl
       refine pure_ (i := 4) (N := some 42) (v := undef) (a' := ?_) #[true, true, true, true, true, false, false, false, false, false, false, false, false] rfl rfl (any_of HT_.out (by kernel_rfl)) (fun _ _ _ h => h) (Or.inr ⟨by rfl, rfl⟩) ?_ ?_
       rotate_left
       ·simp only [Act.put, List.setIfInBounds_toArray, List.set_cons_zero, List.set_cons_succ, i64_w, i32_w]
        rfl
       refine pure_ (i := 5) (N := some 43) (v := undef) (a' := ?_) #[true, true, true, true, true, true, false, false, false, false, false, false, false] rfl rfl (any_of HT_.out (by kernel_rfl)) (fun _ _ _ h => h) (Or.inr ⟨by rfl, rfl⟩) ?_ ?_
       rotate_left
       ·simp only [Act.put, List.setIfInBounds_toArray, List.set_cons_zero, List.set_cons_succ, i64_w, i32_w]
        rfl
       refine pure_ (i := 6) (N := some 44) (v := undef) (a' := ?_) #[true, true, true, true, true, true, true, false, false, false, false, false, false] rfl rfl (any_of HT_.out (by kernel_rfl)) (fun _ _ _ h => h) (Or.inr ⟨by rfl, rfl⟩) ?_ ?_
       rotate_left
       ·simp only [Act.put, List.setIfInBounds_toArray, List.set_cons_zero, List.set_cons_succ, i64_w, i32_w]
        rfl
       refine pure_ (i := 7) (N := some 45) (v := undef) (a' := ?_) #[true, true, true, true, true, true, true, true, false, false, false, false, false] rfl rfl (any_of HT_.out (by kernel_rfl)) (fun _ _ _ h => h) (Or.inr ⟨by rfl, rfl⟩) ?_ ?_
       rotate_left
       ·simp only [Act.put, List.setIfInBounds_toArray, List.set_cons_zero, List.set_cons_succ, i64_w, i32_w]
        rfl
       refine pure_ (i := 8) (N := some 46) (v := undef) (a' := ?_) #[true, true, true, true, true, true, true, true, true, false, false, false, false] rfl rfl (any_of HT_.out (by kernel_rfl)) (fun _ _ _ h => h) (Or.inr ⟨by rfl, rfl⟩) ?_ ?_
       rotate_left
       ·simp only [Act.put, List.setIfInBounds_toArray, List.set_cons_zero, List.set_cons_succ, i64_w, i32_w]
        rfl
       refine pure_ (i := 9) (N := some 47) (v := undef) (a' := ?_) #[true, true, true, true, true, true, true, true, true, true, false, false, false] rfl rfl (any_of HT_.out (by kernel_rfl)) (fun _ _ _ h => h) (Or.inr ⟨by rfl, rfl⟩) ?_ ?_
       rotate_left
       ·simp only [Act.put, List.setIfInBounds_toArray, List.set_cons_zero, List.set_cons_succ, i64_w, i32_w]
        rfl
       refine pure_ (i := 10) (N := some 48) (v := undef) (a' := ?_) #[true, true, true, true, true, true, true, true, true, true, true, false, false] rfl rfl (any_of HT_.out (by kernel_rfl)) (fun _ _ _ h => h) (Or.inr ⟨by rfl, rfl⟩) ?_ ?_
       rotate_left
       ·simp only [Act.put, List.setIfInBounds_toArray, List.set_cons_zero, List.set_cons_succ, i64_w, i32_w]
        rfl
       refine pure_ (i := 11) (N := some 49) (v := undef) (a' := ?_) #[true, true, true, true, true, true, true, true, true, true, true, true, false] rfl rfl (any_of HT_.out (by kernel_rfl)) (fun _ _ _ h => h) (Or.inr ⟨by rfl, rfl⟩) ?_ ?_
       rotate_left
       ·simp only [Act.put, List.setIfInBounds_toArray, List.set_cons_zero, List.set_cons_succ, i64_w, i32_w]
        rfl
       refine pure_ (i := 12) (N := some 50) (v := ?_) (a' := ?_) #[true, true, true, true, true, true, true, true, true, true, true, true, true] rfl rfl (any_of HT_.out (by kernel_rfl)) (fun _ _ _ h => h) (Or.inl ⟨by rfl, ?_⟩) ?_ ?_
       rotate_left
       ·intro w'
        go_simp
        with_reducible rfl
       rotate_left
       ·simp only [Act.put, List.setIfInBounds_toArray, List.set_cons_zero, List.set_cons_succ, i64_w, i32_w]
        rfl
       refine done_ (done_of HT_.out (by kernel_rfl)) ?_
       try go_wp2
       go_roundg k2
       case measure => omega
       case rel => exact ⟨1, rfl, by first | rfl | (simp; done), by omega, H3, HO, BK, CQ, HB⟩
      subst c3
      rw [if_pos rfl] at E
      obtain ⟨h1, A20, E⟩ := Option.bind_eq_some_iff.mp E
      obtain ⟨h2, A30, E⟩ := Option.bind_eq_some_iff.mp E
      have A2 := Aside0.mk A20
      have A3 := Aside0.mk A30
      clear A20 A30
      by_cases c4 : wrap64 (h1 - h2) = a2
      rotate_left
      ·rw [if_neg c4] at E
       have c4b : (wrap64 (h1 - h2) == a2) = false := beq_eq_false_iff_ne.mpr c4
       have H3 : Aside0 (mmIn k a1 a2 t ts acc 1 = some (r1, r2)) := ⟨E⟩
       clear E c4
       go_wp2_with (first | (go_at_call 20; ((with_reducible refine (impl_ToneAbove.calls k t.f0 t.f1 a1 false x s true _ A1.out).mono ?_); rintro e w11 ⟨rfl, hb⟩; have n0_ := Aside0.mk (Kd.R_below HO.out hb); have n1_ := Aside0.mk (below_step HB.out hb); have n2_ := Aside0.mk (blk_below BK.out hb); have n3_ := Aside0.mk (Chain.below hb CQ.out); clear HO HB BK CQ hb z0 z1; have HO := n0_; have HB := n1_; have BK := n2_; have CQ := n3_; clear n0_ n1_ n2_ n3_)) | ((with_reducible refine gate_dst (N := 13) rfl ?_); refine box_event ?hg (N := 13) ?hd (cs := #[.int .i64 0, .bool false]) (t := 25) ?hr ?_; (case hd => rfl); (case hg => rfl); (case hr => first | (go_simp; done) | (go_simp; rfl)); intro gb hg w13 hbox hb; have BX := Aside0.mk hbox; have BB := Aside0.mk hb; have GB := Aside0.mk hg; clear hbox hb hg; have hcz_0 : w13.cell? ⟨gb, 0, none⟩ = some (.int .i64 0) := (blk_cell BX.out 0).trans rfl; have hcz_1 : w13.cell? ⟨gb, 1, none⟩ = some (.bool false) := (blk_cell BX.out 1).trans rfl; have hfz_0 := blk_frozen BX.out 0; have hfz_1 := blk_frozen BX.out 1))
       have BA : Aside0 (Below w11.heap.size w11 ((w13.setCell ⟨gb, 0, none⟩ (.int .i64 x)).setCell ⟨gb, 1, none⟩ (.bool s))) := ⟨below_set (below_set BB.out (Nat.le_of_eq GB.out.symm)) (Nat.le_of_eq GB.out.symm)⟩
       have n0_ := Aside0.mk (Kd.R_below HO.out BA.out)
       have n1_ := Aside0.mk (below_step HB.out BA.out)
       have n2_ := Aside0.mk (blk_below BK.out BA.out)
       have n3_ := Aside0.mk (Chain.below BA.out CQ.out)
       have n4_ : Aside0 (((w13.setCell ⟨gb, 0, none⟩ (.int .i64 x)).setCell ⟨gb, 1, none⟩ (.bool s)).heap[gb]? = some (.cells #[.int .i64 x, .bool s] 25 (0, 0))) := ⟨by refine blk_put (cs := #[.int .i64 x, .bool false]) ?_ 1 _ rfl; refine blk_put (cs := #[.int .i64 0, .bool false]) ?_ 0 _ rfl; exact BX.out⟩
       have GE : Aside0 (w.heap.size ≤ gb) := ⟨by rw [GB.out]; exact below_size HB.out⟩
       clear HO HB BK CQ BX BB BA hcz_0 hcz_1 hfz_0 hfz_1
       generalize ((w13.setCell ⟨gb, 0, none⟩ (.int .i64 x)).setCell ⟨gb, 1, none⟩ (.bool s)) = w14 at n0_ n1_ n2_ n3_ n4_ ⊢
       have HO := n0_
       have HB := n1_
       have BK := n2_
       have CQ := n3_
       have BX := n4_
       clear n0_ n1_ n2_ n3_ n4_
       have n0_ := Aside0.mk (Kd.R_drew HO.out)
       have n1_ := Aside0.mk (below_drew1 HB.out)
       have n2_ := Aside0.mk (blk_drew BK.out)
       have n3_ := Aside0.mk (Chain.drew CQ.out)
       have n4_ := Aside0.mk (blk_drew BX.out)
       clear HO HB BK CQ BX
       have HO := n0_
       have HB := n1_
       have BK := n2_
       have CQ := n3_
       have BX := n4_
       clear n0_ n1_ n2_ n3_ n4_
       refine start_ (n := 13) (S := fun w' => w'.cell? ⟨gb, 0, none⟩ = some (.int .i64 x) ∧ w'.cell? ⟨gb, 1, none⟩ = some (.bool s) ∧ w'.cell? ⟨g, 0, none⟩ = some (.int .i64 t.f0) ∧ w'.cell? ⟨g, 1, none⟩ = some (.bool t.f1)) (ds := []) #[false, false, false, false, false, false, false, false, false, false, false, false, false] (by kernel_rfl) rfl rfl ⟨(blk_cell BX.out 0).trans rfl, (blk_cell BX.out 1).trans rfl, (blk_cell BK.out 0).trans rfl, (blk_cell BK.out 1).trans rfl⟩ (fun hHeld => ?_)
       refine with_tabW impl_movedMelody.tab10 impl_movedMelody.bits10 (fun HT_ HW_ => ?_)
       generalize w14.drew = w15 at HO HB BK CQ BX hHeld ⊢
       refine pure_ (i := 0) (N := some 38) (v := ?_) (a' := ?_) #[true, false, false, false, false, false, false, false, false, false, false, false, false] rfl rfl (any_of HT_.out (by kernel_rfl)) (fun _ _ _ h => h) (Or.inl ⟨by rfl, ?_⟩) ?_ ?_
       rotate_left
       ·intro w'
        go_simp
        with_reducible rfl
       rotate_left
       ·simp only [Act.put, List.setIfInBounds_toArray, List.set_cons_zero, List.set_cons_succ, i64_w, i32_w]
        rfl
       refine pure_ (i := 1) (N := some 39) (v := ?_) (a' := ?_) #[true, true, false, false, false, false, false, false, false, false, false, false, false] rfl rfl (any_of HT_.out (by kernel_rfl)) (fun _ _ _ h => h) (Or.inl ⟨by rfl, ?_⟩) ?_ ?_
       rotate_left
       ·intro w'
        go_simp
        with_reducible rfl
       rotate_left
       ·simp only [Act.put, List.setIfInBounds_toArray, List.set_cons_zero, List.set_cons_succ, i64_w, i32_w]
        rfl
       refine pure_ (i := 4) (N := some 42) (v := ?_) (a' := ?_) #[true, true, false, false, true, false, false, false, false, false, false, false, false] rfl rfl (any_of HT_.out (by kernel_rfl)) (fun _ _ _ h => h) (Or.inl ⟨by rfl, ?_⟩) ?_ ?_
       rotate_left
       ·intro w'
        go_simp
        with_reducible rfl
       rotate_left
       ·simp only [Act.put, List.setIfInBounds_toArray, List.set_cons_zero, List.set_cons_succ, i64_w, i32_w]
        rfl
       refine pure_ (i := 5) (N := some 43) (v := ?_) (a' := ?_) #[true, true, false, false, true, true, false, false, false, false, false, false, false] rfl rfl (any_of HT_.out (by kernel_rfl)) (fun _ _ _ h => h) (Or.inl ⟨by rfl, ?_⟩) ?_ ?_
       rotate_left
       ·intro w'
        go_simp
        with_reducible rfl
       rotate_left
       ·simp only [Act.put, List.setIfInBounds_toArray, List.set_cons_zero, List.set_cons_succ, i64_w, i32_w]
        rfl
       refine pure_ (i := 6) (N := some 44) (v := ?_) (a' := ?_) #[true, true, false, false, true, true, true, false, false, false, false, false, false] rfl rfl (any_of HT_.out (by kernel_rfl)) (fun _ _ _ h => h) (Or.inl ⟨by rfl, ?_⟩) ?_ ?_
       rotate_left
       ·intro w'
        go_simp
        with_reducible rfl
       rotate_left
       ·simp only [Act.put, List.setIfInBounds_toArray, List.set_cons_zero, List.set_cons_succ, i64_w, i32_w]
        rfl
       refine pure_ (i := 10) (N := some 48) (v := ?_) (a' := ?_) #[true, true, false, false, true, true, true, false, false, false, true, false, false] rfl rfl (any_of HT_.out (by kernel_rfl)) (fun _ _ _ h => h) (Or.inl ⟨by rfl, ?_⟩) ?_ ?_
       rotate_left
       ·intro w'
        go_simp
        with_reducible rfl
       rotate_left
       ·simp only [Act.put, List.setIfInBounds_toArray, List.set_cons_zero, List.set_cons_succ, i64_w, i32_w]
        rfl
       refine take_ (i := 2) (N := some 40) (v := ?_) (a' := ?_) #[true, true, true, false, true, true, true, false, false, false, true, false, false] rfl rfl (take_ofW HT_.out HW_.out (by kernel_rfl)) (fun _ _ _ h => h) (Or.inl ⟨by rfl, ?_⟩) hHeld ?_ ?_
       rotate_left
       ·rintro w' ⟨s0, s1, s2, s3⟩
        go_simp
        with_reducible rfl
       rotate_left
       ·simp only [Act.put, List.setIfInBounds_toArray, List.set_cons_zero, List.set_cons_succ, i64_w, i32_w]
        rfl
       refine take_ (i := 7) (N := some 45) (v := ?_) (a' := ?_) #[true, true, true, false, true, true, true, true, false, false, true, false, false] rfl rfl (take_ofW HT_.out HW_.out (by kernel_rfl)) (fun _ _ _ h => h) (Or.inl ⟨by rfl, ?_⟩) hHeld ?_ ?_
       rotate_left
       ·rintro w' ⟨s0, s1, s2, s3⟩
        go_simp
        with_reducible rfl
       rotate_left
       ·simp only [Act.put, List.setIfInBounds_toArray, List.set_cons_zero, List.set_cons_succ, i64_w, i32_w]
        rfl
       refine one_ (i := 3) (N := some 41) #[true, true, true, true, true, true, true, true, false, false, true, false, false] rfl rfl (one_of HT_.out (by kernel_rfl)) (by decide) (fun K hK => ?_)
       refine goes_ Tryd.func56 (by kernel_rfl) rfl #[.agg #[.int .i64 x, .bool s]] (by rfl) rfl rfl (by (try simp only [List.map_toArray, List.map_cons, List.map_nil]); first | done | rfl | (simp only [List.length_drop, List.length_take]; rfl)) ?_
       with_reducible refine (impl_Tone_height.calls x s h1 _ (GOk.below HG.out HB.out) A2.out).mono ?_
       rintro e w16 ⟨rfl, hb⟩
       refine ⟨_, rfl, ?_⟩
       have n0_ := Aside0.mk (Kd.R_below HO.out hb)
       have n1_ := Aside0.mk (below_step HB.out hb)
       have n2_ := Aside0.mk (blk_below BK.out hb)
       have n3_ := Aside0.mk (Chain.below hb CQ.out)
       have n4_ := Aside0.mk (blk_below BX.out hb)
       clear HO HB BK CQ BX hb
       have HO := n0_
       have HB := n1_
       have BK := n2_
       have CQ := n3_
       have BX := n4_
       clear n0_ n1_ n2_ n3_ n4_
       refine hK.out _ _ ⟨(blk_cell BX.out 0).trans rfl, (blk_cell BX.out 1).trans rfl, (blk_cell BK.out 0).trans rfl, (blk_cell BK.out 1).trans rfl⟩ (fun hHeld => ?_)
       clear hK K
       refine norm_ (a' := ?_) ?_ ?_
       rotate_left
       ·show Act.put _ (some 41) _ = _
        simp only [Act.put, List.setIfInBounds_toArray, List.set_cons_zero, List.set_cons_succ, i64_w, i32_w]
        rfl
       refine one_ (i := 8) (N := some 46) #[true, true, true, true, true, true, true, true, true, false, true, false, false] rfl rfl (one_of HT_.out (by kernel_rfl)) (by decide) (fun K hK => ?_)
       refine goes_ Tryd.func56 (by kernel_rfl) rfl #[.agg #[.int .i64 t.f0, .bool t.f1]] (by rfl) rfl rfl (by (try simp only [List.map_toArray, List.map_cons, List.map_nil]); first | done | rfl | (simp only [List.length_drop, List.length_take]; rfl)) ?_
       with_reducible refine (impl_Tone_height.calls t.f0 t.f1 h2 _ (GOk.below HG.out HB.out) A3.out).mono ?_
       rintro e w17 ⟨rfl, hb⟩
       refine ⟨_, rfl, ?_⟩
       have n0_ := Aside0.mk (Kd.R_below HO.out hb)
       have n1_ := Aside0.mk (below_step HB.out hb)
       have n2_ := Aside0.mk (blk_below BK.out hb)
       have n3_ := Aside0.mk (Chain.below hb CQ.out)
       have n4_ := Aside0.mk (blk_below BX.out hb)
       clear HO HB BK CQ BX hb
       have HO := n0_
       have HB := n1_
       have BK := n2_
       have CQ := n3_
       have BX := n4_
       clear n0_ n1_ n2_ n3_ n4_
       refine hK.out _ _ ⟨(blk_cell BX.out 0).trans rfl, (blk_cell BX.out 1).trans rfl, (blk_cell BK.out 0).trans rfl, (blk_cell BK.out 1).trans rfl⟩ (fun hHeld => ?_)
       clear hK K
       refine norm_ (a' := ?_) ?_ ?_
       rotate_left
       ·show Act.put _ (some 46) _ = _
        simp only [Act.put, List.setIfInBounds_toArray, List.set_cons_zero, List.set_cons_succ, i64_w, i32_w]
        rfl
       refine pure_ (i := 9) (N := some 47) (v := ?_) (a' := ?_) #[true, true, true, true, true, true, true, true, true, true, true, false, false] rfl rfl (any_of HT_.out (by kernel_rfl)) (fun _ _ _ h => h) (Or.inl ⟨by rfl, ?_⟩) ?_ ?_
       rotate_left
       ·intro w'
        go_simp
        with_reducible rfl
       rotate_left
       ·simp only [Act.put, List.setIfInBounds_toArray, List.set_cons_zero, List.set_cons_succ, i64_w, i32_w]
        rfl
       refine pure_ (i := 11) (N := some 49) (v := ?_) (a' := ?_) #[true, true, true, true, true, true, true, true, true, true, true, true, false] rfl rfl (any_of HT_.out (by kernel_rfl)) (fun _ _ _ h => h) (Or.inl ⟨by rfl, ?_⟩) ?_ ?_
       rotate_left
       ·intro w'
        go_simp
        with_reducible rfl
       rotate_left
       ·simp only [Act.put, List.setIfInBounds_toArray, List.set_cons_zero, List.set_cons_succ, i64_w, i32_w]
        rfl
       refine pure_ (i := 12) (N := some 50) (v := ?_) (a' := ?_) #[true, true, true, true, true, true, true, true, true, true, true, true, true] rfl rfl (any_of HT_.out (by kernel_rfl)) (fun _ _ _ h => h) (Or.inl ⟨by rfl, ?_⟩) ?_ ?_
       rotate_left
       ·intro w'
        go_simp
        with_reducible rfl
       rotate_left
       ·simp only [Act.put, List.setIfInBounds_toArray, List.set_cons_zero, List.set_cons_succ, i64_w, i32_w]
        rfl
       refine done_ (done_of HT_.out (by kernel_rfl)) ?_
       try go_wp2
       go_roundg k2
       case measure => omega
       case rel => exact ⟨1, rfl, by first | rfl | (simp; done), by omega, H3, HO, BK, CQ, HB⟩
      rw [if_pos c4] at E
      have c4b : (wrap64 (h1 - h2) == a2) = true := beq_iff_eq.mpr c4
      have H3 : Aside0 (mmGo k a1 a2 ts (acc ++ [(⟨x, s⟩ : S25)]) = some (r1, r2)) := ⟨E⟩
      clear E c4
      go_wp2_with (first | (go_at_call 20; ((with_reducible refine (impl_ToneAbove.calls k t.f0 t.f1 a1 false x s true _ A1.out).mono ?_); rintro e w11 ⟨rfl, hb⟩; have n0_ := Aside0.mk (Kd.R_below HO.out hb); have n1_ := Aside0.mk (below_step HB.out hb); have n2_ := Aside0.mk (blk_below BK.out hb); have n3_ := Aside0.mk (Chain.below hb CQ.out); clear HO HB BK CQ hb z0 z1; have HO := n0_; have HB := n1_; have BK := n2_; have CQ := n3_; clear n0_ n1_ n2_ n3_)) | ((with_reducible refine gate_dst (N := 13) rfl ?_); refine box_event ?hg (N := 13) ?hd (cs := #[.int .i64 0, .bool false]) (t := 25) ?hr ?_; (case hd => rfl); (case hg => rfl); (case hr => first | (go_simp; done) | (go_simp; rfl)); intro gb hg w13 hbox hb; have BX := Aside0.mk hbox; have BB := Aside0.mk hb; have GB := Aside0.mk hg; clear hbox hb hg; have hcz_0 : w13.cell? ⟨gb, 0, none⟩ = some (.int .i64 0) := (blk_cell BX.out 0).trans rfl; have hcz_1 : w13.cell? ⟨gb, 1, none⟩ = some (.bool false) := (blk_cell BX.out 1).trans rfl; have hfz_0 := blk_frozen BX.out 0; have hfz_1 := blk_frozen BX.out 1))
      have HOY : Aside0 (Kd.R k25 25 w11 w.heap.size (fun _ => True) _ acc) := HO
      have n5_ : Aside0 (Kd.R k25 25 ((w13.setCell ⟨gb, 0, none⟩ (.int .i64 x)).setCell ⟨gb, 1, none⟩ (.bool s)) w.heap.size (fun k_ => k_ ≠ gb) _ acc) := ⟨Kd.R_mono (Kd.R_below (Kd.R_elderB HOY.out gb (Nat.le_of_eq GB.out.symm)) (below_set (below_set BB.out (Nat.le_of_eq GB.out.symm)) (Nat.le_of_eq GB.out.symm))) (fun _ hk => hk.2)⟩
      clear HOY
      have BA : Aside0 (Below w11.heap.size w11 ((w13.setCell ⟨gb, 0, none⟩ (.int .i64 x)).setCell ⟨gb, 1, none⟩ (.bool s))) := ⟨below_set (below_set BB.out (Nat.le_of_eq GB.out.symm)) (Nat.le_of_eq GB.out.symm)⟩
      have n0_ := n5_
      have n1_ := Aside0.mk (below_step HB.out BA.out)
      have n2_ := Aside0.mk (blk_below BK.out BA.out)
      have n3_ := Aside0.mk (Chain.below BA.out CQ.out)
      have n4_ : Aside0 (((w13.setCell ⟨gb, 0, none⟩ (.int .i64 x)).setCell ⟨gb, 1, none⟩ (.bool s)).heap[gb]? = some (.cells #[.int .i64 x, .bool s] 25 (0, 0))) := ⟨by refine blk_put (cs := #[.int .i64 x, .bool false]) ?_ 1 _ rfl; refine blk_put (cs := #[.int .i64 0, .bool false]) ?_ 0 _ rfl; exact BX.out⟩
      have GE : Aside0 (w.heap.size ≤ gb) := ⟨by rw [GB.out]; exact below_size HB.out⟩
      clear n5_ HO HB BK CQ BX BB BA hcz_0 hcz_1 hfz_0 hfz_1
      generalize ((w13.setCell ⟨gb, 0, none⟩ (.int .i64 x)).setCell ⟨gb, 1, none⟩ (.bool s)) = w14 at n0_ n1_ n2_ n3_ n4_ ⊢
      have HO := n0_
      have HB := n1_
      have BK := n2_
      have CQ := n3_
      have BX := n4_
      clear n0_ n1_ n2_ n3_ n4_
      have n0_ := Aside0.mk (Kd.R_drew HO.out)
      have n1_ := Aside0.mk (below_drew1 HB.out)
      have n2_ := Aside0.mk (blk_drew BK.out)
      have n3_ := Aside0.mk (Chain.drew CQ.out)
      have n4_ := Aside0.mk (blk_drew BX.out)
      clear HO HB BK CQ BX
      have HO := n0_
      have HB := n1_
      have BK := n2_
      have CQ := n3_
      have BX := n4_
      clear n0_ n1_ n2_ n3_ n4_
      refine start_ (n := 13) (S := fun w' => w'.cell? ⟨gb, 0, none⟩ = some (.int .i64 x) ∧ w'.cell? ⟨gb, 1, none⟩ = some (.bool s) ∧ w'.cell? ⟨g, 0, none⟩ = some (.int .i64 t.f0) ∧ w'.cell? ⟨g, 1, none⟩ = some (.bool t.f1)) (ds := []) #[false, false, false, false, false, false, false, false, false, false, false, false, false] (by kernel_rfl) rfl rfl ⟨(blk_cell BX.out 0).trans rfl, (blk_cell BX.out 1).trans rfl, (blk_cell BK.out 0).trans rfl, (blk_cell BK.out 1).trans rfl⟩ (fun hHeld => ?_)
      refine with_tabW impl_movedMelody.tab10 impl_movedMelody.bits10 (fun HT_ HW_ => ?_)
      generalize w14.drew = w15 at HO HB BK CQ BX hHeld ⊢
      refine pure_ (i := 0) (N := some 38) (v := ?_) (a' := ?_) #[true, false, false, false, false, false, false, false, false, false, false, false, false] rfl rfl (any_of HT_.out (by kernel_rfl)) (fun _ _ _ h => h) (Or.inl ⟨by rfl, ?_⟩) ?_ ?_
      rotate_left
      ·intro w'
       go_simp
       with_reducible rfl
      rotate_left
      ·simp only [Act.put, List.setIfInBounds_toArray, List.set_cons_zero, List.set_cons_succ, i64_w, i32_w]
       rfl
      refine pure_ (i := 1) (N := some 39) (v := ?_) (a' := ?_) #[true, true, false, false, false, false, false, false, false, false, false, false, false] rfl rfl (any_of HT_.out (by kernel_rfl)) (fun _ _ _ h => h) (Or.inl ⟨by rfl, ?_⟩) ?_ ?_
      rotate_left
      ·intro w'
       go_simp
       with_reducible rfl
      rotate_left
      ·simp only [Act.put, List.setIfInBounds_toArray, List.set_cons_zero, List.set_cons_succ, i64_w, i32_w]
       rfl
      refine pure_ (i := 4) (N := some 42) (v := ?_) (a' := ?_) #[true, true, false, false, true, false, false, false, false, false, false, false, false] rfl rfl (any_of HT_.out (by kernel_rfl)) (fun _ _ _ h => h) (Or.inl ⟨by rfl, ?_⟩) ?_ ?_
      rotate_left
      ·intro w'
       go_simp
       with_reducible rfl
      rotate_left
      ·simp only [Act.put, List.setIfInBounds_toArray, List.set_cons_zero, List.set_cons_succ, i64_w, i32_w]
       rfl
      refine pure_ (i := 5) (N := some 43) (v := ?_) (a' := ?_) #[true, true, false, false, true, true, false, false, false, false, false, false, false] rfl rfl (any_of HT_.out (by kernel_rfl)) (fun _ _ _ h => h) (Or.inl ⟨by rfl, ?_⟩) ?_ ?_
      rotate_left
      ·intro w'
       go_simp
       with_reducible rfl
      rotate_left
      ·simp only [Act.put, List.setIfInBounds_toArray, List.set_cons_zero, List.set_cons_succ, i64_w, i32_w]
       rfl
      refine pure_ (i := 6) (N := some 44) (v := ?_) (a' := ?_) #[true, true, false, false, true, true, true, false, false, false, false, false, false] rfl rfl (any_of HT_.out (by kernel_rfl)) (fun _ _ _ h => h) (Or.inl ⟨by rfl, ?_⟩) ?_ ?_
      rotate_left
      ·intro w'
       go_simp
       with_reducible rfl
      rotate_left
      ·simp only [Act.put, List.setIfInBounds_toArray, List.set_cons_zero, List.set_cons_succ, i64_w, i32_w]
       rfl
      refine pure_ (i := 10) (N := some 48) (v := ?_) (a' := ?_) #[true, true, false, false, true, true, true, false, false, false, true, false, false] rfl rfl (any_of HT_.out (by kernel_rfl)) (fun _ _ _ h => h) (Or.inl ⟨by rfl, ?_⟩) ?_ ?_
      rotate_left
      ·intro w'
       go_simp
       with_reducible rfl
      rotate_left
      ·simp only [Act.put, List.setIfInBounds_toArray, List.set_cons_zero, List.set_cons_succ, i64_w, i32_w]
       rfl
      refine take_ (i := 2) (N := some 40) (v := ?_) (a' := ?_) #[true, true, true, false, true, true, true, false, false, false, true, false, false] rfl rfl (take_ofW HT_.out HW_.out (by kernel_rfl)) (fun _ _ _ h => h) (Or.inl ⟨by rfl, ?_⟩) hHeld ?_ ?_
      rotate_left
      ·rintro w' ⟨s0, s1, s2, s3⟩
       go_simp
       with_reducible rfl
      rotate_left
      ·simp only [Act.put, List.setIfInBounds_toArray, List.set_cons_zero, List.set_cons_succ, i64_w, i32_w]
       rfl
      refine take_ (i := 7) (N := some 45) (v := ?_) (a' := ?_) #[true, true, true, false, true, true, true, true, false, false, true, false, false] rfl rfl (take_ofW HT_.out HW_.out (by kernel_rfl)) (fun _ _ _ h => h) (Or.inl ⟨by rfl, ?_⟩) hHeld ?_ ?_
      rotate_left
      ·rintro w' ⟨s0, s1, s2, s3⟩
       go_simp
       with_reducible rfl
      rotate_left
      ·simp only [Act.put, List.setIfInBounds_toArray, List.set_cons_zero, List.set_cons_succ, i64_w, i32_w]
       rfl
      refine one_ (i := 3) (N := some 41) #[true, true, true, true, true, true, true, true, false, false, true, false, false] rfl rfl (one_of HT_.out (by kernel_rfl)) (by decide) (fun K hK => ?_)
      refine goes_ Tryd.func56 (by kernel_rfl) rfl #[.agg #[.int .i64 x, .bool s]] (by rfl) rfl rfl (by (try simp only [List.map_toArray, List.map_cons, List.map_nil]); first | done | rfl | (simp only [List.length_drop, List.length_take]; rfl)) ?_
      with_reducible refine (impl_Tone_height.calls x s h1 _ (GOk.below HG.out HB.out) A2.out).mono ?_
      rintro e w16 ⟨rfl, hb⟩
      refine ⟨_, rfl, ?_⟩
      have n0_ := Aside0.mk (Kd.R_below HO.out hb)
      have n1_ := Aside0.mk (below_step HB.out hb)
      have n2_ := Aside0.mk (blk_below BK.out hb)
      have n3_ := Aside0.mk (Chain.below hb CQ.out)
      have n4_ := Aside0.mk (blk_below BX.out hb)
      clear HO HB BK CQ BX hb
      have HO := n0_
      have HB := n1_
      have BK := n2_
      have CQ := n3_
      have BX := n4_
      clear n0_ n1_ n2_ n3_ n4_
      refine hK.out _ _ ⟨(blk_cell BX.out 0).trans rfl, (blk_cell BX.out 1).trans rfl, (blk_cell BK.out 0).trans rfl, (blk_cell BK.out 1).trans rfl⟩ (fun hHeld => ?_)
      clear hK K
      refine norm_ (a' := ?_) ?_ ?_
      rotate_left
      ·show Act.put _ (some 41) _ = _
       simp only [Act.put, List.setIfInBounds_toArray, List.set_cons_zero, List.set_cons_succ, i64_w, i32_w]
       rfl
      refine one_ (i := 8) (N := some 46) #[true, true, true, true, true, true, true, true, true, false, true, false, false] rfl rfl (one_of HT_.out (by kernel_rfl)) (by decide) (fun K hK => ?_)
      refine goes_ Tryd.func56 (by kernel_rfl) rfl #[.agg #[.int .i64 t.f0, .bool t.f1]] (by rfl) rfl rfl (by (try simp only [List.map_toArray, List.map_cons, List.map_nil]); first | done | rfl | (simp only [List.length_drop, List.length_take]; rfl)) ?_
      with_reducible refine (impl_Tone_height.calls t.f0 t.f1 h2 _ (GOk.below HG.out HB.out) A3.out).mono ?_
      rintro e w17 ⟨rfl, hb⟩
      refine ⟨_, rfl, ?_⟩
      have n0_ := Aside0.mk (Kd.R_below HO.out hb)
      have n1_ := Aside0.mk (below_step HB.out hb)
      have n2_ := Aside0.mk (blk_below BK.out hb)
      have n3_ := Aside0.mk (Chain.below hb CQ.out)
      have n4_ := Aside0.mk (blk_below BX.out hb)
      clear HO HB BK CQ BX hb
      have HO := n0_
      have HB := n1_
      have BK := n2_
      have CQ := n3_
      have BX := n4_
      clear n0_ n1_ n2_ n3_ n4_
      refine hK.out _ _ ⟨(blk_cell BX.out 0).trans rfl, (blk_cell BX.out 1).trans rfl, (blk_cell BK.out 0).trans rfl, (blk_cell BK.out 1).trans rfl⟩ (fun hHeld => ?_)
      clear hK K
      refine norm_ (a' := ?_) ?_ ?_
      rotate_left
      ·show Act.put _ (some 46) _ = _
       simp only [Act.put, List.setIfInBounds_toArray, List.set_cons_zero, List.set_cons_succ, i64_w, i32_w]
       rfl
      refine pure_ (i := 9) (N := some 47) (v := ?_) (a' := ?_) #[true, true, true, true, true, true, true, true, true, true, true, false, false] rfl rfl (any_of HT_.out (by kernel_rfl)) (fun _ _ _ h => h) (Or.inl ⟨by rfl, ?_⟩) ?_ ?_
      rotate_left
      ·intro w'
       go_simp
       with_reducible rfl
      rotate_left
      ·simp only [Act.put, List.setIfInBounds_toArray, List.set_cons_zero, List.set_cons_succ, i64_w, i32_w]
       rfl
      refine pure_ (i := 11) (N := some 49) (v := ?_) (a' := ?_) #[true, true, true, true, true, true, true, true, true, true, true, true, false] rfl rfl (any_of HT_.out (by kernel_rfl)) (fun _ _ _ h => h) (Or.inl ⟨by rfl, ?_⟩) ?_ ?_
      rotate_left
      ·intro w'
       go_simp
       with_reducible rfl
      rotate_left
      ·simp only [Act.put, List.setIfInBounds_toArray, List.set_cons_zero, List.set_cons_succ, i64_w, i32_w]
       rfl
      refine pure_ (i := 12) (N := some 50) (v := ?_) (a' := ?_) #[true, true, true, true, true, true, true, true, true, true, true, true, true] rfl rfl (any_of HT_.out (by kernel_rfl)) (fun _ _ _ h => h) (Or.inl ⟨by rfl, ?_⟩) ?_ ?_
      rotate_left
      ·intro w'
       go_simp
       with_reducible rfl
      rotate_left
      ·simp only [Act.put, List.setIfInBounds_toArray, List.set_cons_zero, List.set_cons_succ, i64_w, i32_w]
       rfl
      refine done_ (done_of HT_.out (by kernel_rfl)) ?_
      have HOX := HO
      have hcx_0 : w17.cell? ⟨gb, 0, none⟩ = some (.int .i64 x) := (blk_cell BX.out 0).trans rfl
      have hcx_1 : w17.cell? ⟨gb, 1, none⟩ = some (.bool s) := (blk_cell BX.out 1).trans rfl
      have hfx_0 := blk_frozen BX.out 0
      have hfx_1 := blk_frozen BX.out 1
      go_wp2_with (first | ((with_reducible refine gate_builtin (b := .append) (xs := #[.tmp 51, .tmp 53]) rfl ?_); at_builtin; refine Kd.R_append k25 (w0 := w) w.heap.size rfl (.tmp 51) (.tmp 53) 41 25 (.agg #[(.int .i64 0), (.bool false)]) 16 rfl Tryd.underlying41 info25 rfl (by decide) (by omega) _ acc (⟨x, s⟩ : S25) [.int .i64 x, .bool s] (fun k_ => k_ ≠ gb) (fun _ => False) rfl rfl ?aP (fun _ hk => hk.elim) ?aF ?aO ?aB ?aS ?aL ?_; (case aP => exact k25_mkM _ _ _ (⟨x, s⟩ : S25)); (case aB => exact HB.out); (case aF => exact (fun k_ hk => Kd.freshB (g := gb) (o := .cells #[.int .i64 x, .bool s] 25 (0, 0)) BX.out k_ hk)); (case aO => exact HOX.out); (case aS => exact (below_size HB.out)); (case aL => have h_ := HAL.out; have h2_ := HN.out; omega); intro v99 w26 ho hb hg hat; have n0_ := Aside0.mk (Kd.R_mono ho (fun _ _ => trivial)); have n1_ := Aside0.mk hb; have n2_ := Aside0.mk (blk_grown BK.out hg (Kd.R_ne HOX.out BK.out (by decide))); have n3_ := Aside0.mk (Chain.grown hg (fun g_ cs_ h_ => Kd.R_ne HOX.out h_ (by decide)) CQ.out); clear HO HB BK CQ BX HOX ho hb hg hat hcx_0 hcx_1 hfx_0 hfx_1; have HO := n0_; have HB := n1_; have BK := n2_; have CQ := n3_; clear n0_ n1_ n2_ n3_; have y2 : w26.cell? ⟨g, 2, none⟩ = some (.pointer q) := (blk_cell BK.out 2).trans rfl))
      go_roundg k1
      case measure => omega
      case rel => exact ⟨acc ++ [(⟨x, s⟩ : S25)], ts, q, rfl, HTS.out, by have h_ := HAL.out; simp; omega, H3, HO, CQ, HB⟩
     ·
      unfold mmIn mmTry at E
      obtain ⟨r, A10, E⟩ := Option.bind_eq_some_iff.mp E
      obtain ⟨x, s, ok⟩ := r
      have A1 := Aside0.mk A10
      clear A10
      simp only at E
      have z0 : wr.cell? ⟨g, 0, none⟩ = some (.int .i64 t.f0) := (blk_cell BK.out 0).trans rfl
      have z1 : wr.cell? ⟨g, 1, none⟩ = some (.bool t.f1) := (blk_cell BK.out 1).trans rfl
      by_cases c3 : ok = true
      rotate_left
      ·replace c3 := Bool.eq_false_iff.mpr c3
       subst c3
       rw [if_neg (show ¬ (false = true) by decide)] at E
       have H3 : Aside0 (mmIn k a1 a2 t ts acc 2 = some (r1, r2)) := ⟨E⟩
       clear E
       go_wp2_with (first | (go_at_call 20; ((with_reducible refine (impl_ToneAbove.calls k t.f0 t.f1 a1 true x s false _ A1.out).mono ?_); rintro e w11 ⟨rfl, hb⟩; have n0_ := Aside0.mk (Kd.R_below HO.out hb); have n1_ := Aside0.mk (below_step HB.out hb); have n2_ := Aside0.mk (blk_below BK.out hb); have n3_ := Aside0.mk (Chain.below hb CQ.out); clear HO HB BK CQ hb z0 z1; have HO := n0_; have HB := n1_; have BK := n2_; have CQ := n3_; clear n0_ n1_ n2_ n3_)) | ((with_reducible refine gate_dst (N := 13) rfl ?_); refine box_event ?hg (N := 13) ?hd (cs := #[.int .i64 0, .bool false]) (t := 25) ?hr ?_; (case hd => rfl); (case hg => rfl); (case hr => first | (go_simp; done) | (go_simp; rfl)); intro gb hg w13 hbox hb; have BX := Aside0.mk hbox; have BB := Aside0.mk hb; have GB := Aside0.mk hg; clear hbox hb hg; have hcz_0 : w13.cell? ⟨gb, 0, none⟩ = some (.int .i64 0) := (blk_cell BX.out 0).trans rfl; have hcz_1 : w13.cell? ⟨gb, 1, none⟩ = some (.bool false) := (blk_cell BX.out 1).trans rfl; have hfz_0 := blk_frozen BX.out 0; have hfz_1 := blk_frozen BX.out 1))
       have BA : Aside0 (Below w11.heap.size w11 ((w13.setCell ⟨gb, 0, none⟩ (.int .i64 x)).setCell ⟨gb, 1, none⟩ (.bool s))) := ⟨below_set (below_set BB.out (Nat.le_of_eq GB.out.symm)) (Nat.le_of_eq GB.out.symm)⟩
       have n0_ := Aside0.mk (Kd.R_below HO.out BA.out)
       have n1_ := Aside0.mk (below_step HB.out BA.out)
       have n2_ := Aside0.mk (blk_below BK.out BA.out)
       have n3_ := Aside0.mk (Chain.below BA.out CQ.out)
       have n4_ : Aside0 (((w13.setCell ⟨gb, 0, none⟩ (.int .i64 x)).setCell ⟨gb, 1, none⟩ (.bool s)).heap[gb]? = some (.cells #[.int .i64 x, .bool s] 25 (0, 0))) := ⟨by refine blk_put (cs := #[.int .i64 x, .bool false]) ?_ 1 _ rfl; refine blk_put (cs := #[.int .i64 0, .bool false]) ?_ 0 _ rfl; exact BX.out⟩
       have GE : Aside0 (w.heap.size ≤ gb) := ⟨by rw [GB.out]; exact below_size HB.out⟩
       clear HO HB BK CQ BX BB BA hcz_0 hcz_1 hfz_0 hfz_1
       generalize ((w13.setCell ⟨gb, 0, none⟩ (.int .i64 x)).setCell ⟨gb, 1, none⟩ (.bool s)) = w14 at n0_ n1_ n2_ n3_ n4_ ⊢
       have HO := n0_
       have HB := n1_
       have BK := n2_
       have CQ := n3_
       have BX := n4_
       clear n0_ n1_ n2_ n3_ n4_
       have n0_ := Aside0.mk (Kd.R_drew HO.out)
       have n1_ := Aside0.mk (below_drew1 HB.out)
       have n2_ := Aside0.mk (blk_drew BK.out)
       have n3_ := Aside0.mk (Chain.drew CQ.out)
       have n4_ := Aside0.mk (blk_drew BX.out)
       clear HO HB BK CQ BX
       have HO := n0_
       have HB := n1_
       have BK := n2_
       have CQ := n3_
       have BX := n4_
       clear n0_ n1_ n2_ n3_ n4_
       refine start_ (n := 13) (S := fun w' => w'.cell? ⟨gb, 0, none⟩ = some (.int .i64 x) ∧ w'.cell? ⟨gb, 1, none⟩ = some (.bool s) ∧ w'.cell? ⟨g, 0, none⟩ = some (.int .i64 t.f0) ∧ w'.cell? ⟨g, 1, none⟩ = some (.bool t.f1)) (ds := []) #[false, false, false, false, false, false, false, false, false, false, false, false, false] (by kernel_rfl) rfl rfl ⟨(blk_cell BX.out 0).trans rfl, (blk_cell BX.out 1).trans rfl, (blk_cell BK.out 0).trans rfl, (blk_cell BK.out 1).trans rfl⟩ (fun hHeld => ?_)
       refine with_tabW impl_movedMelody.tab10 impl_movedMelody.bits10 (fun HT_ HW_ => ?_)
       generalize w14.drew = w15 at HO HB BK CQ BX hHeld ⊢
       refine pure_ (i := 0) (N := some 38) (v := ?_) (a' := ?_) #[true, false, false, false, false, false, false, false, false, false, false, false, false] rfl rfl (any_of HT_.out (by kernel_rfl)) (fun _ _ _ h => h) (Or.inl ⟨by rfl, ?_⟩) ?_ ?_
       rotate_left
       ·intro w'
        go_simp
        with_reducible rfl
       rotate_left
       ·simp only [Act.put, List.setIfInBounds_toArray, List.set_cons_zero, List.set_cons_succ, i64_w, i32_w]
        rfl
       refine pure_ (i := 1) (N := some 39) (v := ?_) (a' := ?_) #[true, true, false, false, false, false, false, false, false, false, false, false, false] rfl rfl (any_of HT_.out (by kernel_rfl)) (fun _ _ _ h => h) (Or.inl ⟨by rfl, ?_⟩) ?_ ?_
       rotate_left
       ·intro w'
        go_simp
        with_reducible rfl
       rotate_left
       ·simp only [Act.put, List.setIfInBounds_toArray, List.set_cons_zero, List.set_cons_succ, i64_w, i32_w]
        rfl
       refine pure_ (i := 2) (N := some 40) (v := undef) (a' := ?_) #[true, true, true, false, false, false, false, false, false, false, false, false, false] rfl rfl (any_of HT_.out (by kernel_rfl)) (fun _ _ _ h => h) (Or.inr ⟨by rfl, rfl⟩) ?_ ?_
       rotate_left
       ·simp only [Act.put, List.setIfInBounds_toArray, List.set_cons_zero, List.set_cons_succ, i64_w, i32_w]
        rfl
       refine pure_ (i := 3) (N := some 41) (v := undef) (a' := ?_) #[true, true, true, true, false, false, false, false, false, false, false, false, false] rfl rfl (any_of HT_.out (by kernel_rfl)) (fun _ _ _ h => h) (Or.inr ⟨by rfl, rfl⟩) ?_ ?_
       rotate_left
       ·simp only [Act.put, List.setIfInBounds_toArray, List.set_cons_zero, List.set_cons_succ, i64_w, i32_w]
        rfl
       refine pure_ (i := 4) (N := some 42) (v := undef) (a' := ?_) #[true, true, true, true, true, false, false, false, false, false, false, false, false] rfl rfl (any_of HT_.out (by kernel_rfl)) (fun _ _ _ h => h) (Or.inr ⟨by rfl, rfl⟩) ?_ ?_
       rotate_left
       ·simp only [Act.put, List.setIfInBounds_toArray, List.set_cons_zero, List.set_cons_succ, i64_w, i32_w]
        rfl
       refine pure_ (i := 5) (N := some 43) (v := undef) (a' := ?_) #[true, true, true, true, true, true, false, false, false, false, false, false, false] rfl rfl (any_of HT_.out (by kernel_rfl)) (fun _ _ _ h => h) (Or.inr ⟨by rfl, rfl⟩) ?_ ?_
       rotate_left
       ·simp only [Act.put, List.setIfInBounds_toArray, List.set_cons_zero, List.set_cons_succ, i64_w, i32_w]
        rfl
       refine pure_ (i := 6) (N := some 44) (v := undef) (a' := ?_) #[true, true, true, true, true, true, true, false, false, false, false, false, false] rfl rfl (any_of HT_.out (by kernel_rfl)) (fun _ _ _ h => h) (Or.inr ⟨by rfl, rfl⟩) ?_ ?_
       rotate_left
       ·simp only [Act.put, List.setIfInBounds_toArray, List.set_cons_zero, List.set_cons_succ, i64_w, i32_w]
        rfl
       refine pure_ (i := 7) (N := some 45) (v := undef) (a' := ?_) #[true, true, true, true, true, true, true, true, false, false, false, false, false] rfl rfl (any_of HT_.out (by kernel_rfl)) (fun _ _ _ h => h) (Or.inr ⟨by rfl, rfl⟩) ?_ ?_
       rotate_left
       ·simp only [Act.put, List.setIfInBounds_toArray, List.set_cons_zero, List.set_cons_succ, i64_w, i32_w]
        rfl
       refine pure_ (i := 8) (N := some 46) (v := undef) (a' := ?_) #[true, true, true, true, true, true, true, true, true, false, false, false, false] rfl rfl (any_of HT_.out (by kernel_rfl)) (fun _ _ _ h => h) (Or.inr ⟨by rfl, rfl⟩) ?_ ?_
       rotate_left
       ·simp only [Act.put, List.setIfInBounds_toArray, List.set_cons_zero, List.set_cons_succ, i64_w, i32_w]
        rfl
       refine pure_ (i := 9) (N := some 47) (v := undef) (a' := ?_) #[true, true, true, true, true, true, true, true, true, true, false, false, false] rfl rfl (any_of HT_.out (by kernel_rfl)) (fun _ _ _ h => h) (Or.inr ⟨by rfl, rfl⟩) ?_ ?_
       rotate_left
       ·simp only [Act.put, List.setIfInBounds_toArray, List.set_cons_zero, List.set_cons_succ, i64_w, i32_w]
        rfl
       refine pure_ (i := 10) (N := some 48) (v := undef) (a' := ?_) #[true, true, true, true, true, true, true, true, true, true, true, false, false] rfl rfl (any_of HT_.out (by kernel_rfl)) (fun _ _ _ h => h) (Or.inr ⟨by rfl, rfl⟩) ?_ ?_
       rotate_left
       ·simp only [Act.put, List.setIfInBounds_toArray, List.set_cons_zero, List.set_cons_succ, i64_w, i32_w]
        rfl
       refine pure_ (i := 11) (N := some 49) (v := undef) (a' := ?_) #[true, true, true, true, true, true, true, true, true, true, true, true, false] rfl rfl (any_of HT_.out (by kernel_rfl)) (fun _ _ _ h => h) (Or.inr ⟨by rfl, rfl⟩) ?_ ?_
       rotate_left
       ·simp only [Act.put, List.setIfInBounds_toArray, List.set_cons_zero, List.set_cons_succ, i64_w, i32_w]
        rfl
       refine pure_ (i := 12) (N := some 50) (v := ?_) (a' := ?_) #[true, true, true, true, true, true, true, true, true, true, true, true, true] rfl rfl (any_of HT_.out (by kernel_rfl)) (fun _ _ _ h => h) (Or.inl ⟨by rfl, ?_⟩) ?_ ?_
       rotate_left
       ·intro w'
        go_simp
        with_reducible rfl
       rotate_left
       ·simp only [Act.put, List.setIfInBounds_toArray, List.set_cons_zero, List.set_cons_succ, i64_w, i32_w]
        rfl
       refine done_ (done_of HT_.out (by kernel_rfl)) ?_
       try go_wp2
       go_roundg k2
       case measure => omega
       case rel => exact ⟨2, rfl, by first | rfl | (simp; done), by omega, H3, HO, BK, CQ, HB⟩
      subst c3
      rw [if_pos rfl] at E
      obtain ⟨h1, A20, E⟩ := Option.bind_eq_some_iff.mp E
      obtain ⟨h2, A30, E⟩ := Option.bind_eq_some_iff.mp E
      have A2 := Aside0.mk A20
      have A3 := Aside0.mk A30
      clear A20 A30
      by_cases c4 : wrap64 (h1 - h2) = a2
      rotate_left
      ·rw [if_neg c4] at E
       have c4b : (wrap64 (h1 - h2) == a2) = false := beq_eq_false_iff_ne.mpr c4
       have H3 : Aside0 (mmIn k a1 a2 t ts acc 2 = some (r1, r2)) := ⟨E⟩
       clear E c4
       go_wp2_with (first | (go_at_call 20; ((with_reducible refine (impl_ToneAbove.calls k t.f0 t.f1 a1 true x s true _ A1.out).mono ?_); rintro e w11 ⟨rfl, hb⟩; have n0_ := Aside0.mk (Kd.R_below HO.out hb); have n1_ := Aside0.mk (below_step HB.out hb); have n2_ := Aside0.mk (blk_below BK.out hb); have n3_ := Aside0.mk (Chain.below hb CQ.out); clear HO HB BK CQ hb z0 z1; have HO := n0_; have HB := n1_; have BK := n2_; have CQ := n3_; clear n0_ n1_ n2_ n3_)) | ((with_reducible refine gate_dst (N := 13) rfl ?_); refine box_event ?hg (N := 13) ?hd (cs := #[.int .i64 0, .bool false]) (t := 25) ?hr ?_; (case hd => rfl); (case hg => rfl); (case hr => first | (go_simp; done) | (go_simp; rfl)); intro gb hg w13 hbox hb; have BX := Aside0.mk hbox; have BB := Aside0.mk hb; have GB := Aside0.mk hg; clear hbox hb hg; have hcz_0 : w13.cell? ⟨gb, 0, none⟩ = some (.int .i64 0) := (blk_cell BX.out 0).trans rfl; have hcz_1 : w13.cell? ⟨gb, 1, none⟩ = some (.bool false) := (blk_cell BX.out 1).trans rfl; have hfz_0 := blk_frozen BX.out 0; have hfz_1 := blk_frozen BX.out 1))
       have BA : Aside0 (Below w11.heap.size w11 ((w13.setCell ⟨gb, 0, none⟩ (.int .i64 x)).setCell ⟨gb, 1, none⟩ (.bool s))) := ⟨below_set (below_set BB.out (Nat.le_of_eq GB.out.symm)) (Nat.le_of_eq GB.out.symm)⟩
       have n0_ := Aside0.mk (Kd.R_below HO.out BA.out)
       have n1_ := Aside0.mk (below_step HB.out BA.out)
       have n2_ := Aside0.mk (blk_below BK.out BA.out)
       have n3_ := Aside0.mk (Chain.below BA.out CQ.out)
       have n4_ : Aside0 (((w13.setCell ⟨gb, 0, none⟩ (.int .i64 x)).setCell ⟨gb, 1, none⟩ (.bool s)).heap[gb]? = some (.cells #[.int .i64 x, .bool s] 25 (0, 0))) := ⟨by refine blk_put (cs := #[.int .i64 x, .bool false]) ?_ 1 _ rfl; refine blk_put (cs := #[.int .i64 0, .bool false]) ?_ 0 _ rfl; exact BX.out⟩
       have GE : Aside0 (w.heap.size ≤ gb) := ⟨by rw [GB.out]; exact below_size HB.out⟩
       clear HO HB BK CQ BX BB BA hcz_0 hcz_1 hfz_0 hfz_1
       generalize ((w13.setCell ⟨gb, 0, none⟩ (.int .i64 x)).setCell ⟨gb, 1, none⟩ (.bool s)) = w14 at n0_ n1_ n2_ n3_ n4_ ⊢
       have HO := n0_
       have HB := n1_
       have BK := n2_
       have CQ := n3_
       have BX := n4_
       clear n0_ n1_ n2_ n3_ n4_
       have n0_ := Aside0.mk (Kd.R_drew HO.out)
       have n1_ := Aside0.mk (below_drew1 HB.out)
       have n2_ := Aside0.mk (blk_drew BK.out)
       have n3_ := Aside0.mk (Chain.drew CQ.out)
       have n4_ := Aside0.mk (blk_drew BX.out)
       clear HO HB BK CQ BX
       have HO := n0_
       have HB := n1_
       have BK := n2_
       have CQ := n3_
       have BX := n4_
       clear n0_ n1_ n2_ n3_ n4_
       refine start_ (n := 13) (S := fun w' => w'.cell? ⟨gb, 0, none⟩ = some (.int .i64 x) ∧ w'.cell? ⟨gb, 1, none⟩ = some (.bool s) ∧ w'.cell? ⟨g, 0, none⟩ = some (.int .i64 t.f0) ∧ w'.cell? ⟨g, 1, none⟩ = some (.bool t.f1)) (ds := []) #[false, false, false, false, false, false, false, false, false, false, false, false, false] (by kernel_rfl) rfl rfl ⟨(blk_cell BX.out 0).trans rfl, (blk_cell BX.out 1).trans rfl, (blk_cell BK.out 0).trans rfl, (blk_cell BK.out 1).trans rfl⟩ (fun hHeld => ?_)
       refine with_tabW impl_movedMelody.tab10 impl_movedMelody.bits10 (fun HT_ HW_ => ?_)
       generalize w14.drew = w15 at HO HB BK CQ BX hHeld ⊢
       refine pure_ (i := 0) (N := some 38) (v := ?_) (a' := ?_) #[true, false, false, false, false, false, false, false, false, false, false, false, false] rfl rfl (any_of HT_.out (by kernel_rfl)) (fun _ _ _ h => h) (Or.inl ⟨by rfl, ?_⟩) ?_ ?_
       rotate_left
       ·intro w'
        go_simp
        with_reducible rfl
       rotate_left
       ·simp only [Act.put, List.setIfInBounds_toArray, List.set_cons_zero, List.set_cons_succ, i64_w, i32_w]
        rfl
       refine pure_ (i := 1) (N := some 39) (v := ?_) (a' := ?_) #[true, true, false, false, false, false, false, false, false, false, false, false, false] rfl rfl (any_of HT_.out (by kernel_rfl)) (fun _ _ _ h => h) (Or.inl ⟨by rfl, ?_⟩) ?_ ?_
       rotate_left
       ·intro w'
        go_simp
        with_reducible rfl
       rotate_left
       ·simp only [Act.put, List.setIfInBounds_toArray, List.set_cons_zero, List.set_cons_succ, i64_w, i32_w]
        rfl
       refine pure_ (i := 4) (N := some 42) (v := ?_) (a' := ?_) #[true, true, false, false, true, false, false, false, false, false, false, false, false] rfl rfl (any_of HT_.out (by kernel_rfl)) (fun _ _ _ h => h) (Or.inl ⟨by rfl, ?_⟩) ?_ ?_
       rotate_left
       ·intro w'
        go_simp
        with_reducible rfl
       rotate_left
       ·simp only [Act.put, List.setIfInBounds_toArray, List.set_cons_zero, List.set_cons_succ, i64_w, i32_w]
        rfl
       refine pure_ (i := 5) (N := some 43) (v := ?_) (a' := ?_) #[true, true, false, false, true, true, false, false, false, false, false, false, false] rfl rfl (any_of HT_.out (by kernel_rfl)) (fun _ _ _ h => h) (Or.inl ⟨by rfl, ?_⟩) ?_ ?_
       rotate_left
       ·intro w'
        go_simp
        with_reducible rfl
       rotate_left
       ·simp only [Act.put, List.setIfInBounds_toArray, List.set_cons_zero, List.set_cons_succ, i64_w, i32_w]
        rfl
       refine pure_ (i := 6) (N := some 44) (v := ?_) (a' := ?_) #[true, true, false, false, true, true, true, false, false, false, false, false, false] rfl rfl (any_of HT_.out (by kernel_rfl)) (fun _ _ _ h => h) (Or.inl ⟨by rfl, ?_⟩) ?_ ?_
       rotate_left
       ·intro w'
        go_simp
        with_reducible rfl
       rotate_left
       ·simp only [Act.put, List.setIfInBounds_toArray, List.set_cons_zero, List.set_cons_succ, i64_w, i32_w]
        rfl
       refine pure_ (i := 10) (N := some 48) (v := ?_) (a' := ?_) #[true, true, false, false, true, true, true, false, false, false, true, false, false] rfl rfl (any_of HT_.out (by kernel_rfl)) (fun _ _ _ h => h) (Or.inl ⟨by rfl, ?_⟩) ?_ ?_
       rotate_left
       ·intro w'
        go_simp
        with_reducible rfl
       rotate_left
       ·simp only [Act.put, List.setIfInBounds_toArray, List.set_cons_zero, List.set_cons_succ, i64_w, i32_w]
        rfl
       refine take_ (i := 2) (N := some 40) (v := ?_) (a' := ?_) #[true, true, true, false, true, true, true, false, false, false, true, false, false] rfl rfl (take_ofW HT_.out HW_.out (by kernel_rfl)) (fun _ _ _ h => h) (Or.inl ⟨by rfl, ?_⟩) hHeld ?_ ?_
       rotate_left
       ·rintro w' ⟨s0, s1, s2, s3⟩
        go_simp
        with_reducible rfl
       rotate_left
       ·simp only [Act.put, List.setIfInBounds_toArray, List.set_cons_zero, List.set_cons_succ, i64_w, i32_w]
        rfl
       refine take_ (i := 7) (N := some 45) (v := ?_) (a' := ?_) #[true, true, true, false, true, true, true, true, false, false, true, false, false] rfl rfl (take_ofW HT_.out HW_.out (by kernel_rfl)) (fun _ _ _ h => h) (Or.inl ⟨by rfl, ?_⟩) hHeld ?_ ?_
       rotate_left
       ·rintro w' ⟨s0, s1, s2, s3⟩
        go_simp
        with_reducible rfl
       rotate_left
       ·simp only [Act.put, List.setIfInBounds_toArray, List.set_cons_zero, List.set_cons_succ, i64_w, i32_w]
        rfl
       refine one_ (i := 3) (N := some 41) #[true, true, true, true, true, true, true, true, false, false, true, false, false] rfl rfl (one_of HT_.out (by kernel_rfl)) (by decide) (fun K hK => ?_)
       refine goes_ Tryd.func56 (by kernel_rfl) rfl #[.agg #[.int .i64 x, .bool s]] (by rfl) rfl rfl (by (try simp only [List.map_toArray, List.map_cons, List.map_nil]); first | done | rfl | (simp only [List.length_drop, List.length_take]; rfl)) ?_
       with_reducible refine (impl_Tone_height.calls x s h1 _ (GOk.below HG.out HB.out) A2.out).mono ?_
       rintro e w16 ⟨rfl, hb⟩
       refine ⟨_, rfl, ?_⟩
       have n0_ := Aside0.mk (Kd.R_below HO.out hb)
       have n1_ := Aside0.mk (below_step HB.out hb)
       have n2_ := Aside0.mk (blk_below BK.out hb)
       have n3_ := Aside0.mk (Chain.below hb CQ.out)
       have n4_ := Aside0.mk (blk_below BX.out hb)
       clear HO HB BK CQ BX hb
       have HO := n0_
       have HB := n1_
       have BK := n2_
       have CQ := n3_
       have BX := n4_
       clear n0_ n1_ n2_ n3_ n4_
       refine hK.out _ _ ⟨(blk_cell BX.out 0).trans rfl, (blk_cell BX.out 1).trans rfl, (blk_cell BK.out 0).trans rfl, (blk_cell BK.out 1).trans rfl⟩ (fun hHeld => ?_)
       clear hK K
       refine norm_ (a' := ?_) ?_ ?_
       rotate_left
       ·show Act.put _ (some 41) _ = _
        simp only [Act.put, List.setIfInBounds_toArray, List.set_cons_zero, List.set_cons_succ, i64_w, i32_w]
        rfl
       refine one_ (i := 8) (N := some 46) #[true, true, true, true, true, true, true, true, true, false, true, false, false] rfl rfl (one_of HT_.out (by kernel_rfl)) (by decide) (fun K hK => ?_)
       refine goes_ Tryd.func56 (by kernel_rfl) rfl #[.agg #[.int .i64 t.f0, .bool t.f1]] (by rfl) rfl rfl (by (try simp only [List.map_toArray, List.map_cons, List.map_nil]); first | done | rfl | (simp only [List.length_drop, List.length_take]; rfl)) ?_
       with_reducible refine (impl_Tone_height.calls t.f0 t.f1 h2 _ (GOk.below HG.out HB.out) A3.out).mono ?_
       rintro e w17 ⟨rfl, hb⟩
       refine ⟨_, rfl, ?_⟩
       have n0_ := Aside0.mk (Kd.R_below HO.out hb)
       have n1_ := Aside0.mk (below_step HB.out hb)
       have n2_ := Aside0.mk (blk_below BK.out hb)
       have n3_ := Aside0.mk (Chain.below hb CQ.out)
       have n4_ := Aside0.mk (blk_below BX.out hb)
       clear HO HB BK CQ BX hb
       have HO := n0_
       have HB := n1_
       have BK := n2_
       have CQ := n3_
       have BX := n4_
       clear n0_ n1_ n2_ n3_ n4_
       refine hK.out _ _ ⟨(blk_cell BX.out 0).trans rfl, (blk_cell BX.out 1).trans rfl, (blk_cell BK.out 0).trans rfl, (blk_cell BK.out 1).trans rfl⟩ (fun hHeld => ?_)
       clear hK K
       refine norm_ (a' := ?_) ?_ ?_
       rotate_left
       ·show Act.put _ (some 46) _ = _
        simp only [Act.put, List.setIfInBounds_toArray, List.set_cons_zero, List.set_cons_succ, i64_w, i32_w]
        rfl
       refine pure_ (i := 9) (N := some 47) (v := ?_) (a' := ?_) #[true, true, true, true, true, true, true, true, true, true, true, false, false] rfl rfl (any_of HT_.out (by kernel_rfl)) (fun _ _ _ h => h) (Or.inl ⟨by rfl, ?_⟩) ?_ ?_
       rotate_left
       ·intro w'
        go_simp
        with_reducible rfl
       rotate_left
       ·simp only [Act.put, List.setIfInBounds_toArray, List.set_cons_zero, List.set_cons_succ, i64_w, i32_w]
        rfl
       refine pure_ (i := 11) (N := some 49) (v := ?_) (a' := ?_) #[true, true, true, true, true, true, true, true, true, true, true, true, false] rfl rfl (any_of HT_.out (by kernel_rfl)) (fun _ _ _ h => h) (Or.inl ⟨by rfl, ?_⟩) ?_ ?_
       rotate_left
       ·intro w'
        go_simp
        with_reducible rfl
       rotate_left
       ·simp only [Act.put, List.setIfInBounds_toArray, List.set_cons_zero, List.set_cons_succ, i64_w, i32_w]
        rfl
       refine pure_ (i := 12) (N := some 50) (v := ?_) (a' := ?_) #[true, true, true, true, true, true, true, true, true, true, true, true, true] rfl rfl (any_of HT_.out (by kernel_rfl)) (fun _ _ _ h => h) (Or.inl ⟨by rfl, ?_⟩) ?_ ?_
       rotate_left
       ·intro w'
        go_simp
        with_reducible rfl
       rotate_left
       ·simp only [Act.put, List.setIfInBounds_toArray, List.set_cons_zero, List.set_cons_succ, i64_w, i32_w]
        rfl
       refine done_ (done_of HT_.out (by kernel_rfl)) ?_
       try go_wp2
       go_roundg k2
       case measure => omega
       case rel => exact ⟨2, rfl, by first | rfl | (simp; done), by omega, H3, HO, BK, CQ, HB⟩
      rw [if_pos c4] at E
      have c4b : (wrap64 (h1 - h2) == a2) = true := beq_iff_eq.mpr c4
      have H3 : Aside0 (mmGo k a1 a2 ts (acc ++ [(⟨x, s⟩ : S25)]) = some (r1, r2)) := ⟨E⟩
      clear E c4
      go_wp2_with (first | (go_at_call 20; ((with_reducible refine (impl_ToneAbove.calls k t.f0 t.f1 a1 true x s true _ A1.out).mono ?_); rintro e w11 ⟨rfl, hb⟩; have n0_ := Aside0.mk (Kd.R_below HO.out hb); have n1_ := Aside0.mk (below_step HB.out hb); have n2_ := Aside0.mk (blk_below BK.out hb); have n3_ := Aside0.mk (Chain.below hb CQ.out); clear HO HB BK CQ hb z0 z1; have HO := n0_; have HB := n1_; have BK := n2_; have CQ := n3_; clear n0_ n1_ n2_ n3_)) | ((with_reducible refine gate_dst (N := 13) rfl ?_); refine box_event ?hg (N := 13) ?hd (cs := #[.int .i64 0, .bool false]) (t := 25) ?hr ?_; (case hd => rfl); (case hg => rfl); (case hr => first | (go_simp; done) | (go_simp; rfl)); intro gb hg w13 hbox hb; have BX := Aside0.mk hbox; have BB := Aside0.mk hb; have GB := Aside0.mk hg; clear hbox hb hg; have hcz_0 : w13.cell? ⟨gb, 0, none⟩ = some (.int .i64 0) := (blk_cell BX.out 0).trans rfl; have hcz_1 : w13.cell? ⟨gb, 1, none⟩ = some (.bool false) := (blk_cell BX.out 1).trans rfl; have hfz_0 := blk_frozen BX.out 0; have hfz_1 := blk_frozen BX.out 1))
      have HOY : Aside0 (Kd.R k25 25 w11 w.heap.size (fun _ => True) _ acc) := HO
      have n5_ : Aside0 (Kd.R k25 25 ((w13.setCell ⟨gb, 0, none⟩ (.int .i64 x)).setCell ⟨gb, 1, none⟩ (.bool s)) w.heap.size (fun k_ => k_ ≠ gb) _ acc) := ⟨Kd.R_mono (Kd.R_below (Kd.R_elderB HOY.out gb (Nat.le_of_eq GB.out.symm)) (below_set (below_set BB.out (Nat.le_of_eq GB.out.symm)) (Nat.le_of_eq GB.out.symm))) (fun _ hk => hk.2)⟩
      clear HOY
      have BA : Aside0 (Below w11.heap.size w11 ((w13.setCell ⟨gb, 0, none⟩ (.int .i64 x)).setCell ⟨gb, 1, none⟩ (.bool s))) := ⟨below_set (below_set BB.out (Nat.le_of_eq GB.out.symm)) (Nat.le_of_eq GB.out.symm)⟩
      have n0_ := n5_
      have n1_ := Aside0.mk (below_step HB.out BA.out)
      have n2_ := Aside0.mk (blk_below BK.out BA.out)
      have n3_ := Aside0.mk (Chain.below BA.out CQ.out)
      have n4_ : Aside0 (((w13.setCell ⟨gb, 0, none⟩ (.int .i64 x)).setCell ⟨gb, 1, none⟩ (.bool s)).heap[gb]? = some (.cells #[.int .i64 x, .bool s] 25 (0, 0))) := ⟨by refine blk_put (cs := #[.int .i64 x, .bool false]) ?_ 1 _ rfl; refine blk_put (cs := #[.int .i64 0, .bool false]) ?_ 0 _ rfl; exact BX.out⟩
      have GE : Aside0 (w.heap.size ≤ gb) := ⟨by rw [GB.out]; exact below_size HB.out⟩
      clear n5_ HO HB BK CQ BX BB BA hcz_0 hcz_1 hfz_0 hfz_1
      generalize ((w13.setCell ⟨gb, 0, none⟩ (.int .i64 x)).setCell ⟨gb, 1, none⟩ (.bool s)) = w14 at n0_ n1_ n2_ n3_ n4_ ⊢
      have HO := n0_
      have HB := n1_
      have BK := n2_
      have CQ := n3_
      have BX := n4_
      clear n0_ n1_ n2_ n3_ n4_
      have n0_ := Aside0.mk (Kd.R_drew HO.out)
      have n1_ := Aside0.mk (below_drew1 HB.out)
      have n2_ := Aside0.mk (blk_drew BK.out)
      have n3_ := Aside0.mk (Chain.drew CQ.out)
      have n4_ := Aside0.mk (blk_drew BX.out)
      clear HO HB BK CQ BX
      have HO := n0_
      have HB := n1_
      have BK := n2_
      have CQ := n3_
      have BX := n4_
      clear n0_ n1_ n2_ n3_ n4_
      refine start_ (n := 13) (S := fun w' => w'.cell? ⟨gb, 0, none⟩ = some (.int .i64 x) ∧ w'.cell? ⟨gb, 1, none⟩ = some (.bool s) ∧ w'.cell? ⟨g, 0, none⟩ = some (.int .i64 t.f0) ∧ w'.cell? ⟨g, 1, none⟩ = some (.bool t.f1)) (ds := []) #[false, false, false, false, false, false, false, false, false, false, false, false, false] (by kernel_rfl) rfl rfl ⟨(blk_cell BX.out 0).trans rfl, (blk_cell BX.out 1).trans rfl, (blk_cell BK.out 0).trans rfl, (blk_cell BK.out 1).trans rfl⟩ (fun hHeld => ?_)
      refine with_tabW impl_movedMelody.tab10 impl_movedMelody.bits10 (fun HT_ HW_ => ?_)
      generalize w14.drew = w15 at HO HB BK CQ BX hHeld ⊢
      refine pure_ (i := 0) (N := some 38) (v := ?_) (a' := ?_) #[true, false, false, false, false, false, false, false, false, false, false, false, false] rfl rfl (any_of HT_.out (by kernel_rfl)) (fun _ _ _ h => h) (Or.inl ⟨by rfl, ?_⟩) ?_ ?_
      rotate_left
      ·intro w'
       go_simp
       with_reducible rfl
      rotate_left
      ·simp only [Act.put, List.setIfInBounds_toArray, List.set_cons_zero, List.set_cons_succ, i64_w, i32_w]
       rfl
      refine pure_ (i := 1) (N := some 39) (v := ?_) (a' := ?_) #[true, true, false, false, false, false, false, false, false, false, false, false, false] rfl rfl (any_of HT_.out (by kernel_rfl)) (fun _ _ _ h => h) (Or.inl ⟨by rfl, ?_⟩) ?_ ?_
      rotate_left
      ·intro w'
       go_simp
       with_reducible rfl
      rotate_left
      ·simp only [Act.put, List.setIfInBounds_toArray, List.set_cons_zero, List.set_cons_succ, i64_w, i32_w]
       rfl
      refine pure_ (i := 4) (N := some 42) (v := ?_) (a' := ?_) #[true, true, false, false, true, false, false, false, false, false, false, false, false] rfl rfl (any_of HT_.out (by kernel_rfl)) (fun _ _ _ h => h) (Or.inl ⟨by rfl, ?_⟩) ?_ ?_
      rotate_left
      ·intro w'
       go_simp
       with_reducible rfl
      rotate_left
      ·simp only [Act.put, List.setIfInBounds_toArray, List.set_cons_zero, List.set_cons_succ, i64_w, i32_w]
       rfl
      refine pure_ (i := 5) (N := some 43) (v := ?_) (a' := ?_) #[true, true, false, false, true, true, false, false, false, false, false, false, false] rfl rfl (any_of HT_.out (by kernel_rfl)) (fun _ _ _ h => h) (Or.inl ⟨by rfl, ?_⟩) ?_ ?_
      rotate_left
      ·intro w'
       go_simp
       with_reducible rfl
      rotate_left
      ·simp only [Act.put, List.setIfInBounds_toArray, List.set_cons_zero, List.set_cons_succ, i64_w, i32_w]
       rfl
      refine pure_ (i := 6) (N := some 44) (v := ?_) (a' := ?_) #[true, true, false, false, true, true, true, false, false, false, false, false, false] rfl rfl (any_of HT_.out (by kernel_rfl)) (fun _ _ _ h => h) (Or.inl ⟨by rfl, ?_⟩) ?_ ?_
      rotate_left
      ·intro w'
       go_simp
       with_reducible rfl
      rotate_left
      ·simp only [Act.put, List.setIfInBounds_toArray, List.set_cons_zero, List.set_cons_succ, i64_w, i32_w]
       rfl
      refine pure_ (i := 10) (N := some 48) (v := ?_) (a' := ?_) #[true, true, false, false, true, true, true, false, false, false, true, false, false] rfl rfl (any_of HT_.out (by kernel_rfl)) (fun _ _ _ h => h) (Or.inl ⟨by rfl, ?_⟩) ?_ ?_
      rotate_left
      ·intro w'
       go_simp
       with_reducible rfl
      rotate_left
      ·simp only [Act.put, List.setIfInBounds_toArray, List.set_cons_zero, List.set_cons_succ, i64_w, i32_w]
       rfl
      refine take_ (i := 2) (N := some 40) (v := ?_) (a' := ?_) #[true, true, true, false, true, true, true, false, false, false, true, false, false] rfl rfl (take_ofW HT_.out HW_.out (by kernel_rfl)) (fun _ _ _ h => h) (Or.inl ⟨by rfl, ?_⟩) hHeld ?_ ?_
      rotate_left
      ·rintro w' ⟨s0, s1, s2, s3⟩
       go_simp
       with_reducible rfl
      rotate_left
      ·simp only [Act.put, List.setIfInBounds_toArray, List.set_cons_zero, List.set_cons_succ, i64_w, i32_w]
       rfl
      refine take_ (i := 7) (N := some 45) (v := ?_) (a' := ?_) #[true, true, true, false, true, true, true, true, false, false, true, false, false] rfl rfl (take_ofW HT_.out HW_.out (by kernel_rfl)) (fun _ _ _ h => h) (Or.inl ⟨by rfl, ?_⟩) hHeld ?_ ?_
      rotate_left
      ·rintro w' ⟨s0, s1, s2, s3⟩
       go_simp
       with_reducible rfl
      rotate_left
      ·simp only [Act.put, List.setIfInBounds_toArray, List.set_cons_zero, List.set_cons_succ, i64_w, i32_w]
       rfl
      refine one_ (i := 3) (N := some 41) #[true, true, true, true, true, true, true, true, false, false, true, false, false] rfl rfl (one_of HT_.out (by kernel_rfl)) (by decide) (fun K hK => ?_)
      refine goes_ Tryd.func56 (by kernel_rfl) rfl #[.agg #[.int .i64 x, .bool s]] (by rfl) rfl rfl (by (try simp only [List.map_toArray, List.map_cons, List.map_nil]); first | done | rfl | (simp only [List.length_drop, List.length_take]; rfl)) ?_
      with_reducible refine (impl_Tone_height.calls x s h1 _ (GOk.below HG.out HB.out) A2.out).mono ?_
      rintro e w16 ⟨rfl, hb⟩
      refine ⟨_, rfl, ?_⟩
      have n0_ := Aside0.mk (Kd.R_below HO.out hb)
      have n1_ := Aside0.mk (below_step HB.out hb)
      have n2_ := Aside0.mk (blk_below BK.out hb)
      have n3_ := Aside0.mk (Chain.below hb CQ.out)
      have n4_ := Aside0.mk (blk_below BX.out hb)
      clear HO HB BK CQ BX hb
      have HO := n0_
      have HB := n1_
      have BK := n2_
      have CQ := n3_
      have BX := n4_
      clear n0_ n1_ n2_ n3_ n4_
      refine hK.out _ _ ⟨(blk_cell BX.out 0).trans rfl, (blk_cell BX.out 1).trans rfl, (blk_cell BK.out 0).trans rfl, (blk_cell BK.out 1).trans rfl⟩ (fun hHeld => ?_)
      clear hK K
      refine norm_ (a' := ?_) ?_ ?_
      rotate_left
      ·show Act.put _ (some 41) _ = _
       simp only [Act.put, List.setIfInBounds_toArray, List.set_cons_zero, List.set_cons_succ, i64_w, i32_w]
       rfl
      refine one_ (i := 8) (N := some 46) #[true, true, true, true, true, true, true, true, true, false, true, false, false] rfl rfl (one_of HT_.out (by kernel_rfl)) (by decide) (fun K hK => ?_)
      refine goes_ Tryd.func56 (by kernel_rfl) rfl #[.agg #[.int .i64 t.f0, .bool t.f1]] (by rfl) rfl rfl (by (try simp only [List.map_toArray, List.map_cons, List.map_nil]); first | done | rfl | (simp only [List.length_drop, List.length_take]; rfl)) ?_
      with_reducible refine (impl_Tone_height.calls t.f0 t.f1 h2 _ (GOk.below HG.out HB.out) A3.out).mono ?_
      rintro e w17 ⟨rfl, hb⟩
      refine ⟨_, rfl, ?_⟩
      have n0_ := Aside0.mk (Kd.R_below HO.out hb)
      have n1_ := Aside0.mk (below_step HB.out hb)
      have n2_ := Aside0.mk (blk_below BK.out hb)
      have n3_ := Aside0.mk (Chain.below hb CQ.out)
      have n4_ := Aside0.mk (blk_below BX.out hb)
      clear HO HB BK CQ BX hb
      have HO := n0_
      have HB := n1_
      have BK := n2_
      have CQ := n3_
      have BX := n4_
      clear n0_ n1_ n2_ n3_ n4_
      refine hK.out _ _ ⟨(blk_cell BX.out 0).trans rfl, (blk_cell BX.out 1).trans rfl, (blk_cell BK.out 0).trans rfl, (blk_cell BK.out 1).trans rfl⟩ (fun hHeld => ?_)
      clear hK K
      refine norm_ (a' := ?_) ?_ ?_
      rotate_left
      ·show Act.put _ (some 46) _ = _
       simp only [Act.put, List.setIfInBounds_toArray, List.set_cons_zero, List.set_cons_succ, i64_w, i32_w]
       rfl
      refine pure_ (i := 9) (N := some 47) (v := ?_) (a' := ?_) #[true, true, true, true, true, true, true, true, true, true, true, false, false] rfl rfl (any_of HT_.out (by kernel_rfl)) (fun _ _ _ h => h) (Or.inl ⟨by rfl, ?_⟩) ?_ ?_
      rotate_left
      ·intro w'
       go_simp
       with_reducible rfl
      rotate_left
      ·simp only [Act.put, List.setIfInBounds_toArray, List.set_cons_zero, List.set_cons_succ, i64_w, i32_w]
       rfl
      refine pure_ (i := 11) (N := some 49) (v := ?_) (a' := ?_) #[true, true, true, true, true, true, true, true, true, true, true, true, false] rfl rfl (any_of HT_.out (by kernel_rfl)) (fun _ _ _ h => h) (Or.inl ⟨by rfl, ?_⟩) ?_ ?_
      rotate_left
      ·intro w'
       go_simp
       with_reducible rfl
      rotate_left
      ·simp only [Act.put, List.setIfInBounds_toArray, List.set_cons_zero, List.set_cons_succ, i64_w, i32_w]
       rfl
      refine pure_ (i := 12) (N := some 50) (v := ?_) (a' := ?_) #[true, true, true, true, true, true, true, true, true, true, true, true, true] rfl rfl (any_of HT_.out (by kernel_rfl)) (fun _ _ _ h => h) (Or.inl ⟨by rfl, ?_⟩) ?_ ?_
      rotate_left
      ·intro w'
       go_simp
       with_reducible rfl
      rotate_left
      ·simp only [Act.put, List.setIfInBounds_toArray, List.set_cons_zero, List.set_cons_succ, i64_w, i32_w]
       rfl
      refine done_ (done_of HT_.out (by kernel_rfl)) ?_
      have HOX := HO
      have hcx_0 : w17.cell? ⟨gb, 0, none⟩ = some (.int .i64 x) := (blk_cell BX.out 0).trans rfl
      have hcx_1 : w17.cell? ⟨gb, 1, none⟩ = some (.bool s) := (blk_cell BX.out 1).trans rfl
      have hfx_0 := blk_frozen BX.out 0
      have hfx_1 := blk_frozen BX.out 1
      go_wp2_with (first | ((with_reducible refine gate_builtin (b := .append) (xs := #[.tmp 51, .tmp 53]) rfl ?_); at_builtin; refine Kd.R_append k25 (w0 := w) w.heap.size rfl (.tmp 51) (.tmp 53) 41 25 (.agg #[(.int .i64 0), (.bool false)]) 16 rfl Tryd.underlying41 info25 rfl (by decide) (by omega) _ acc (⟨x, s⟩ : S25) [.int .i64 x, .bool s] (fun k_ => k_ ≠ gb) (fun _ => False) rfl rfl ?aP (fun _ hk => hk.elim) ?aF ?aO ?aB ?aS ?aL ?_; (case aP => exact k25_mkM _ _ _ (⟨x, s⟩ : S25)); (case aB => exact HB.out); (case aF => exact (fun k_ hk => Kd.freshB (g := gb) (o := .cells #[.int .i64 x, .bool s] 25 (0, 0)) BX.out k_ hk)); (case aO => exact HOX.out); (case aS => exact (below_size HB.out)); (case aL => have h_ := HAL.out; have h2_ := HN.out; omega); intro v99 w26 ho hb hg hat; have n0_ := Aside0.mk (Kd.R_mono ho (fun _ _ => trivial)); have n1_ := Aside0.mk hb; have n2_ := Aside0.mk (blk_grown BK.out hg (Kd.R_ne HOX.out BK.out (by decide))); have n3_ := Aside0.mk (Chain.grown hg (fun g_ cs_ h_ => Kd.R_ne HOX.out h_ (by decide)) CQ.out); clear HO HB BK CQ BX HOX ho hb hg hat hcx_0 hcx_1 hfx_0 hfx_1; have HO := n0_; have HB := n1_; have BK := n2_; have CQ := n3_; clear n0_ n1_ n2_ n3_; have y2 : w26.cell? ⟨g, 2, none⟩ = some (.pointer q) := (blk_cell BK.out 2).trans rfl))
      go_roundg k1
      case measure => omega
      case rel => exact ⟨acc ++ [(⟨x, s⟩ : S25)], ts, q, rfl, HTS.out, by have h_ := HAL.out; simp; omega, H3, HO, CQ, HB⟩
end Go.Proofs.YtlinjleahnccgaaDoor.E
end
section
namespace Go.Proofs.YtlinjleahnccgaaDoor.E
open Go.RowKit Go.Proofs.YtlinjleahnccgaaDoorW.PrintWords Go.Proofs.YtlinjleahnccgaaDoorW.PrintLast Go.Proofs.YtlinjleahnccgaaDoorW.PrintMore
attribute [local go_sem] max2_int min2_int max_two min_two max_three min_three max_four min_four
set_option linter.unusedVariables false
set_option linter.unusedSimpArgs false
attribute [local go_sem] str_leq_ str_gtr_ str_geq_
def mvTry (kk : Nat) (l0 : List (S25)) (a1 : Int) (b : Bool) (bad : Option (List S25 × Bool)) : Option (List S25 × Bool) := (impl_ToneAbove.f kk (rd_T25 l0 0).f0 (rd_T25 l0 0).f1 a1 b).bind fun r => (if r.2.2 = true then ((impl_Tone_height.f r.1 r.2.1).bind fun h1 => (impl_Tone_height.f (rd_T25 l0 0).f0 (rd_T25 l0 0).f1).bind fun h2 => (impl_movedMelody.f kk l0 a1 (wrap64 (h1 - h2))).bind fun q => (if q.2 = true then some (q.1, true) else bad)) else bad)
def mvIn (kk : Nat) (l0 : List (S25)) (a1 : Int) : Nat → Option (List S25 × Bool)
 | 0 => mvTry kk l0 a1 false (mvTry kk l0 a1 true (some ([], false)))
 | 1 => mvTry kk l0 a1 true (some ([], false))
 | _ + 2 => some ([], false)
def impl_MelodyMove.f (k : Nat) (l0 : List (S25)) (a1 : Int) : Option ((List (S25)) × Bool) := if l0.length ≤ 1000000 then ((impl_MelodyValid.f k l0).bind fun v => (if v = true then (if l0.length = 0 then some ([], true) else mvIn k l0 a1 0) else some ([], false))) else none
theorem mv_ix0 (w : World) : (Instr.index 58 (.agg #[.bool false, .bool true]) (.int .i64 0)).run Tryd.prog w = .ok (.bool false) w := by kernel_rfl
theorem mv_ix1 (w : World) : (Instr.index 58 (.agg #[.bool false, .bool true]) (.int .i64 1)).run Tryd.prog w = .ok (.bool true) w := by kernel_rfl
attribute [local go_sem] mv_ix0 mv_ix1
def impl_MelodyMove.T10 : Bool × List (List Nat × List Nat) := (true, [([], []), ([], []), ([], []), ([2], [2]), ([], []), ([4], [4]), ([5], [5]), ([6, 3], [6]), ([3, 7], [3, 7]), ([0, 1, 8, 7], [0, 1, 8]), ([9], [9]), ([10], [10]), ([10], [10]), ([11, 9, 0, 1, 2, 3, 4, 5, 6, 7, 8, 9, 10, 11], [11]), ([12, 13, 0, 1, 2, 3, 4, 5, 6, 7, 8, 9, 10, 11, 12, 13], [12])])
def impl_MelodyMove.B10 : List Nat := [0, 0, 0, 4, 0, 16, 48, 124, 252, 511, 1023, 2047, 2047, 4095, 16383]
theorem impl_MelodyMove.tab10 : rtab .any (opsOf Tryd.f33 10) = impl_MelodyMove.T10 := by kernel_rfl
theorem impl_MelodyMove.bits10 : waitsOk impl_MelodyMove.T10.2 impl_MelodyMove.B10 = true := by kernel_rfl
set_option maxHeartbeats 16000000 in
set_option maxRecDepth 100000 in
theorem impl_MelodyMove.calls (k : Nat) (A0 : Option Addr) (c0 : Nat) (l0 : List (S25)) (a1 : Int) (r1 : List (S25)) (r2 : Bool) (w : World) (hr0 : Kd.C k25 w A0 l0.length l0) (hc0 : l0.length ≤ c0) (hG : GOk [1] w) (h : impl_MelodyMove.f k l0 a1 = some (r1, r2)) :
  Calls Tryd.prog 33 #[.slice A0 l0.length c0, .int .i64 a1] w fun e w' => ∃ v0_ : Value, e = .returned (.tuple #[v0_, .bool r2]) ∧ Kd.R k25 25 w' w.heap.size (fun _ => True) v0_ r1 ∧ Below w.heap.size w w' := by
 have hu25 := Tryd.underlying25
 unfold impl_MelodyMove.f at h
 by_cases hn : l0.length ≤ 1000000
 rotate_left
 ·rw [if_neg hn] at h; cases h
 rw [if_pos hn] at h
 obtain ⟨v, A10, H⟩ := Option.bind_eq_some_iff.mp h
 have A1 := Aside0.mk A10
 have HR0 := Aside0.mk hr0
 have HC0 := Aside0.mk hc0
 have HG := Aside0.mk hG
 have HN := Aside0.mk hn
 clear h A10 hr0 hc0 hG hn
 by_cases c1 : v = true
 rotate_left
 ·replace c1 := Bool.eq_false_iff.mpr c1
  subst c1
  rw [if_neg (show ¬ (false = true) by decide)] at H
  simp only [Option.some.injEq, Prod.mk.injEq] at H
  obtain ⟨rfl, rfl⟩ := H
  go_enter Tryd.func33, Tryd.ntmps33
  go_wp2_with (first | (go_at_call 49; ((with_reducible refine (impl_MelodyValid.calls k _ _ l0 false _ HR0.out HC0.out A1.out).mono ?_); rintro e w4 ⟨rfl, hb⟩; have HB := Aside0.mk hb; clear hb)))
  go_ret2
  exact ⟨_, rfl, Kd.R_nil _ _ _ _ _, HB.out⟩
 subst c1
 rw [if_pos rfl] at H
 by_cases c2 : l0.length = 0
 ·rw [if_pos c2] at H
  simp only [Option.some.injEq, Prod.mk.injEq] at H
  obtain ⟨rfl, rfl⟩ := H
  have c3 : ((l0.length : Int) == 0) = true := beq_iff_eq.mpr (by omega)
  have c4 := decide_eq_true (show (l0.length : Int) = 0 by omega)
  clear c2
  go_enter Tryd.func33, Tryd.ntmps33
  go_wp2_with (first | (go_at_call 49; ((with_reducible refine (impl_MelodyValid.calls k _ _ l0 true _ HR0.out HC0.out A1.out).mono ?_); rintro e w4 ⟨rfl, hb⟩; have HB := Aside0.mk hb; clear hb)) | ((with_reducible refine gate_dst (N := 18) rfl ?_); refine Kd.R_lit k25 _ 25 ?hg (N := 18) ?hd (xs := ([] : List S25)) (inner := []) (ok := fun _ => True) (okp := fun _ => True) ?hr ?hp (fun _ hk => hk) trivial (Below.refl _ _) (Nat.le_refl _) (by simp) ?_; (case hd => rfl); (case hg => rfl); (case hr => first | (go_simp; done) | (go_simp; rfl)); (case hp => exact (Reps.none _ _)); intro v8 w5 ho hb hg_ hnew_; clear hg_ hnew_; have HO := Aside0.mk (Kd.R_lower ho (below_size HB.out)); have n1_ := Aside0.mk (below_step HB.out hb); clear HB ho hb; have HB := n1_; clear n1_))
  go_ret2
  exact ⟨_, rfl, HO.out, HB.out⟩
 rw [if_neg c2] at H
 have HH := Aside0.mk H
 clear H
 have c3 : ((l0.length : Int) == 0) = false := beq_eq_false_iff_ne.mpr (by omega)
 have c4 := decide_eq_false (show ¬ (l0.length : Int) = 0 by omega)
 have HZ : Aside0 (0 < l0.length) := ⟨by omega⟩
 obtain ⟨ad, e1, z1, z2⟩ := at_T25 HR0.out 0 (by omega) (by omega)
 cases e1
 simp only [Int.toNat_zero, Nat.zero_mul, Addr.add_zero'] at z1 z2
 have Z1 := Aside0.mk z1
 have Z2 := Aside0.mk z2
 clear z1 z2
 go_enter Tryd.func33, Tryd.ntmps33
 go_wp2_with (first | (go_at_call 49; ((with_reducible refine (impl_MelodyValid.calls k _ _ l0 true _ HR0.out HC0.out A1.out).mono ?_); rintro e w4 ⟨rfl, hb⟩; have HB := Aside0.mk hb; clear hb)))
 clear A1 c3 c4 c2
 go_loopg [20] 2 (fun kq v20 w' => ∃ (j : Nat), v20 = .int .i64 j ∧ j + kq = 2 ∧ Aside0 (mvIn k l0 a1 j = some (r1, r2)) ∧ Aside0 (Below w.heap.size w w'))
 case atStart => exact ⟨0, rfl, rfl, HH, HB⟩
 case round =>
  clear HH HB
  obtain ⟨j, rfl, HJ, H2, HB⟩ := hrel
  cases gk with
  | zero =>
   obtain rfl : j = 2 := by omega
   have E := H2.out
   clear H2
   simp only [mvIn, Option.some.injEq, Prod.mk.injEq] at E
   obtain ⟨rfl, rfl⟩ := E
   go_wp2
   go_ret2
   exact ⟨_, rfl, Kd.R_nil _ _ _ _ _, HB.out⟩
  | succ k2 =>
   have E := H2.out
   clear H2
   have c5 := eq_true (show (0 : Int) < (l0.length : Int) by have := HZ.out; omega)
   have c6 := eq_true HZ.out
   obtain rfl | rfl : j = 0 ∨ j = 1 := by omega
   ·
    unfold mvIn mvTry at E
    obtain ⟨r, A10, E⟩ := Option.bind_eq_some_iff.mp E
    obtain ⟨x, s, ok⟩ := r
    have A1 := Aside0.mk A10
    clear A10
    simp only at E
    have z1 := cell_keep Z1.out HB.out
    have z2 := cell_keep Z2.out HB.out
    by_cases c3 : ok = true
    rotate_left
    ·replace c3 := Bool.eq_false_iff.mpr c3
     subst c3
     rw [if_neg (show ¬ (false = true) by decide)] at E
     have H3 : Aside0 (mvIn k l0 a1 1 = some (r1, r2)) := ⟨E⟩
     clear E
     go_wp2_with (first | (go_at_call 20; ((with_reducible refine (impl_ToneAbove.calls k (rd_T25 l0 0).f0 (rd_T25 l0 0).f1 a1 false x s false _ A1.out).mono ?_); rintro e w11 ⟨rfl, hb⟩; have n1_ := Aside0.mk (below_step HB.out hb); clear HB hb z1 z2; have HB := n1_; clear n1_)) | ((with_reducible refine gate_dst (N := 8) rfl ?_); refine box_event ?hg (N := 8) ?hd (cs := #[.int .i64 0, .bool false]) (t := 25) ?hr ?_; (case hd => rfl); (case hg => rfl); (case hr => first | (go_simp; done) | (go_simp; rfl)); intro gb hg w13 hbox hb; have BX := Aside0.mk hbox; have BB := Aside0.mk hb; have GB := Aside0.mk hg; clear hbox hb hg; have hcz_0 : w13.cell? ⟨gb, 0, none⟩ = some (.int .i64 0) := (blk_cell BX.out 0).trans rfl; have hcz_1 : w13.cell? ⟨gb, 1, none⟩ = some (.bool false) := (blk_cell BX.out 1).trans rfl; have hfz_0 := blk_frozen BX.out 0; have hfz_1 := blk_frozen BX.out 1))
     have BA : Aside0 (Below w11.heap.size w11 ((w13.setCell ⟨gb, 0, none⟩ (.int .i64 x)).setCell ⟨gb, 1, none⟩ (.bool s))) := ⟨below_set (below_set BB.out (Nat.le_of_eq GB.out.symm)) (Nat.le_of_eq GB.out.symm)⟩
     have n1_ := Aside0.mk (below_step HB.out BA.out)
     clear HB
     have HB := n1_
     clear n1_
     go_roundg k2
     case measure => omega
     case rel => exact ⟨1, by first | rfl | (simp; done), by omega, H3, HB⟩
    subst c3
    rw [if_pos rfl] at E
    obtain ⟨h1, A20, E⟩ := Option.bind_eq_some_iff.mp E
    obtain ⟨h2, A30, E⟩ := Option.bind_eq_some_iff.mp E
    obtain ⟨qq, A40, E⟩ := Option.bind_eq_some_iff.mp E
    obtain ⟨q1, q2⟩ := qq
    simp only at E
    have A2 := Aside0.mk A20
    have A3 := Aside0.mk A30
    have A4 := Aside0.mk A40
    clear A20 A30 A40
    cases q2
    ·rw [if_neg (show ¬ (false = true) by decide)] at E
     have H3 : Aside0 (mvIn k l0 a1 1 = some (r1, r2)) := ⟨E⟩
     clear E
     go_wp2_with (first | (go_at_call 20; ((with_reducible refine (impl_ToneAbove.calls k (rd_T25 l0 0).f0 (rd_T25 l0 0).f1 a1 false x s true _ A1.out).mono ?_); rintro e w11 ⟨rfl, hb⟩; have n1_ := Aside0.mk (below_step HB.out hb); clear HB hb z1 z2; have HB := n1_; clear n1_)) | ((with_reducible refine gate_dst (N := 8) rfl ?_); refine box_event ?hg (N := 8) ?hd (cs := #[.int .i64 0, .bool false]) (t := 25) ?hr ?_; (case hd => rfl); (case hg => rfl); (case hr => first | (go_simp; done) | (go_simp; rfl)); intro gb hg w13 hbox hb; have BX := Aside0.mk hbox; have BB := Aside0.mk hb; have GB := Aside0.mk hg; clear hbox hb hg; have hcz_0 : w13.cell? ⟨gb, 0, none⟩ = some (.int .i64 0) := (blk_cell BX.out 0).trans rfl; have hcz_1 : w13.cell? ⟨gb, 1, none⟩ = some (.bool false) := (blk_cell BX.out 1).trans rfl; have hfz_0 := blk_frozen BX.out 0; have hfz_1 := blk_frozen BX.out 1))
     have BA : Aside0 (Below w11.heap.size w11 ((w13.setCell ⟨gb, 0, none⟩ (.int .i64 x)).setCell ⟨gb, 1, none⟩ (.bool s))) := ⟨below_set (below_set BB.out (Nat.le_of_eq GB.out.symm)) (Nat.le_of_eq GB.out.symm)⟩
     have n1_ := Aside0.mk (below_step HB.out BA.out)
     have n4_ : Aside0 (((w13.setCell ⟨gb, 0, none⟩ (.int .i64 x)).setCell ⟨gb, 1, none⟩ (.bool s)).heap[gb]? = some (.cells #[.int .i64 x, .bool s] 25 (0, 0))) := ⟨by refine blk_put (cs := #[.int .i64 x, .bool false]) ?_ 1 _ rfl; refine blk_put (cs := #[.int .i64 0, .bool false]) ?_ 0 _ rfl; exact BX.out⟩
     clear HB BX BB BA hcz_0 hcz_1 hfz_0 hfz_1
     generalize ((w13.setCell ⟨gb, 0, none⟩ (.int .i64 x)).setCell ⟨gb, 1, none⟩ (.bool s)) = w14 at n1_ n4_ ⊢
     have HB := n1_
     have BX := n4_
     clear n1_ n4_
     have n1_ := Aside0.mk (below_drew1 HB.out)
     have n4_ := Aside0.mk (blk_drew BX.out)
     clear HB BX
     have HB := n1_
     have BX := n4_
     clear n1_ n4_
     refine start_ (n := 15) (S := fun w' => w'.cell? ⟨gb, 0, none⟩ = some (.int .i64 x) ∧ w'.cell? ⟨gb, 1, none⟩ = some (.bool s) ∧ w'.cell? ad = some (.int .i64 (rd_T25 l0 0).f0) ∧ w'.cell? ⟨ad.block, ad.off + 1, none⟩ = some (.bool (rd_T25 l0 0).f1)) (ds := []) #[false, false, false, false, false, false, false, false, false, false, false, false, false, false, false] (by kernel_rfl) rfl rfl ⟨(blk_cell BX.out 0).trans rfl, (blk_cell BX.out 1).trans rfl, cell_keep Z1.out HB.out, cell_keep Z2.out HB.out⟩ (fun hHeld => ?_)
     refine with_tabW impl_MelodyMove.tab10 impl_MelodyMove.bits10 (fun HT_ HW_ => ?_)
     generalize w14.drew = w15 at HB BX hHeld ⊢
     refine pure_ (i := 0) (N := some 35) (v := ?_) (a' := ?_) #[true, false, false, false, false, false, false, false, false, false, false, false, false, false, false] rfl rfl (any_of HT_.out (by kernel_rfl)) (fun _ _ _ h => h) (Or.inl ⟨by rfl, ?_⟩) ?_ ?_
     rotate_left
     ·intro w'
      go_simp
      with_reducible rfl
     rotate_left
     ·simp only [Act.put, List.setIfInBounds_toArray, List.set_cons_zero, List.set_cons_succ, i64_w, i32_w]
      rfl
     refine pure_ (i := 1) (N := some 36) (v := ?_) (a' := ?_) #[true, true, false, false, false, false, false, false, false, false, false, false, false, false, false] rfl rfl (any_of HT_.out (by kernel_rfl)) (fun _ _ _ h => h) (Or.inl ⟨by rfl, ?_⟩) ?_ ?_
     rotate_left
     ·intro w'
      go_simp
      with_reducible rfl
     rotate_left
     ·simp only [Act.put, List.setIfInBounds_toArray, List.set_cons_zero, List.set_cons_succ, i64_w, i32_w]
      rfl
     refine pure_ (i := 4) (N := some 39) (v := ?_) (a' := ?_) #[true, true, false, false, true, false, false, false, false, false, false, false, false, false, false] rfl rfl (any_of HT_.out (by kernel_rfl)) (fun _ _ _ h => h) (Or.inl ⟨by rfl, ?_⟩) ?_ ?_
     rotate_left
     ·intro w'
      go_simp
      with_reducible rfl
     rotate_left
     ·simp only [Act.put, List.setIfInBounds_toArray, List.set_cons_zero, List.set_cons_succ, i64_w, i32_w]
      rfl
     refine pure_ (i := 5) (N := some 40) (v := ?_) (a' := ?_) #[true, true, false, false, true, true, false, false, false, false, false, false, false, false, false] rfl rfl (any_of HT_.out (by kernel_rfl)) (fun _ _ _ h => h) (Or.inl ⟨by rfl, ?_⟩) ?_ ?_
     rotate_left
     ·intro w'
      go_simp
      with_reducible rfl
     rotate_left
     ·simp only [Act.put, List.setIfInBounds_toArray, List.set_cons_zero, List.set_cons_succ, i64_w, i32_w]
      rfl
     refine take_ (i := 2) (N := some 37) (v := ?_) (a' := ?_) #[true, true, true, false, true, true, false, false, false, false, false, false, false, false, false] rfl rfl (take_ofW HT_.out HW_.out (by kernel_rfl)) (fun _ _ _ h => h) (Or.inl ⟨by rfl, ?_⟩) hHeld ?_ ?_
     rotate_left
     ·rintro w' ⟨s0, s1, s2, s3⟩
      go_simp
      with_reducible rfl
     rotate_left
     ·simp only [Act.put, List.setIfInBounds_toArray, List.set_cons_zero, List.set_cons_succ, i64_w, i32_w]
      rfl
     refine take_ (i := 6) (N := some 41) (v := ?_) (a' := ?_) #[true, true, true, false, true, true, true, false, false, false, false, false, false, false, false] rfl rfl (take_ofW HT_.out HW_.out (by kernel_rfl)) (fun _ _ _ h => h) (Or.inl ⟨by rfl, ?_⟩) hHeld ?_ ?_
     rotate_left
     ·rintro w' ⟨s0, s1, s2, s3⟩
      go_simp
      with_reducible rfl
     rotate_left
     ·simp only [Act.put, List.setIfInBounds_toArray, List.set_cons_zero, List.set_cons_succ, i64_w, i32_w]
      rfl
     refine one_ (i := 3) (N := some 38) #[true, true, true, true, true, true, true, false, false, false, false, false, false, false, false] rfl rfl (one_of HT_.out (by kernel_rfl)) (by decide) (fun K hK => ?_)
     refine goes_ Tryd.func56 (by kernel_rfl) rfl #[.agg #[.int .i64 x, .bool s]] (by rfl) rfl rfl (by (try simp only [List.map_toArray, List.map_cons, List.map_nil]); first | done | rfl | (simp only [List.length_drop, List.length_take]; rfl)) ?_
     with_reducible refine (impl_Tone_height.calls x s h1 _ (GOk.below HG.out HB.out) A2.out).mono ?_
     rintro e w16 ⟨rfl, hb⟩
     refine ⟨_, rfl, ?_⟩
     have n1_ := Aside0.mk (below_step HB.out hb)
     have n4_ := Aside0.mk (blk_below BX.out hb)
     clear HB BX hb
     have HB := n1_
     have BX := n4_
     clear n1_ n4_
     refine hK.out _ _ ⟨(blk_cell BX.out 0).trans rfl, (blk_cell BX.out 1).trans rfl, cell_keep Z1.out HB.out, cell_keep Z2.out HB.out⟩ (fun hHeld => ?_)
     clear hK K
     refine norm_ (a' := ?_) ?_ ?_
     rotate_left
     ·show Act.put _ (some 38) _ = _
      simp only [Act.put, List.setIfInBounds_toArray, List.set_cons_zero, List.set_cons_succ, i64_w, i32_w]
      rfl
     refine one_ (i := 7) (N := some 42) #[true, true, true, true, true, true, true, true, false, false, false, false, false, false, false] rfl rfl (one_of HT_.out (by kernel_rfl)) (by decide) (fun K hK => ?_)
     refine goes_ Tryd.func56 (by kernel_rfl) rfl #[.agg #[.int .i64 ((rd_T25 l0 0).f0), .bool ((rd_T25 l0 0).f1)]] (by rfl) rfl rfl (by (try simp only [List.map_toArray, List.map_cons, List.map_nil]); first | done | rfl | (simp only [List.length_drop, List.length_take]; rfl)) ?_
     with_reducible refine (impl_Tone_height.calls (rd_T25 l0 0).f0 (rd_T25 l0 0).f1 h2 _ (GOk.below HG.out HB.out) A3.out).mono ?_
     rintro e w17 ⟨rfl, hb⟩
     refine ⟨_, rfl, ?_⟩
     have n1_ := Aside0.mk (below_step HB.out hb)
     have n4_ := Aside0.mk (blk_below BX.out hb)
     clear HB BX hb
     have HB := n1_
     have BX := n4_
     clear n1_ n4_
     refine hK.out _ _ ⟨(blk_cell BX.out 0).trans rfl, (blk_cell BX.out 1).trans rfl, cell_keep Z1.out HB.out, cell_keep Z2.out HB.out⟩ (fun hHeld => ?_)
     clear hK K
     refine norm_ (a' := ?_) ?_ ?_
     rotate_left
     ·show Act.put _ (some 42) _ = _
      simp only [Act.put, List.setIfInBounds_toArray, List.set_cons_zero, List.set_cons_succ, i64_w, i32_w]
      rfl
     refine pure_ (i := 8) (N := some 43) (v := ?_) (a' := ?_) #[true, true, true, true, true, true, true, true, true, false, false, false, false, false, false] rfl rfl (any_of HT_.out (by kernel_rfl)) (fun _ _ _ h => h) (Or.inl ⟨by rfl, ?_⟩) ?_ ?_
     rotate_left
     ·intro w'
      go_simp
      with_reducible rfl
     rotate_left
     ·simp only [Act.put, List.setIfInBounds_toArray, List.set_cons_zero, List.set_cons_succ, i64_w, i32_w]
      rfl
     refine one_ (i := 9) (N := some 44) #[true, true, true, true, true, true, true, true, true, true, false, false, false, false, false] rfl rfl (one_of HT_.out (by kernel_rfl)) (by decide) (fun K hK => ?_)
     refine goes_ Tryd.func55 (by kernel_rfl) rfl #[.slice (some ad) l0.length c0, .int .i64 a1, .int .i64 (wrap64 (h1 - h2))] (by rfl) rfl rfl (by (try simp only [List.map_toArray, List.map_cons, List.map_nil]); first | done | rfl | (simp only [List.length_drop, List.length_take]; rfl)) ?_
     with_reducible refine (impl_movedMelody.calls k (some ad) c0 l0 a1 (wrap64 (h1 - h2)) q1 false _ (Kd.C_below HR0.out HB.out) HC0.out (GOk.below HG.out HB.out) A4.out).mono ?_
     rintro e w18 ⟨vq, rfl, hq, hb⟩
     refine ⟨_, rfl, ?_⟩
     have HQ := Aside0.mk (Kd.R_lower hq (below_size HB.out))
     clear hq
     have n1_ := Aside0.mk (below_step HB.out hb)
     have n4_ := Aside0.mk (blk_below BX.out hb)
     clear HB BX hb
     have HB := n1_
     have BX := n4_
     clear n1_ n4_
     refine hK.out _ _ ⟨(blk_cell BX.out 0).trans rfl, (blk_cell BX.out 1).trans rfl, cell_keep Z1.out HB.out, cell_keep Z2.out HB.out⟩ (fun hHeld => ?_)
     clear hK K
     refine norm_ (a' := ?_) ?_ ?_
     rotate_left
     ·show Act.put _ (some 44) _ = _
      simp only [Act.put, List.setIfInBounds_toArray, List.set_cons_zero, List.set_cons_succ, i64_w, i32_w]
      rfl
     refine pure_ (i := 10) (N := some 34) (v := ?_) (a' := ?_) #[true, true, true, true, true, true, true, true, true, true, true, false, false, false, false] rfl rfl (any_of HT_.out (by kernel_rfl)) (fun _ _ _ h => h) (Or.inl ⟨by rfl, ?_⟩) ?_ ?_
     rotate_left
     ·intro w'
      go_simp
      with_reducible rfl
     rotate_left
     ·simp only [Act.put, List.setIfInBounds_toArray, List.set_cons_zero, List.set_cons_succ, i64_w, i32_w]
      rfl
     refine pure_ (i := 11) (N := some 45) (v := ?_) (a' := ?_) #[true, true, true, true, true, true, true, true, true, true, true, true, false, false, false] rfl rfl (any_of HT_.out (by kernel_rfl)) (fun _ _ _ h => h) (Or.inl ⟨by rfl, ?_⟩) ?_ ?_
     rotate_left
     ·intro w'
      go_simp
      with_reducible rfl
     rotate_left
     ·simp only [Act.put, List.setIfInBounds_toArray, List.set_cons_zero, List.set_cons_succ, i64_w, i32_w]
      rfl
     refine pure_ (i := 12) (N := some 46) (v := ?_) (a' := ?_) #[true, true, true, true, true, true, true, true, true, true, true, true, true, false, false] rfl rfl (any_of HT_.out (by kernel_rfl)) (fun _ _ _ h => h) (Or.inl ⟨by rfl, ?_⟩) ?_ ?_
     rotate_left
     ·intro w'
      go_simp
      with_reducible rfl
     rotate_left
     ·simp only [Act.put, List.setIfInBounds_toArray, List.set_cons_zero, List.set_cons_succ, i64_w, i32_w]
      rfl
     refine pure_ (i := 13) (N := some 10) (v := ?_) (a' := ?_) #[true, true, true, true, true, true, true, true, true, true, true, true, true, true, false] rfl rfl (any_of HT_.out (by kernel_rfl)) (fun _ _ _ h => h) (Or.inl ⟨by rfl, ?_⟩) ?_ ?_
     rotate_left
     ·intro w'
      go_simp
      with_reducible rfl
     rotate_left
     ·simp only [Act.put, List.setIfInBounds_toArray, List.set_cons_zero, List.set_cons_succ, i64_w, i32_w]
      rfl
     refine pure_ (i := 14) (N := some 11) (v := ?_) (a' := ?_) #[true, true, true, true, true, true, true, true, true, true, true, true, true, true, true] rfl rfl (any_of HT_.out (by kernel_rfl)) (fun _ _ _ h => h) (Or.inl ⟨by rfl, ?_⟩) ?_ ?_
     rotate_left
     ·intro w'
      go_simp
      with_reducible rfl
     rotate_left
     ·simp only [Act.put, List.setIfInBounds_toArray, List.set_cons_zero, List.set_cons_succ, i64_w, i32_w]
      rfl
     refine done_ (done_of HT_.out (by kernel_rfl)) ?_
     clear HQ
     try go_wp2
     go_roundg k2
     case measure => omega
     case rel => exact ⟨1, by first | rfl | (simp; done), by omega, H3, HB⟩
    ·rw [if_pos rfl] at E
     simp only [Option.some.injEq, Prod.mk.injEq] at E
     obtain ⟨rfl, rfl⟩ := E
     go_wp2_with (first | (go_at_call 20; ((with_reducible refine (impl_ToneAbove.calls k (rd_T25 l0 0).f0 (rd_T25 l0 0).f1 a1 false x s true _ A1.out).mono ?_); rintro e w11 ⟨rfl, hb⟩; have n1_ := Aside0.mk (below_step HB.out hb); clear HB hb z1 z2; have HB := n1_; clear n1_)) | ((with_reducible refine gate_dst (N := 8) rfl ?_); refine box_event ?hg (N := 8) ?hd (cs := #[.int .i64 0, .bool false]) (t := 25) ?hr ?_; (case hd => rfl); (case hg => rfl); (case hr => first | (go_simp; done) | (go_simp; rfl)); intro gb hg w13 hbox hb; have BX := Aside0.mk hbox; have BB := Aside0.mk hb; have GB := Aside0.mk hg; clear hbox hb hg; have hcz_0 : w13.cell? ⟨gb, 0, none⟩ = some (.int .i64 0) := (blk_cell BX.out 0).trans rfl; have hcz_1 : w13.cell? ⟨gb, 1, none⟩ = some (.bool false) := (blk_cell BX.out 1).trans rfl; have hfz_0 := blk_frozen BX.out 0; have hfz_1 := blk_frozen BX.out 1))
     have BA : Aside0 (Below w11.heap.size w11 ((w13.setCell ⟨gb, 0, none⟩ (.int .i64 x)).setCell ⟨gb, 1, none⟩ (.bool s))) := ⟨below_set (below_set BB.out (Nat.le_of_eq GB.out.symm)) (Nat.le_of_eq GB.out.symm)⟩
     have n1_ := Aside0.mk (below_step HB.out BA.out)
     have n4_ : Aside0 (((w13.setCell ⟨gb, 0, none⟩ (.int .i64 x)).setCell ⟨gb, 1, none⟩ (.bool s)).heap[gb]? = some (.cells #[.int .i64 x, .bool s] 25 (0, 0))) := ⟨by refine blk_put (cs := #[.int .i64 x, .bool false]) ?_ 1 _ rfl; refine blk_put (cs := #[.int .i64 0, .bool false]) ?_ 0 _ rfl; exact BX.out⟩
     clear HB BX BB BA hcz_0 hcz_1 hfz_0 hfz_1
     generalize ((w13.setCell ⟨gb, 0, none⟩ (.int .i64 x)).setCell ⟨gb, 1, none⟩ (.bool s)) = w14 at n1_ n4_ ⊢
     have HB := n1_
     have BX := n4_
     clear n1_ n4_
     have n1_ := Aside0.mk (below_drew1 HB.out)
     have n4_ := Aside0.mk (blk_drew BX.out)
     clear HB BX
     have HB := n1_
     have BX := n4_
     clear n1_ n4_
     refine start_ (n := 15) (S := fun w' => w'.cell? ⟨gb, 0, none⟩ = some (.int .i64 x) ∧ w'.cell? ⟨gb, 1, none⟩ = some (.bool s) ∧ w'.cell? ad = some (.int .i64 (rd_T25 l0 0).f0) ∧ w'.cell? ⟨ad.block, ad.off + 1, none⟩ = some (.bool (rd_T25 l0 0).f1)) (ds := []) #[false, false, false, false, false, false, false, false, false, false, false, false, false, false, false] (by kernel_rfl) rfl rfl ⟨(blk_cell BX.out 0).trans rfl, (blk_cell BX.out 1).trans rfl, cell_keep Z1.out HB.out, cell_keep Z2.out HB.out⟩ (fun hHeld => ?_)
     refine with_tabW impl_MelodyMove.tab10 impl_MelodyMove.bits10 (fun HT_ HW_ => ?_)
     generalize w14.drew = w15 at HB BX hHeld ⊢
     refine pure_ (i := 0) (N := some 35) (v := ?_) (a' := ?_) #[true, false, false, false, false, false, false, false, false, false, false, false, false, false, false] rfl rfl (any_of HT_.out (by kernel_rfl)) (fun _ _ _ h => h) (Or.inl ⟨by rfl, ?_⟩) ?_ ?_
     rotate_left
     ·intro w'
      go_simp
      with_reducible rfl
     rotate_left
     ·simp only [Act.put, List.setIfInBounds_toArray, List.set_cons_zero, List.set_cons_succ, i64_w, i32_w]
      rfl
     refine pure_ (i := 1) (N := some 36) (v := ?_) (a' := ?_) #[true, true, false, false, false, false, false, false, false, false, false, false, false, false, false] rfl rfl (any_of HT_.out (by kernel_rfl)) (fun _ _ _ h => h) (Or.inl ⟨by rfl, ?_⟩) ?_ ?_
     rotate_left
     ·intro w'
      go_simp
      with_reducible rfl
     rotate_left
     ·simp only [Act.put, List.setIfInBounds_toArray, List.set_cons_zero, List.set_cons_succ, i64_w, i32_w]
      rfl
     refine pure_ (i := 4) (N := some 39) (v := ?_) (a' := ?_) #[true, true, false, false, true, false, false, false, false, false, false, false, false, false, false] rfl rfl (any_of HT_.out (by kernel_rfl)) (fun _ _ _ h => h) (Or.inl ⟨by rfl, ?_⟩) ?_ ?_
     rotate_left
     ·intro w'
      go_simp
      with_reducible rfl
     rotate_left
     ·simp only [Act.put, List.setIfInBounds_toArray, List.set_cons_zero, List.set_cons_succ, i64_w, i32_w]
      rfl
     refine pure_ (i := 5) (N := some 40) (v := ?_) (a' := ?_) #[true, true, false, false, true, true, false, false, false, false, false, false, false, false, false] rfl rfl (any_of HT_.out (by kernel_rfl)) (fun _ _ _ h => h) (Or.inl ⟨by rfl, ?_⟩) ?_ ?_
     rotate_left
     ·intro w'
      go_simp
      with_reducible rfl
     rotate_left
     ·simp only [Act.put, List.setIfInBounds_toArray, List.set_cons_zero, List.set_cons_succ, i64_w, i32_w]
      rfl
     refine take_ (i := 2) (N := some 37) (v := ?_) (a' := ?_) #[true, true, true, false, true, true, false, false, false, false, false, false, false, false, false] rfl rfl (take_ofW HT_.out HW_.out (by kernel_rfl)) (fun _ _ _ h => h) (Or.inl ⟨by rfl, ?_⟩) hHeld ?_ ?_
     rotate_left
     ·rintro w' ⟨s0, s1, s2, s3⟩
      go_simp
      with_reducible rfl
     rotate_left
     ·simp only [Act.put, List.setIfInBounds_toArray, List.set_cons_zero, List.set_cons_succ, i64_w, i32_w]
      rfl
     refine take_ (i := 6) (N := some 41) (v := ?_) (a' := ?_) #[true, true, true, false, true, true, true, false, false, false, false, false, false, false, false] rfl rfl (take_ofW HT_.out HW_.out (by kernel_rfl)) (fun _ _ _ h => h) (Or.inl ⟨by rfl, ?_⟩) hHeld ?_ ?_
     rotate_left
     ·rintro w' ⟨s0, s1, s2, s3⟩
      go_simp
      with_reducible rfl
     rotate_left
     ·simp only [Act.put, List.setIfInBounds_toArray, List.set_cons_zero, List.set_cons_succ, i64_w, i32_w]
      rfl
     refine one_ (i := 3) (N := some 38) #[true, true, true, true, true, true, true, false, false, false, false, false, false, false, false] rfl rfl (one_of HT_.out (by kernel_rfl)) (by decide) (fun K hK => ?_)
     refine goes_ Tryd.func56 (by kernel_rfl) rfl #[.agg #[.int .i64 x, .bool s]] (by rfl) rfl rfl (by (try simp only [List.map_toArray, List.map_cons, List.map_nil]); first | done | rfl | (simp only [List.length_drop, List.length_take]; rfl)) ?_
     with_reducible refine (impl_Tone_height.calls x s h1 _ (GOk.below HG.out HB.out) A2.out).mono ?_
     rintro e w16 ⟨rfl, hb⟩
     refine ⟨_, rfl, ?_⟩
     have n1_ := Aside0.mk (below_step HB.out hb)
     have n4_ := Aside0.mk (blk_below BX.out hb)
     clear HB BX hb
     have HB := n1_
     have BX := n4_
     clear n1_ n4_
     refine hK.out _ _ ⟨(blk_cell BX.out 0).trans rfl, (blk_cell BX.out 1).trans rfl, cell_keep Z1.out HB.out, cell_keep Z2.out HB.out⟩ (fun hHeld => ?_)
     clear hK K
     refine norm_ (a' := ?_) ?_ ?_
     rotate_left
     ·show Act.put _ (some 38) _ = _
      simp only [Act.put, List.setIfInBounds_toArray, List.set_cons_zero, List.set_cons_succ, i64_w, i32_w]
      rfl
     refine one_ (i := 7) (N := some 42) #[true, true, true, true, true, true, true, true, false, false, false, false, false, false, false] rfl rfl (one_of HT_.out (by kernel_rfl)) (by decide) (fun K hK => ?_)
     refine goes_ Tryd.func56 (by kernel_rfl) rfl #[.agg #[.int .i64 ((rd_T25 l0 0).f0), .bool ((rd_T25 l0 0).f1)]] (by rfl) rfl rfl (by (try simp only [List.map_toArray, List.map_cons, List.map_nil]); first | done | rfl | (simp only [List.length_drop, List.length_take]; rfl)) ?_
     with_reducible refine (impl_Tone_height.calls (rd_T25 l0 0).f0 (rd_T25 l0 0).f1 h2 _ (GOk.below HG.out HB.out) A3.out).mono ?_
     rintro e w17 ⟨rfl, hb⟩
     refine ⟨_, rfl, ?_⟩
     have n1_ := Aside0.mk (below_step HB.out hb)
     have n4_ := Aside0.mk (blk_below BX.out hb)
     clear HB BX hb
     have HB := n1_
     have BX := n4_
     clear n1_ n4_
     refine hK.out _ _ ⟨(blk_cell BX.out 0).trans rfl, (blk_cell BX.out 1).trans rfl, cell_keep Z1.out HB.out, cell_keep Z2.out HB.out⟩ (fun hHeld => ?_)
     clear hK K
     refine norm_ (a' := ?_) ?_ ?_
     rotate_left
     ·show Act.put _ (some 42) _ = _
      simp only [Act.put, List.setIfInBounds_toArray, List.set_cons_zero, List.set_cons_succ, i64_w, i32_w]
      rfl
     refine pure_ (i := 8) (N := some 43) (v := ?_) (a' := ?_) #[true, true, true, true, true, true, true, true, true, false, false, false, false, false, false] rfl rfl (any_of HT_.out (by kernel_rfl)) (fun _ _ _ h => h) (Or.inl ⟨by rfl, ?_⟩) ?_ ?_
     rotate_left
     ·intro w'
      go_simp
      with_reducible rfl
     rotate_left
     ·simp only [Act.put, List.setIfInBounds_toArray, List.set_cons_zero, List.set_cons_succ, i64_w, i32_w]
      rfl
     refine one_ (i := 9) (N := some 44) #[true, true, true, true, true, true, true, true, true, true, false, false, false, false, false] rfl rfl (one_of HT_.out (by kernel_rfl)) (by decide) (fun K hK => ?_)
     refine goes_ Tryd.func55 (by kernel_rfl) rfl #[.slice (some ad) l0.length c0, .int .i64 a1, .int .i64 (wrap64 (h1 - h2))] (by rfl) rfl rfl (by (try simp only [List.map_toArray, List.map_cons, List.map_nil]); first | done | rfl | (simp only [List.length_drop, List.length_take]; rfl)) ?_
     with_reducible refine (impl_movedMelody.calls k (some ad) c0 l0 a1 (wrap64 (h1 - h2)) q1 true _ (Kd.C_below HR0.out HB.out) HC0.out (GOk.below HG.out HB.out) A4.out).mono ?_
     rintro e w18 ⟨vq, rfl, hq, hb⟩
     refine ⟨_, rfl, ?_⟩
     have HQ := Aside0.mk (Kd.R_lower hq (below_size HB.out))
     clear hq
     have n1_ := Aside0.mk (below_step HB.out hb)
     have n4_ := Aside0.mk (blk_below BX.out hb)
     clear HB BX hb
     have HB := n1_
     have BX := n4_
     clear n1_ n4_
     refine hK.out _ _ ⟨(blk_cell BX.out 0).trans rfl, (blk_cell BX.out 1).trans rfl, cell_keep Z1.out HB.out, cell_keep Z2.out HB.out⟩ (fun hHeld => ?_)
     clear hK K
     refine norm_ (a' := ?_) ?_ ?_
     rotate_left
     ·show Act.put _ (some 44) _ = _
      simp only [Act.put, List.setIfInBounds_toArray, List.set_cons_zero, List.set_cons_succ, i64_w, i32_w]
      rfl
     refine pure_ (i := 10) (N := some 34) (v := ?_) (a' := ?_) #[true, true, true, true, true, true, true, true, true, true, true, false, false, false, false] rfl rfl (any_of HT_.out (by kernel_rfl)) (fun _ _ _ h => h) (Or.inl ⟨by rfl, ?_⟩) ?_ ?_
     rotate_left
     ·intro w'
      go_simp
      with_reducible rfl
     rotate_left
     ·simp only [Act.put, List.setIfInBounds_toArray, List.set_cons_zero, List.set_cons_succ, i64_w, i32_w]
      rfl
     refine pure_ (i := 11) (N := some 45) (v := ?_) (a' := ?_) #[true, true, true, true, true, true, true, true, true, true, true, true, false, false, false] rfl rfl (any_of HT_.out (by kernel_rfl)) (fun _ _ _ h => h) (Or.inl ⟨by rfl, ?_⟩) ?_ ?_
     rotate_left
     ·intro w'
      go_simp
      with_reducible rfl
     rotate_left
     ·simp only [Act.put, List.setIfInBounds_toArray, List.set_cons_zero, List.set_cons_succ, i64_w, i32_w]
      rfl
     refine pure_ (i := 12) (N := some 46) (v := ?_) (a' := ?_) #[true, true, true, true, true, true, true, true, true, true, true, true, true, false, false] rfl rfl (any_of HT_.out (by kernel_rfl)) (fun _ _ _ h => h) (Or.inl ⟨by rfl, ?_⟩) ?_ ?_
     rotate_left
     ·intro w'
      go_simp
      with_reducible rfl
     rotate_left
     ·simp only [Act.put, List.setIfInBounds_toArray, List.set_cons_zero, List.set_cons_succ, i64_w, i32_w]
      rfl
     refine pure_ (i := 13) (N := some 10) (v := ?_) (a' := ?_) #[true, true, true, true, true, true, true, true, true, true, true, true, true, true, false] rfl rfl (any_of HT_.out (by kernel_rfl)) (fun _ _ _ h => h) (Or.inl ⟨by rfl, ?_⟩) ?_ ?_
     rotate_left
     ·intro w'
      go_simp
      with_reducible rfl
     rotate_left
     ·simp only [Act.put, List.setIfInBounds_toArray, List.set_cons_zero, List.set_cons_succ, i64_w, i32_w]
      rfl
     refine pure_ (i := 14) (N := some 11) (v := ?_) (a' := ?_) #[true, true, true, true, true, true, true, true, true, true, true, true, true, true, true] rfl rfl (any_of HT_.out (by kernel_rfl)) (fun _ _ _ h => h) (Or.inl ⟨by rfl, ?_⟩) ?_ ?_
     rotate_left
     ·intro w'
      go_simp
      with_reducible rfl
     rotate_left
     ·simp only [Act.put, List.setIfInBounds_toArray, List.set_cons_zero, List.set_cons_succ, i64_w, i32_w]
      rfl
     refine done_ (done_of HT_.out (by kernel_rfl)) ?_
     try go_wp2
     go_ret2
     exact ⟨_, rfl, HQ.out, HB.out⟩
   ·
    unfold mvIn mvTry at E
    obtain ⟨r, A10, E⟩ := Option.bind_eq_some_iff.mp E
    obtain ⟨x, s, ok⟩ := r
    have A1 := Aside0.mk A10
    clear A10
    simp only at E
    have z1 := cell_keep Z1.out HB.out
    have z2 := cell_keep Z2.out HB.out
    by_cases c3 : ok = true
    rotate_left
    ·replace c3 := Bool.eq_false_iff.mpr c3
     subst c3
     rw [if_neg (show ¬ (false = true) by decide)] at E
     have H3 : Aside0 (mvIn k l0 a1 2 = some (r1, r2)) := ⟨E⟩
     clear E
     go_wp2_with (first | (go_at_call 20; ((with_reducible refine (impl_ToneAbove.calls k (rd_T25 l0 0).f0 (rd_T25 l0 0).f1 a1 true x s false _ A1.out).mono ?_); rintro e w11 ⟨rfl, hb⟩; have n1_ := Aside0.mk (below_step HB.out hb); clear HB hb z1 z2; have HB := n1_; clear n1_)) | ((with_reducible refine gate_dst (N := 8) rfl ?_); refine box_event ?hg (N := 8) ?hd (cs := #[.int .i64 0, .bool false]) (t := 25) ?hr ?_; (case hd => rfl); (case hg => rfl); (case hr => first | (go_simp; done) | (go_simp; rfl)); intro gb hg w13 hbox hb; have BX := Aside0.mk hbox; have BB := Aside0.mk hb; have GB := Aside0.mk hg; clear hbox hb hg; have hcz_0 : w13.cell? ⟨gb, 0, none⟩ = some (.int .i64 0) := (blk_cell BX.out 0).trans rfl; have hcz_1 : w13.cell? ⟨gb, 1, none⟩ = some (.bool false) := (blk_cell BX.out 1).trans rfl; have hfz_0 := blk_frozen BX.out 0; have hfz_1 := blk_frozen BX.out 1))
     have BA : Aside0 (Below w11.heap.size w11 ((w13.setCell ⟨gb, 0, none⟩ (.int .i64 x)).setCell ⟨gb, 1, none⟩ (.bool s))) := ⟨below_set (below_set BB.out (Nat.le_of_eq GB.out.symm)) (Nat.le_of_eq GB.out.symm)⟩
     have n1_ := Aside0.mk (below_step HB.out BA.out)
     clear HB
     have HB := n1_
     clear n1_
     go_roundg k2
     case measure => omega
     case rel => exact ⟨2, by first | rfl | (simp; done), by omega, H3, HB⟩
    subst c3
    rw [if_pos rfl] at E
    obtain ⟨h1, A20, E⟩ := Option.bind_eq_some_iff.mp E
    obtain ⟨h2, A30, E⟩ := Option.bind_eq_some_iff.mp E
    obtain ⟨qq, A40, E⟩ := Option.bind_eq_some_iff.mp E
    obtain ⟨q1, q2⟩ := qq
    simp only at E
    have A2 := Aside0.mk A20
    have A3 := Aside0.mk A30
    have A4 := Aside0.mk A40
    clear A20 A30 A40
    cases q2
    ·rw [if_neg (show ¬ (false = true) by decide)] at E
     have H3 : Aside0 (mvIn k l0 a1 2 = some (r1, r2)) := ⟨E⟩
     clear E
     go_wp2_with (first | (go_at_call 20; ((with_reducible refine (impl_ToneAbove.calls k (rd_T25 l0 0).f0 (rd_T25 l0 0).f1 a1 true x s true _ A1.out).mono ?_); rintro e w11 ⟨rfl, hb⟩; have n1_ := Aside0.mk (below_step HB.out hb); clear HB hb z1 z2; have HB := n1_; clear n1_)) | ((with_reducible refine gate_dst (N := 8) rfl ?_); refine box_event ?hg (N := 8) ?hd (cs := #[.int .i64 0, .bool false]) (t := 25) ?hr ?_; (case hd => rfl); (case hg => rfl); (case hr => first | (go_simp; done) | (go_simp; rfl)); intro gb hg w13 hbox hb; have BX := Aside0.mk hbox; have BB := Aside0.mk hb; have GB := Aside0.mk hg; clear hbox hb hg; have hcz_0 : w13.cell? ⟨gb, 0, none⟩ = some (.int .i64 0) := (blk_cell BX.out 0).trans rfl; have hcz_1 : w13.cell? ⟨gb, 1, none⟩ = some (.bool false) := (blk_cell BX.out 1).trans rfl; have hfz_0 := blk_frozen BX.out 0; have hfz_1 := blk_frozen BX.out 1))
     have BA : Aside0 (Below w11.heap.size w11 ((w13.setCell ⟨gb, 0, none⟩ (.int .i64 x)).setCell ⟨gb, 1, none⟩ (.bool s))) := ⟨below_set (below_set BB.out (Nat.le_of_eq GB.out.symm)) (Nat.le_of_eq GB.out.symm)⟩
     have n1_ := Aside0.mk (below_step HB.out BA.out)
     have n4_ : Aside0 (((w13.setCell ⟨gb, 0, none⟩ (.int .i64 x)).setCell ⟨gb, 1, none⟩ (.bool s)).heap[gb]? = some (.cells #[.int .i64 x, .bool s] 25 (0, 0))) := ⟨by refine blk_put (cs := #[.int .i64 x, .bool false]) ?_ 1 _ rfl; refine blk_put (cs := #[.int .i64 0, .bool false]) ?_ 0 _ rfl; exact BX.out⟩
     clear HB BX BB BA hcz_0 hcz_1 hfz_0 hfz_1
     generalize ((w13.setCell ⟨gb, 0, none⟩ (.int .i64 x)).setCell ⟨gb, 1, none⟩ (.bool s)) = w14 at n1_ n4_ ⊢
     have HB := n1_
     have BX := n4_
     clear n1_ n4_
     have n1_ := Aside0.mk (below_drew1 HB.out)
     have n4_ := Aside0.mk (blk_drew BX.out)
     clear HB BX
     have HB := n1_
     have BX := n4_
     clear n1_ n4_
     refine start_ (n := 15) (S := fun w' => w'.cell? ⟨gb, 0, none⟩ = some (.int .i64 x) ∧ w'.cell? ⟨gb, 1, none⟩ = some (.bool s) ∧ w'.cell? ad = some (.int .i64 (rd_T25 l0 0).f0) ∧ w'.cell? ⟨ad.block, ad.off + 1, none⟩ = some (.bool (rd_T25 l0 0).f1)) (ds := []) #[false, false, false, false, false, false, false, false, false, false, false, false, false, false, false] (by kernel_rfl) rfl rfl ⟨(blk_cell BX.out 0).trans rfl, (blk_cell BX.out 1).trans rfl, cell_keep Z1.out HB.out, cell_keep Z2.out HB.out⟩ (fun hHeld => ?_)
     refine with_tabW impl_MelodyMove.tab10 impl_MelodyMove.bits10 (fun HT_ HW_ => ?_)
     generalize w14.drew = w15 at HB BX hHeld ⊢
     refine pure_ (i := 0) (N := some 35) (v := ?_) (a' := ?_) #[true, false, false, false, false, false, false, false, false, false, false, false, false, false, false] rfl rfl (any_of HT_.out (by kernel_rfl)) (fun _ _ _ h => h) (Or.inl ⟨by rfl, ?_⟩) ?_ ?_
     rotate_left
     ·intro w'
      go_simp
      with_reducible rfl
     rotate_left
     ·simp only [Act.put, List.setIfInBounds_toArray, List.set_cons_zero, List.set_cons_succ, i64_w, i32_w]
      rfl
     refine pure_ (i := 1) (N := some 36) (v := ?_) (a' := ?_) #[true, true, false, false, false, false, false, false, false, false, false, false, false, false, false] rfl rfl (any_of HT_.out (by kernel_rfl)) (fun _ _ _ h => h) (Or.inl ⟨by rfl, ?_⟩) ?_ ?_
     rotate_left
     ·intro w'
      go_simp
      with_reducible rfl
     rotate_left
     ·simp only [Act.put, List.setIfInBounds_toArray, List.set_cons_zero, List.set_cons_succ, i64_w, i32_w]
      rfl
     refine pure_ (i := 4) (N := some 39) (v := ?_) (a' := ?_) #[true, true, false, false, true, false, false, false, false, false, false, false, false, false, false] rfl rfl (any_of HT_.out (by kernel_rfl)) (fun _ _ _ h => h) (Or.inl ⟨by rfl, ?_⟩) ?_ ?_
     rotate_left
     ·intro w'
      go_simp
      with_reducible rfl
     rotate_left
     ·simp only [Act.put, List.setIfInBounds_toArray, List.set_cons_zero, List.set_cons_succ, i64_w, i32_w]
      rfl
     refine pure_ (i := 5) (N := some 40) (v := ?_) (a' := ?_) #[true, true, false, false, true, true, false, false, false, false, false, false, false, false, false] rfl rfl (any_of HT_.out (by kernel_rfl)) (fun _ _ _ h => h) (Or.inl ⟨by rfl, ?_⟩) ?_ ?_
     rotate_left
     ·intro w'
      go_simp
      with_reducible rfl
     rotate_left
     ·simp only [Act.put, List.setIfInBounds_toArray, List.set_cons_zero, List.set_cons_succ, i64_w, i32_w]
      rfl
     refine take_ (i := 2) (N := some 37) (v := ?_) (a' := ?_) #[true, true, true, false, true, true, false, false, false, false, false, false, false, false, false] rfl rfl (take_ofW HT_.out HW_.out (by kernel_rfl)) (fun _ _ _ h => h) (Or.inl ⟨by rfl, ?_⟩) hHeld ?_ ?_
     rotate_left
     ·rintro w' ⟨s0, s1, s2, s3⟩
      go_simp
      with_reducible rfl
     rotate_left
     ·simp only [Act.put, List.setIfInBounds_toArray, List.set_cons_zero, List.set_cons_succ, i64_w, i32_w]
      rfl
     refine take_ (i := 6) (N := some 41) (v := ?_) (a' := ?_) #[true, true, true, false, true, true, true, false, false, false, false, false, false, false, false] rfl rfl (take_ofW HT_.out HW_.out (by kernel_rfl)) (fun _ _ _ h => h) (Or.inl ⟨by rfl, ?_⟩) hHeld ?_ ?_
     rotate_left
     ·rintro w' ⟨s0, s1, s2, s3⟩
      go_simp
      with_reducible rfl
     rotate_left
     ·simp only [Act.put, List.setIfInBounds_toArray, List.set_cons_zero, List.set_cons_succ, i64_w, i32_w]
      rfl
     refine one_ (i := 3) (N := some 38) #[true, true, true, true, true, true, true, false, false, false, false, false, false, false, false] rfl rfl (one_of HT_.out (by kernel_rfl)) (by decide) (fun K hK => ?_)
     refine goes_ Tryd.func56 (by kernel_rfl) rfl #[.agg #[.int .i64 x, .bool s]] (by rfl) rfl rfl (by (try simp only [List.map_toArray, List.map_cons, List.map_nil]); first | done | rfl | (simp only [List.length_drop, List.length_take]; rfl)) ?_
     with_reducible refine (impl_Tone_height.calls x s h1 _ (GOk.below HG.out HB.out) A2.out).mono ?_
     rintro e w16 ⟨rfl, hb⟩
     refine ⟨_, rfl, ?_⟩
     have n1_ := Aside0.mk (below_step HB.out hb)
     have n4_ := Aside0.mk (blk_below BX.out hb)
     clear HB BX hb
     have HB := n1_
     have BX := n4_
     clear n1_ n4_
     refine hK.out _ _ ⟨(blk_cell BX.out 0).trans rfl, (blk_cell BX.out 1).trans rfl, cell_keep Z1.out HB.out, cell_keep Z2.out HB.out⟩ (fun hHeld => ?_)
     clear hK K
     refine norm_ (a' := ?_) ?_ ?_
     rotate_left
     ·show Act.put _ (some 38) _ = _
      simp only [Act.put, List.setIfInBounds_toArray, List.set_cons_zero, List.set_cons_succ, i64_w, i32_w]
      rfl
     refine one_ (i := 7) (N := some 42) #[true, true, true, true, true, true, true, true, false, false, false, false, false, false, false] rfl rfl (one_of HT_.out (by kernel_rfl)) (by decide) (fun K hK => ?_)
     refine goes_ Tryd.func56 (by kernel_rfl) rfl #[.agg #[.int .i64 ((rd_T25 l0 0).f0), .bool ((rd_T25 l0 0).f1)]] (by rfl) rfl rfl (by (try simp only [List.map_toArray, List.map_cons, List.map_nil]); first | done | rfl | (simp only [List.length_drop, List.length_take]; rfl)) ?_
     with_reducible refine (impl_Tone_height.calls (rd_T25 l0 0).f0 (rd_T25 l0 0).f1 h2 _ (GOk.below HG.out HB.out) A3.out).mono ?_
     rintro e w17 ⟨rfl, hb⟩
     refine ⟨_, rfl, ?_⟩
     have n1_ := Aside0.mk (below_step HB.out hb)
     have n4_ := Aside0.mk (blk_below BX.out hb)
     clear HB BX hb
     have HB := n1_
     have BX := n4_
     clear n1_ n4_
     refine hK.out _ _ ⟨(blk_cell BX.out 0).trans rfl, (blk_cell BX.out 1).trans rfl, cell_keep Z1.out HB.out, cell_keep Z2.out HB.out⟩ (fun hHeld => ?_)
     clear hK K
     refine norm_ (a' := ?_) ?_ ?_
     rotate_left
     ·show Act.put _ (some 42) _ = _
      simp only [Act.put, List.setIfInBounds_toArray, List.set_cons_zero, List.set_cons_succ, i64_w, i32_w]
      rfl
     refine pure_ (i := 8) (N := some 43) (v := ?_) (a' := ?_) #[true, true, true, true, true, true, true, true, true, false, false, false, false, false, false] rfl rfl (any_of HT_.out (by kernel_rfl)) (fun _ _ _ h => h) (Or.inl ⟨by rfl, ?_⟩) ?_ ?_
     rotate_left
     ·intro w'
      go_simp
      with_reducible rfl
     rotate_left
     ·simp only [Act.put, List.setIfInBounds_toArray, List.set_cons_zero, List.set_cons_succ, i64_w, i32_w]
      rfl
     refine one_ (i := 9) (N := some 44) #[true, true, true, true, true, true, true, true, true, true, false, false, false, false, false] rfl rfl (one_of HT_.out (by kernel_rfl)) (by decide) (fun K hK => ?_)
     refine goes_ Tryd.func55 (by kernel_rfl) rfl #[.slice (some ad) l0.length c0, .int .i64 a1, .int .i64 (wrap64 (h1 - h2))] (by rfl) rfl rfl (by (try simp only [List.map_toArray, List.map_cons, List.map_nil]); first | done | rfl | (simp only [List.length_drop, List.length_take]; rfl)) ?_
     with_reducible refine (impl_movedMelody.calls k (some ad) c0 l0 a1 (wrap64 (h1 - h2)) q1 false _ (Kd.C_below HR0.out HB.out) HC0.out (GOk.below HG.out HB.out) A4.out).mono ?_
     rintro e w18 ⟨vq, rfl, hq, hb⟩
     refine ⟨_, rfl, ?_⟩
     have HQ := Aside0.mk (Kd.R_lower hq (below_size HB.out))
     clear hq
     have n1_ := Aside0.mk (below_step HB.out hb)
     have n4_ := Aside0.mk (blk_below BX.out hb)
     clear HB BX hb
     have HB := n1_
     have BX := n4_
     clear n1_ n4_
     refine hK.out _ _ ⟨(blk_cell BX.out 0).trans rfl, (blk_cell BX.out 1).trans rfl, cell_keep Z1.out HB.out, cell_keep Z2.out HB.out⟩ (fun hHeld => ?_)
     clear hK K
     refine norm_ (a' := ?_) ?_ ?_
     rotate_left
     ·show Act.put _ (some 44) _ = _
      simp only [Act.put, List.setIfInBounds_toArray, List.set_cons_zero, List.set_cons_succ, i64_w, i32_w]
      rfl
     refine pure_ (i := 10) (N := some 34) (v := ?_) (a' := ?_) #[true, true, true, true, true, true, true, true, true, true, true, false, false, false, false] rfl rfl (any_of HT_.out (by kernel_rfl)) (fun _ _ _ h => h) (Or.inl ⟨by rfl, ?_⟩) ?_ ?_
     rotate_left
     ·intro w'
      go_simp
      with_reducible rfl
     rotate_left
     ·simp only [Act.put, List.setIfInBounds_toArray, List.set_cons_zero, List.set_cons_succ, i64_w, i32_w]
      rfl
     refine pure_ (i := 11) (N := some 45) (v := ?_) (a' := ?_) #[true, true, true, true, true, true, true, true, true, true, true, true, false, false, false] rfl rfl (any_of HT_.out (by kernel_rfl)) (fun _ _ _ h => h) (Or.inl ⟨by rfl, ?_⟩) ?_ ?_
     rotate_left
     ·intro w'
      go_simp
      with_reducible rfl
     rotate_left
     ·simp only [Act.put, List.setIfInBounds_toArray, List.set_cons_zero, List.set_cons_succ, i64_w, i32_w]
      rfl
     refine pure_ (i := 12) (N := some 46) (v := ?_) (a' := ?_) #[true, true, true, true, true, true, true, true, true, true, true, true, true, false, false] rfl rfl (any_of HT_.out (by kernel_rfl)) (fun _ _ _ h => h) (Or.inl ⟨by rfl, ?_⟩) ?_ ?_
     rotate_left
     ·intro w'
      go_simp
      with_reducible rfl
     rotate_left
     ·simp only [Act.put, List.setIfInBounds_toArray, List.set_cons_zero, List.set_cons_succ, i64_w, i32_w]
      rfl
     refine pure_ (i := 13) (N := some 10) (v := ?_) (a' := ?_) #[true, true, true, true, true, true, true, true, true, true, true, true, true, true, false] rfl rfl (any_of HT_.out (by kernel_rfl)) (fun _ _ _ h => h) (Or.inl ⟨by rfl, ?_⟩) ?_ ?_
     rotate_left
     ·intro w'
      go_simp
      with_reducible rfl
     rotate_left
     ·simp only [Act.put, List.setIfInBounds_toArray, List.set_cons_zero, List.set_cons_succ, i64_w, i32_w]
      rfl
     refine pure_ (i := 14) (N := some 11) (v := ?_) (a' := ?_) #[true, true, true, true, true, true, true, true, true, true, true, true, true, true, true] rfl rfl (any_of HT_.out (by kernel_rfl)) (fun _ _ _ h => h) (Or.inl ⟨by rfl, ?_⟩) ?_ ?_
     rotate_left
     ·intro w'
      go_simp
      with_reducible rfl
     rotate_left
     ·simp only [Act.put, List.setIfInBounds_toArray, List.set_cons_zero, List.set_cons_succ, i64_w, i32_w]
      rfl
     refine done_ (done_of HT_.out (by kernel_rfl)) ?_
     clear HQ
     try go_wp2
     go_roundg k2
     case measure => omega
     case rel => exact ⟨2, by first | rfl | (simp; done), by omega, H3, HB⟩
    ·rw [if_pos rfl] at E
     simp only [Option.some.injEq, Prod.mk.injEq] at E
     obtain ⟨rfl, rfl⟩ := E
     go_wp2_with (first | (go_at_call 20; ((with_reducible refine (impl_ToneAbove.calls k (rd_T25 l0 0).f0 (rd_T25 l0 0).f1 a1 true x s true _ A1.out).mono ?_); rintro e w11 ⟨rfl, hb⟩; have n1_ := Aside0.mk (below_step HB.out hb); clear HB hb z1 z2; have HB := n1_; clear n1_)) | ((with_reducible refine gate_dst (N := 8) rfl ?_); refine box_event ?hg (N := 8) ?hd (cs := #[.int .i64 0, .bool false]) (t := 25) ?hr ?_; (case hd => rfl); (case hg => rfl); (case hr => first | (go_simp; done) | (go_simp; rfl)); intro gb hg w13 hbox hb; have BX := Aside0.mk hbox; have BB := Aside0.mk hb; have GB := Aside0.mk hg; clear hbox hb hg; have hcz_0 : w13.cell? ⟨gb, 0, none⟩ = some (.int .i64 0) := (blk_cell BX.out 0).trans rfl; have hcz_1 : w13.cell? ⟨gb, 1, none⟩ = some (.bool false) := (blk_cell BX.out 1).trans rfl; have hfz_0 := blk_frozen BX.out 0; have hfz_1 := blk_frozen BX.out 1))
     have BA : Aside0 (Below w11.heap.size w11 ((w13.setCell ⟨gb, 0, none⟩ (.int .i64 x)).setCell ⟨gb, 1, none⟩ (.bool s))) := ⟨below_set (below_set BB.out (Nat.le_of_eq GB.out.symm)) (Nat.le_of_eq GB.out.symm)⟩
     have n1_ := Aside0.mk (below_step HB.out BA.out)
     have n4_ : Aside0 (((w13.setCell ⟨gb, 0, none⟩ (.int .i64 x)).setCell ⟨gb, 1, none⟩ (.bool s)).heap[gb]? = some (.cells #[.int .i64 x, .bool s] 25 (0, 0))) := ⟨by refine blk_put (cs := #[.int .i64 x, .bool false]) ?_ 1 _ rfl; refine blk_put (cs := #[.int .i64 0, .bool false]) ?_ 0 _ rfl; exact BX.out⟩
     clear HB BX BB BA hcz_0 hcz_1 hfz_0 hfz_1
     generalize ((w13.setCell ⟨gb, 0, none⟩ (.int .i64 x)).setCell ⟨gb, 1, none⟩ (.bool s)) = w14 at n1_ n4_ ⊢
     have HB := n1_
     have BX := n4_
     clear n1_ n4_
     have n1_ := Aside0.mk (below_drew1 HB.out)
     have n4_ := Aside0.mk (blk_drew BX.out)
     clear HB BX
     have HB := n1_
     have BX := n4_
     clear n1_ n4_
     refine start_ (n := 15) (S := fun w' => w'.cell? ⟨gb, 0, none⟩ = some (.int .i64 x) ∧ w'.cell? ⟨gb, 1, none⟩ = some (.bool s) ∧ w'.cell? ad = some (.int .i64 (rd_T25 l0 0).f0) ∧ w'.cell? ⟨ad.block, ad.off + 1, none⟩ = some (.bool (rd_T25 l0 0).f1)) (ds := []) #[false, false, false, false, false, false, false, false, false, false, false, false, false, false, false] (by kernel_rfl) rfl rfl ⟨(blk_cell BX.out 0).trans rfl, (blk_cell BX.out 1).trans rfl, cell_keep Z1.out HB.out, cell_keep Z2.out HB.out⟩ (fun hHeld => ?_)
     refine with_tabW impl_MelodyMove.tab10 impl_MelodyMove.bits10 (fun HT_ HW_ => ?_)
     generalize w14.drew = w15 at HB BX hHeld ⊢
     refine pure_ (i := 0) (N := some 35) (v := ?_) (a' := ?_) #[true, false, false, false, false, false, false, false, false, false, false, false, false, false, false] rfl rfl (any_of HT_.out (by kernel_rfl)) (fun _ _ _ h => h) (Or.inl ⟨by rfl, ?_⟩) ?_ ?_
     rotate_left
     ·intro w'
      go_simp
      with_reducible rfl
     rotate_left
     ·simp only [Act.put, List.setIfInBounds_toArray, List.set_cons_zero, List.set_cons_succ, i64_w, i32_w]
      rfl
     refine pure_ (i := 1) (N := some 36) (v := ?_) (a' := ?_) #[true, true, false, false, false, false, false, false, false, false, false, false, false, false, false] rfl rfl (any_of HT_.out (by kernel_rfl)) (fun _ _ _ h => h) (Or.inl ⟨by rfl, ?_⟩) ?_ ?_
     rotate_left
     ·intro w'
      go_simp
      with_reducible rfl
     rotate_left
     ·simp only [Act.put, List.setIfInBounds_toArray, List.set_cons_zero, List.set_cons_succ, i64_w, i32_w]
      rfl
     refine pure_ (i := 4) (N := some 39) (v := ?_) (a' := ?_) #[true, true, false, false, true, false, false, false, false, false, false, false, false, false, false] rfl rfl (any_of HT_.out (by kernel_rfl)) (fun _ _ _ h => h) (Or.inl ⟨by rfl, ?_⟩) ?_ ?_
     rotate_left
     ·intro w'
      go_simp
      with_reducible rfl
     rotate_left
     ·simp only [Act.put, List.setIfInBounds_toArray, List.set_cons_zero, List.set_cons_succ, i64_w, i32_w]
      rfl
     refine pure_ (i := 5) (N := some 40) (v := ?_) (a' := ?_) #[true, true, false, false, true, true, false, false, false, false, false, false, false, false, false] rfl rfl (any_of HT_.out (by kernel_rfl)) (fun _ _ _ h => h) (Or.inl ⟨by rfl, ?_⟩) ?_ ?_
     rotate_left
     ·intro w'
      go_simp
      with_reducible rfl
     rotate_left
     ·simp only [Act.put, List.setIfInBounds_toArray, List.set_cons_zero, List.set_cons_succ, i64_w, i32_w]
      rfl
     refine take_ (i := 2) (N := some 37) (v := ?_) (a' := ?_) #[true, true, true, false, true, true, false, false, false, false, false, false, false, false, false] rfl rfl (take_ofW HT_.out HW_.out (by kernel_rfl)) (fun _ _ _ h => h) (Or.inl ⟨by rfl, ?_⟩) hHeld ?_ ?_
     rotate_left
     ·rintro w' ⟨s0, s1, s2, s3⟩
      go_simp
      with_reducible rfl
     rotate_left
     ·simp only [Act.put, List.setIfInBounds_toArray, List.set_cons_zero, List.set_cons_succ, i64_w, i32_w]
      rfl
     refine take_ (i := 6) (N := some 41) (v := ?_) (a' := ?_) #[true, true, true, false, true, true, true, false, false, false, false, false, false, false, false] rfl rfl (take_ofW HT_.out HW_.out (by kernel_rfl)) (fun _ _ _ h => h) (Or.inl ⟨by rfl, ?_⟩) hHeld ?_ ?_
     rotate_left
     ·rintro w' ⟨s0, s1, s2, s3⟩
      go_simp
      with_reducible rfl
     rotate_left
     ·simp only [Act.put, List.setIfInBounds_toArray, List.set_cons_zero, List.set_cons_succ, i64_w, i32_w]
      rfl
     refine one_ (i := 3) (N := some 38) #[true, true, true, true, true, true, true, false, false, false, false, false, false, false, false] rfl rfl (one_of HT_.out (by kernel_rfl)) (by decide) (fun K hK => ?_)
     refine goes_ Tryd.func56 (by kernel_rfl) rfl #[.agg #[.int .i64 x, .bool s]] (by rfl) rfl rfl (by (try simp only [List.map_toArray, List.map_cons, List.map_nil]); first | done | rfl | (simp only [List.length_drop, List.length_take]; rfl)) ?_
     with_reducible refine (impl_Tone_height.calls x s h1 _ (GOk.below HG.out HB.out) A2.out).mono ?_
     rintro e w16 ⟨rfl, hb⟩
     refine ⟨_, rfl, ?_⟩
     have n1_ := Aside0.mk (below_step HB.out hb)
     have n4_ := Aside0.mk (blk_below BX.out hb)
     clear HB BX hb
     have HB := n1_
     have BX := n4_
     clear n1_ n4_
     refine hK.out _ _ ⟨(blk_cell BX.out 0).trans rfl, (blk_cell BX.out 1).trans rfl, cell_keep Z1.out HB.out, cell_keep Z2.out HB.out⟩ (fun hHeld => ?_)
     clear hK K
     refine norm_ (a' := ?_) ?_ ?_
     rotate_left
     ·show Act.put _ (some 38) _ = _
      simp only [Act.put, List.setIfInBounds_toArray, List.set_cons_zero, List.set_cons_succ, i64_w, i32_w]
      rfl
     refine one_ (i := 7) (N := some 42) #[true, true, true, true, true, true, true, true, false, false, false, false, false, false, false] rfl rfl (one_of HT_.out (by kernel_rfl)) (by decide) (fun K hK => ?_)
     refine goes_ Tryd.func56 (by kernel_rfl) rfl #[.agg #[.int .i64 ((rd_T25 l0 0).f0), .bool ((rd_T25 l0 0).f1)]] (by rfl) rfl rfl (by (try simp only [List.map_toArray, List.map_cons, List.map_nil]); first | done | rfl | (simp only [List.length_drop, List.length_take]; rfl)) ?_
     with_reducible refine (impl_Tone_height.calls (rd_T25 l0 0).f0 (rd_T25 l0 0).f1 h2 _ (GOk.below HG.out HB.out) A3.out).mono ?_
     rintro e w17 ⟨rfl, hb⟩
     refine ⟨_, rfl, ?_⟩
     have n1_ := Aside0.mk (below_step HB.out hb)
     have n4_ := Aside0.mk (blk_below BX.out hb)
     clear HB BX hb
     have HB := n1_
     have BX := n4_
     clear n1_ n4_
     refine hK.out _ _ ⟨(blk_cell BX.out 0).trans rfl, (blk_cell BX.out 1).trans rfl, cell_keep Z1.out HB.out, cell_keep Z2.out HB.out⟩ (fun hHeld => ?_)
     clear hK K
     refine norm_ (a' := ?_) ?_ ?_
     rotate_left
     ·show Act.put _ (some 42) _ = _
      simp only [Act.put, List.setIfInBounds_toArray, List.set_cons_zero, List.set_cons_succ, i64_w, i32_w]
      rfl
     refine pure_ (i := 8) (N := some 43) (v := ?_) (a' := ?_) #[true, true, true, true, true, true, true, true, true, false, false, false, false, false, false] rfl rfl (any_of HT_.out (by kernel_rfl)) (fun _ _ _ h => h) (Or.inl ⟨by rfl, ?_⟩) ?_ ?_
     rotate_left
     ·intro w'
      go_simp
      with_reducible rfl
     rotate_left
     ·simp only [Act.put, List.setIfInBounds_toArray, List.set_cons_zero, List.set_cons_succ, i64_w, i32_w]
      rfl
     refine one_ (i := 9) (N := some 44) #[true, true, true, true, true, true, true, true, true, true, false, false, false, false, false] rfl rfl (one_of HT_.out (by kernel_rfl)) (by decide) (fun K hK => ?_)
     refine goes_ Tryd.func55 (by kernel_rfl) rfl #[.slice (some ad) l0.length c0, .int .i64 a1, .int .i64 (wrap64 (h1 - h2))] (by rfl) rfl rfl (by (try simp only [List.map_toArray, List.map_cons, List.map_nil]); first | done | rfl | (simp only [List.length_drop, List.length_take]; rfl)) ?_
     with_reducible refine (impl_movedMelody.calls k (some ad) c0 l0 a1 (wrap64 (h1 - h2)) q1 true _ (Kd.C_below HR0.out HB.out) HC0.out (GOk.below HG.out HB.out) A4.out).mono ?_
     rintro e w18 ⟨vq, rfl, hq, hb⟩
     refine ⟨_, rfl, ?_⟩
     have HQ := Aside0.mk (Kd.R_lower hq (below_size HB.out))
     clear hq
     have n1_ := Aside0.mk (below_step HB.out hb)
     have n4_ := Aside0.mk (blk_below BX.out hb)
     clear HB BX hb
     have HB := n1_
     have BX := n4_
     clear n1_ n4_
     refine hK.out _ _ ⟨(blk_cell BX.out 0).trans rfl, (blk_cell BX.out 1).trans rfl, cell_keep Z1.out HB.out, cell_keep Z2.out HB.out⟩ (fun hHeld => ?_)
     clear hK K
     refine norm_ (a' := ?_) ?_ ?_
     rotate_left
     ·show Act.put _ (some 44) _ = _
      simp only [Act.put, List.setIfInBounds_toArray, List.set_cons_zero, List.set_cons_succ, i64_w, i32_w]
      rfl
     refine pure_ (i := 10) (N := some 34) (v := ?_) (a' := ?_) #[true, true, true, true, true, true, true, true, true, true, true, false, false, false, false] rfl rfl (any_of HT_.out (by kernel_rfl)) (fun _ _ _ h => h) (Or.inl ⟨by rfl, ?_⟩) ?_ ?_
     rotate_left
     ·intro w'
      go_simp
      with_reducible rfl
     rotate_left
     ·simp only [Act.put, List.setIfInBounds_toArray, List.set_cons_zero, List.set_cons_succ, i64_w, i32_w]
      rfl
     refine pure_ (i := 11) (N := some 45) (v := ?_) (a' := ?_) #[true, true, true, true, true, true, true, true, true, true, true, true, false, false, false] rfl rfl (any_of HT_.out (by kernel_rfl)) (fun _ _ _ h => h) (Or.inl ⟨by rfl, ?_⟩) ?_ ?_
     rotate_left
     ·intro w'
      go_simp
      with_reducible rfl
     rotate_left
     ·simp only [Act.put, List.setIfInBounds_toArray, List.set_cons_zero, List.set_cons_succ, i64_w, i32_w]
      rfl
     refine pure_ (i := 12) (N := some 46) (v := ?_) (a' := ?_) #[true, true, true, true, true, true, true, true, true, true, true, true, true, false, false] rfl rfl (any_of HT_.out (by kernel_rfl)) (fun _ _ _ h => h) (Or.inl ⟨by rfl, ?_⟩) ?_ ?_
     rotate_left
     ·intro w'
      go_simp
      with_reducible rfl
     rotate_left
     ·simp only [Act.put, List.setIfInBounds_toArray, List.set_cons_zero, List.set_cons_succ, i64_w, i32_w]
      rfl
     refine pure_ (i := 13) (N := some 10) (v := ?_) (a' := ?_) #[true, true, true, true, true, true, true, true, true, true, true, true, true, true, false] rfl rfl (any_of HT_.out (by kernel_rfl)) (fun _ _ _ h => h) (Or.inl ⟨by rfl, ?_⟩) ?_ ?_
     rotate_left
     ·intro w'
      go_simp
      with_reducible rfl
     rotate_left
     ·simp only [Act.put, List.setIfInBounds_toArray, List.set_cons_zero, List.set_cons_succ, i64_w, i32_w]
      rfl
     refine pure_ (i := 14) (N := some 11) (v := ?_) (a' := ?_) #[true, true, true, true, true, true, true, true, true, true, true, true, true, true, true] rfl rfl (any_of HT_.out (by kernel_rfl)) (fun _ _ _ h => h) (Or.inl ⟨by rfl, ?_⟩) ?_ ?_
     rotate_left
     ·intro w'
      go_simp
      with_reducible rfl
     rotate_left
     ·simp only [Act.put, List.setIfInBounds_toArray, List.set_cons_zero, List.set_cons_succ, i64_w, i32_w]
      rfl
     refine done_ (done_of HT_.out (by kernel_rfl)) ?_
     try go_wp2
     go_ret2
     exact ⟨_, rfl, HQ.out, HB.out⟩
end Go.Proofs.YtlinjleahnccgaaDoor.E
end
section
namespace Go.Proofs.YtlinjleahnccgaaDoor.E
open Go.RowKit Go.Proofs.YtlinjleahnccgaaDoorW.PrintWords Go.Proofs.YtlinjleahnccgaaDoorW.PrintLast Go.Proofs.YtlinjleahnccgaaDoorW.PrintMore
attribute [local go_sem] max2_int min2_int max_two min_two max_three min_three max_four min_four
set_option linter.unusedVariables false
set_option linter.unusedSimpArgs false
attribute [local go_sem] str_leq_ str_gtr_ str_geq_
def spec_l6In.f (a0 : Int) (a1 : Int) (a2 : Int) : Option (Bool) := if a0 ≥ a1 then (some (decide (a0 ≤ a2))) else (some false)
set_option maxHeartbeats 8000000 in
set_option maxRecDepth 100000 in
theorem spec_l6In.calls (a0 : Int) (a1 : Int) (a2 : Int) (r : Bool) (w : World) (h : spec_l6In.f a0 a1 a2 = some r) :
  Calls Tryd.prog 57 #[.int .i64 a0, .int .i64 a1, .int .i64 a2] w fun e w' => e = .returned (.bool r) ∧ Drawn0 w w' := by
 have H : (if a0 ≥ a1 then (some (decide (a0 ≤ a2))) else (some false)) = some r := h
 clear h
 by_cases c4 : a0 ≥ a1
 ·rw [if_pos c4] at H
  have c4b0 : decide (a1 ≤ a0) = true := decide_eq_true c4
  clear c4
  obtain rfl := Option.some.inj H
  go_enter Tryd.func57, Tryd.ntmps57
  go_wp2
  go_ret
  exact ⟨by first | rfl | (simp; done) | (simp [*]; done), by repeat (first | exact Drawn0.refl _ | apply Drawn0.step)⟩
 rw [if_neg c4] at H
 have c4b0 : decide (a1 ≤ a0) = false := decide_eq_false c4
 clear c4
 obtain rfl := Option.some.inj H
 go_enter Tryd.func57, Tryd.ntmps57
 go_wp2
 go_ret
 exact ⟨by first | rfl | (simp; done) | (simp [*]; done), by repeat (first | exact Drawn0.refl _ | apply Drawn0.step)⟩
end Go.Proofs.YtlinjleahnccgaaDoor.E
end
section
namespace Go.Proofs.YtlinjleahnccgaaDoor.E
open Go.RowKit Go.Proofs.YtlinjleahnccgaaDoorW.PrintWords Go.Proofs.YtlinjleahnccgaaDoorW.PrintLast Go.Proofs.YtlinjleahnccgaaDoorW.PrintMore
attribute [local go_sem] max2_int min2_int max_two min_two max_three min_three max_four min_four
set_option linter.unusedVariables false
set_option linter.unusedSimpArgs false
attribute [local go_sem] str_leq_ str_gtr_ str_geq_
def spec_ToneValid.f (a0_0 : Int) (a0_1 : Bool) : Option (Bool) := (spec_l6In.f a0_0 0 20).bind fun t102 => (if t102 = true then (if a0_1 = true then ((spec_l1Letter.f a0_0).bind fun t103 => (some (t103 == 2))) else (some true)) else (some false))
set_option maxHeartbeats 8000000 in
set_option maxRecDepth 100000 in
theorem spec_ToneValid.calls (a0_0 : Int) (a0_1 : Bool) (r : Bool) (w : World) (h : spec_ToneValid.f a0_0 a0_1 = some r) :
  Calls Tryd.prog 37 #[.agg #[.int .i64 a0_0, .bool a0_1]] w fun e w' => e = .returned (.bool r) ∧ Below w.heap.size w w' := by
 have hu25 := Tryd.underlying25
 have HB := Aside0.mk (Below.refl w.heap.size w)
 have H : ((spec_l6In.f a0_0 0 20).bind fun t102 => (if t102 = true then (if a0_1 = true then ((spec_l1Letter.f a0_0).bind fun t103 => (some (t103 == 2))) else (some true)) else (some false))) = some r := h
 clear h
 replace H := Option.bind_eq_some_iff.mp H
 obtain ⟨t102, A20, H⟩ := H
 replace H : (if t102 = true then (if a0_1 = true then ((spec_l1Letter.f a0_0).bind fun t103 => (some (t103 == 2))) else (some true)) else (some false)) = some r := H
 have A2 := Aside0.mk A20
 clear A20
 by_cases c3 : t102 = true
 rotate_left
 ·replace c3 := Bool.eq_false_iff.mpr c3
  subst c3
  have H1 : (some false) = some r := by rw [if_neg (show ¬ (false = true) by decide)] at H; exact H
  clear H
  have H := H1
  clear H1
  obtain rfl := Option.some.inj H
  go_enter Tryd.func37, Tryd.ntmps37
  go_wp2_with (first | ((with_reducible refine gate_dst (N := 1) rfl ?_); refine box_event ?hg (N := 1) ?hd (cs := #[.int .i64 a0_0, .bool a0_1]) (t := 25) ?hr ?_; (case hd => rfl); (case hg => rfl); (case hr => first | (go_simp; done) | (go_simp; rfl)); intro gb101 hg w10 hbox hb; have n0_ := Aside0.mk (below_step (by repeat (first | (with_reducible first | exact HB.out | apply below_alloc | apply pw_below_drewN | apply below_drew1) | exact HB.out)) hb); have n1_ := Aside0.mk (hbox); have n2_ := Aside0.mk ((by rw [hg]; exact (below_size (by repeat (first | (with_reducible first | exact HB.out | apply below_alloc | apply pw_below_drewN | apply below_drew1) | exact HB.out))) : w.heap.size ≤ gb101)); have n3_ := Aside0.mk ((by rw [hg]; exact (below_size (by repeat (first | (with_reducible first | exact HB.out | apply below_alloc | apply pw_below_drewN | apply below_drew1) | exact HB.out))) : w.heap.size ≤ gb101)); clear HB; have HB := n0_; have BK101 := n1_; have GW101 := n2_; have GE101 := n3_; clear n0_ n1_ n2_ n3_; clear hb hbox hg; have hcz11_0 : w10.cell? ⟨gb101, 0, none⟩ = some (.int .i64 a0_0) := (blk_cell BK101.out 0).trans rfl; have hcz11_1 : w10.cell? ⟨gb101, 1, none⟩ = some (.bool a0_1) := (blk_cell BK101.out 1).trans rfl; have hfz11_0 := blk_frozen BK101.out 0; have hfz11_1 := blk_frozen BK101.out 1) | ((with_reducible refine gate_callee (f := 57) rfl ?_); refine goesL_ (some 5) rfl rfl Tryd.func57 (by kernel_rfl) rfl #[.int .i64 a0_0, .int .i64 0, .int .i64 20] rfl (by (try simp only [List.map_toArray, List.map_cons, List.map_nil]); first | done | rfl | (simp only [List.length_drop, List.length_take]; rfl)) ?_; (with_reducible refine (spec_l6In.calls a0_0 0 20 false _ A2.out).mono ?_); rintro e w' ⟨rfl, ⟨nd, rfl⟩⟩; refine ⟨_, rfl, ?_⟩))
  go_ret
  exact ⟨by first | rfl | (simp [errW_none, errW_some] <;> rfl) | (simp [*, errW_none, errW_some] <;> rfl), by repeat (first | (with_reducible first | exact HB.out | apply below_alloc | apply pw_below_drewN | apply below_drew1 | refine below_set ?_ GE101.out) | exact HB.out)⟩
 subst c3
 have H1 : (if a0_1 = true then ((spec_l1Letter.f a0_0).bind fun t103 => (some (t103 == 2))) else (some true)) = some r := by rw [if_pos rfl] at H; exact H
 clear H
 have H := H1
 clear H1
 by_cases c4 : a0_1 = true
 rotate_left
 ·replace c4 := Bool.eq_false_iff.mpr c4
  subst c4
  have H1 : (some true) = some r := by rw [if_neg (show ¬ (false = true) by decide)] at H; exact H
  clear H
  have H := H1
  clear H1
  obtain rfl := Option.some.inj H
  go_enter Tryd.func37, Tryd.ntmps37
  go_wp2_with (first | ((with_reducible refine gate_dst (N := 1) rfl ?_); refine box_event ?hg (N := 1) ?hd (cs := #[.int .i64 a0_0, .bool false]) (t := 25) ?hr ?_; (case hd => rfl); (case hg => rfl); (case hr => first | (go_simp; done) | (go_simp; rfl)); intro gb101 hg w8 hbox hb; have n0_ := Aside0.mk (below_step (by repeat (first | (with_reducible first | exact HB.out | apply below_alloc | apply pw_below_drewN | apply below_drew1) | exact HB.out)) hb); have n1_ := Aside0.mk (hbox); have n2_ := Aside0.mk ((by rw [hg]; exact (below_size (by repeat (first | (with_reducible first | exact HB.out | apply below_alloc | apply pw_below_drewN | apply below_drew1) | exact HB.out))) : w.heap.size ≤ gb101)); have n3_ := Aside0.mk ((by rw [hg]; exact (below_size (by repeat (first | (with_reducible first | exact HB.out | apply below_alloc | apply pw_below_drewN | apply below_drew1) | exact HB.out))) : w.heap.size ≤ gb101)); clear HB; have HB := n0_; have BK101 := n1_; have GW101 := n2_; have GE101 := n3_; clear n0_ n1_ n2_ n3_; clear hb hbox hg; have hcz9_0 : w8.cell? ⟨gb101, 0, none⟩ = some (.int .i64 a0_0) := (blk_cell BK101.out 0).trans rfl; have hcz9_1 : w8.cell? ⟨gb101, 1, none⟩ = some (.bool false) := (blk_cell BK101.out 1).trans rfl; have hfz9_0 := blk_frozen BK101.out 0; have hfz9_1 := blk_frozen BK101.out 1) | ((with_reducible refine gate_callee (f := 57) rfl ?_); refine goesL_ (some 5) rfl rfl Tryd.func57 (by kernel_rfl) rfl #[.int .i64 a0_0, .int .i64 0, .int .i64 20] rfl (by (try simp only [List.map_toArray, List.map_cons, List.map_nil]); first | done | rfl | (simp only [List.length_drop, List.length_take]; rfl)) ?_; (with_reducible refine (spec_l6In.calls a0_0 0 20 true _ A2.out).mono ?_); rintro e w' ⟨rfl, ⟨nd, rfl⟩⟩; refine ⟨_, rfl, ?_⟩))
  go_ret
  exact ⟨by first | rfl | (simp [errW_none, errW_some] <;> rfl) | (simp [*, errW_none, errW_some] <;> rfl), by repeat (first | (with_reducible first | exact HB.out | apply below_alloc | apply pw_below_drewN | apply below_drew1 | refine below_set ?_ GE101.out) | exact HB.out)⟩
 subst c4
 have H1 : ((spec_l1Letter.f a0_0).bind fun t103 => (some (t103 == 2))) = some r := by rw [if_pos rfl] at H; exact H
 clear H
 have H := H1
 clear H1
 replace H := Option.bind_eq_some_iff.mp H
 obtain ⟨t103, A50, H⟩ := H
 replace H : (some (t103 == 2)) = some r := H
 have A5 := Aside0.mk A50
 clear A50
 obtain rfl := Option.some.inj H
 go_enter Tryd.func37, Tryd.ntmps37
 go_wp2_with (first | ((with_reducible refine gate_dst (N := 1) rfl ?_); refine box_event ?hg (N := 1) ?hd (cs := #[.int .i64 a0_0, .bool true]) (t := 25) ?hr ?_; (case hd => rfl); (case hg => rfl); (case hr => first | (go_simp; done) | (go_simp; rfl)); intro gb101 hg w6 hbox hb; have n0_ := Aside0.mk (below_step (by repeat (first | (with_reducible first | exact HB.out | apply below_alloc | apply pw_below_drewN | apply below_drew1) | exact HB.out)) hb); have n1_ := Aside0.mk (hbox); have n2_ := Aside0.mk ((by rw [hg]; exact (below_size (by repeat (first | (with_reducible first | exact HB.out | apply below_alloc | apply pw_below_drewN | apply below_drew1) | exact HB.out))) : w.heap.size ≤ gb101)); have n3_ := Aside0.mk ((by rw [hg]; exact (below_size (by repeat (first | (with_reducible first | exact HB.out | apply below_alloc | apply pw_below_drewN | apply below_drew1) | exact HB.out))) : w.heap.size ≤ gb101)); clear HB; have HB := n0_; have BK101 := n1_; have GW101 := n2_; have GE101 := n3_; clear n0_ n1_ n2_ n3_; clear hb hbox hg; have hcz7_0 : w6.cell? ⟨gb101, 0, none⟩ = some (.int .i64 a0_0) := (blk_cell BK101.out 0).trans rfl; have hcz7_1 : w6.cell? ⟨gb101, 1, none⟩ = some (.bool true) := (blk_cell BK101.out 1).trans rfl; have hfz7_0 := blk_frozen BK101.out 0; have hfz7_1 := blk_frozen BK101.out 1) | ((with_reducible refine gate_callee (f := 57) rfl ?_); refine goesL_ (some 5) rfl rfl Tryd.func57 (by kernel_rfl) rfl #[.int .i64 a0_0, .int .i64 0, .int .i64 20] rfl (by (try simp only [List.map_toArray, List.map_cons, List.map_nil]); first | done | rfl | (simp only [List.length_drop, List.length_take]; rfl)) ?_; (with_reducible refine (spec_l6In.calls a0_0 0 20 true _ A2.out).mono ?_); rintro e w' ⟨rfl, ⟨nd, rfl⟩⟩; refine ⟨_, rfl, ?_⟩) | (go_at_call 38; (with_reducible refine (spec_l1Letter.calls a0_0 t103 _ A5.out).mono ?_); rintro e w' ⟨rfl, ⟨nd, rfl⟩⟩))
 go_ret
 exact ⟨by first | rfl | (simp [errW_none, errW_some] <;> rfl) | (simp [*, errW_none, errW_some] <;> rfl), by repeat (first | (with_reducible first | exact HB.out | apply below_alloc | apply pw_below_drewN | apply below_drew1 | refine below_set ?_ GE101.out) | exact HB.out)⟩
end Go.Proofs.YtlinjleahnccgaaDoor.E
end
section
namespace Go.Proofs.YtlinjleahnccgaaDoor.E
open Go.RowKit Go.Proofs.YtlinjleahnccgaaDoorW.PrintWords Go.Proofs.YtlinjleahnccgaaDoorW.PrintLast Go.Proofs.YtlinjleahnccgaaDoorW.PrintMore
attribute [local go_sem] max2_int min2_int max_two min_two max_three min_three max_four min_four
set_option linter.unusedVariables false
set_option linter.unusedSimpArgs false
attribute [local go_sem] str_leq_ str_gtr_ str_geq_
def spec_MelodyValid.l0 : Nat → List (S25) → Int → Option (Bool)
 | 0, _, _ => none
 | k + 1, x0, x3 => if x3 < (x0.length : Int) then (if 0 ≤ x3 then ((spec_ToneValid.f ((rd_T25 x0 x3).f0) ((rd_T25 x0 x3).f1)).bind fun t268 => (if t268 = true then (spec_MelodyValid.l0 k x0 (wrap64 (x3 + 1))) else (some false))) else (none)) else (some (decide ((x0.length : Int) ≤ 24)))
def spec_MelodyValid.f (k : Nat) (l0 : List (S25)) : Option (Bool) := spec_MelodyValid.l0 k l0 0
set_option maxHeartbeats 8000000 in
set_option maxRecDepth 100000 in
theorem spec_MelodyValid.calls (k : Nat) (A0 : Option Addr) (c0 : Nat) (l0 : List (S25)) (r : Bool) (w : World) (hr0 : Kd.C k25 w A0 l0.length l0) (hc0 : l0.length ≤ c0) (h : spec_MelodyValid.f k l0 = some r) :
  Calls Tryd.prog 48 #[.slice A0 l0.length c0] w fun e w' => e = .returned (.bool r) ∧ Below w.heap.size w w' := by
 have hu25 := Tryd.underlying25
 have HR0 := Aside0.mk hr0
 have HC0 := Aside0.mk hc0
 clear hr0 hc0
 have HB := Aside0.mk (Below.refl w.heap.size w)
 have H : (spec_MelodyValid.l0 k l0 0) = some r := h
 clear h
 have H' := Aside0.mk H
 clear H
 go_enter Tryd.func48, Tryd.ntmps48
 go_wp2
 go_loopg [3] k (fun kq v3 w' => ∃ (x3_1 : Int), v3 = .int .i64 x3_1 ∧ Aside0 (spec_MelodyValid.l0 kq l0 x3_1 = some r) ∧ Aside0 (kq ≤ k) ∧ Aside0 (Below w.heap.size w w'))
 case atStart => exact ⟨(0), (by first | rfl | (simp; done) | (simp [*]; done)), H', ⟨Nat.le_refl _⟩, ⟨by repeat (first | (with_reducible first | exact HB.out | apply below_alloc | apply pw_below_drewN | apply below_drew1) | exact HB.out)⟩⟩
 case round =>
  clear H'
  obtain ⟨x3_1, rfl, HA, HK1, HB⟩ := hrel
  cases gk with
  | zero => exact absurd HA.out (by simp [spec_MelodyValid.l0])
  | succ k1 =>
   have H := HA.out
   clear HA
   simp only [spec_MelodyValid.l0] at H
   by_cases c2 : x3_1 < (l0.length : Int)
   rotate_left
   ·rw [if_neg c2] at H
    have c2b0 : decide (x3_1 < (l0.length : Int)) = false := decide_eq_false c2
    clear c2
    obtain rfl := Option.some.inj H
    go_wp2
    go_ret
    exact ⟨by first | rfl | (simp [errW_none, errW_some] <;> rfl) | (simp [*, errW_none, errW_some] <;> rfl), by repeat (first | (with_reducible first | exact HB.out | apply below_alloc | apply pw_below_drewN | apply below_drew1) | exact HB.out)⟩
   rw [if_pos c2] at H
   have c2b0 : decide (x3_1 < (l0.length : Int)) = true := decide_eq_true c2
   clear c2
   by_cases c3 : 0 ≤ x3_1
   rotate_left
   ·rw [if_neg c3] at H
    exact absurd H (by simp)
   rw [if_pos c3] at H
   have c3b0 : decide (0 ≤ x3_1) = true := decide_eq_true c3
   clear c3
   replace H := Option.bind_eq_some_iff.mp H
   obtain ⟨t268, A40, H⟩ := H
   replace H : (if t268 = true then (spec_MelodyValid.l0 k1 l0 (wrap64 (x3_1 + 1))) else (some false)) = some r := H
   have A4 := Aside0.mk A40
   clear A40
   by_cases c5 : t268 = true
   rotate_left
   ·replace c5 := Bool.eq_false_iff.mpr c5
    subst c5
    have H1 : (some false) = some r := by rw [if_neg (show ¬ (false = true) by decide)] at H; exact H
    clear H
    have H := H1
    clear H1
    obtain rfl := Option.some.inj H
    have p267 : 0 ≤ (x3_1 : Int) := of_decide_eq_true (by first | (with_reducible assumption) | assumption)
    have q267 : x3_1 < (l0.length : Int) := of_decide_eq_true (by first | (with_reducible assumption) | assumption)
    obtain ⟨ad267, e267, hx267_0, hx267_1⟩ := at_T25 HR0.out x3_1 p267 q267
    cases e267
    replace hx267_0 := (HB.out.cell (World.block_lt_of_cell? w _ hx267_0)).trans hx267_0
    replace hx267_1 := (HB.out.cell (World.block_lt_of_cell? w _ hx267_1)).trans hx267_1
    replace p267 := eq_true p267
    replace q267 := eq_true q267
    go_wp2_with (first | ((with_reducible refine gate_callee (f := 37) rfl ?_); refine goesL_ (some 14) rfl rfl Tryd.func37 (by kernel_rfl) rfl #[.agg #[.int .i64 ((rd_T25 l0 x3_1).f0), .bool ((rd_T25 l0 x3_1).f1)]] rfl (by (try simp only [List.map_toArray, List.map_cons, List.map_nil]); first | done | rfl | (simp only [List.length_drop, List.length_take]; rfl)) ?_; (with_reducible refine (spec_ToneValid.calls ((rd_T25 l0 x3_1).f0) ((rd_T25 l0 x3_1).f1) false _ A4.out).mono ?_); rintro e w7 ⟨rfl, hb⟩; refine ⟨_, rfl, ?_⟩; have n0_ := Aside0.mk (below_step (by repeat (first | (with_reducible first | exact HB.out | apply below_alloc | apply pw_below_drewN | apply below_drew1) | exact HB.out)) hb); clear HB; have HB := n0_; clear n0_; (try clear hb); (try clear hb2); (try clear hk); (try clear hi)))
    go_ret
    exact ⟨by first | rfl | (simp [errW_none, errW_some] <;> rfl) | (simp [*, errW_none, errW_some] <;> rfl), by repeat (first | (with_reducible first | exact HB.out | apply below_alloc | apply pw_below_drewN | apply below_drew1) | exact HB.out)⟩
   subst c5
   have H1 : (spec_MelodyValid.l0 k1 l0 (wrap64 (x3_1 + 1))) = some r := by rw [if_pos rfl] at H; exact H
   clear H
   have H := H1
   clear H1
   have H' := Aside0.mk H
   clear H
   have p267 : 0 ≤ (x3_1 : Int) := of_decide_eq_true (by first | (with_reducible assumption) | assumption)
   have q267 : x3_1 < (l0.length : Int) := of_decide_eq_true (by first | (with_reducible assumption) | assumption)
   obtain ⟨ad267, e267, hx267_0, hx267_1⟩ := at_T25 HR0.out x3_1 p267 q267
   cases e267
   replace hx267_0 := (HB.out.cell (World.block_lt_of_cell? w _ hx267_0)).trans hx267_0
   replace hx267_1 := (HB.out.cell (World.block_lt_of_cell? w _ hx267_1)).trans hx267_1
   replace p267 := eq_true p267
   replace q267 := eq_true q267
   go_wp2_with (first | ((with_reducible refine gate_callee (f := 37) rfl ?_); refine goesL_ (some 14) rfl rfl Tryd.func37 (by kernel_rfl) rfl #[.agg #[.int .i64 ((rd_T25 l0 x3_1).f0), .bool ((rd_T25 l0 x3_1).f1)]] rfl (by (try simp only [List.map_toArray, List.map_cons, List.map_nil]); first | done | rfl | (simp only [List.length_drop, List.length_take]; rfl)) ?_; (with_reducible refine (spec_ToneValid.calls ((rd_T25 l0 x3_1).f0) ((rd_T25 l0 x3_1).f1) true _ A4.out).mono ?_); rintro e w6 ⟨rfl, hb⟩; refine ⟨_, rfl, ?_⟩; have n0_ := Aside0.mk (below_step (by repeat (first | (with_reducible first | exact HB.out | apply below_alloc | apply pw_below_drewN | apply below_drew1) | exact HB.out)) hb); clear HB; have HB := n0_; clear n0_; (try clear hb); (try clear hb2); (try clear hk); (try clear hi)))
   go_roundg k1
   case measure => have := HK1.out; omega
   case rel => exact ⟨(wrap64 (x3_1 + 1)), (by first | rfl | (simp; done) | (simp [*]; done)), H', ⟨by have := HK1.out; omega⟩, ⟨by repeat (first | (with_reducible first | exact HB.out | apply below_alloc | apply pw_below_drewN | apply below_drew1) | exact HB.out)⟩⟩
end Go.Proofs.YtlinjleahnccgaaDoor.E
end
