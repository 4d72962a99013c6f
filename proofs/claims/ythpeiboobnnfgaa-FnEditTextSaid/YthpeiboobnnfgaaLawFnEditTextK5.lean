/- Proved: for all arguments the given program's laws.FnEditText returns true, and its arguments read afterwards as they read before (the given constant Rows.FnEditTextSaid).
Conditions: none ahead of the given statement. -/
import Derived.Test.YthpeiboobnnfgaaLawFnEditTextK4
section
namespace Go.Proofs.Ythpeiboobnnfgaa.E
open Go.RowKit Go.Proofs.YthpeiboobnnfgaaW.PrintWords Go.Proofs.YthpeiboobnnfgaaW.PrintLast Go.Proofs.YthpeiboobnnfgaaW.PrintMore
attribute [local go_sem] max2_int min2_int max_two min_two max_three min_three max_four min_four
set_option linter.unusedVariables false
set_option linter.unusedSimpArgs false
attribute [local go_sem] en63_mk1 en63_mk2 en63_mk3 en63_mk4
attribute [local go_sem] str_leq_ str_gtr_ str_geq_
mutual
def laws_FnEditText.j0 : Nat → List (S36) → List (S36) → ByteArray → Bool → ByteArray → Bool → Bool → Option (Bool)
 | 0, _, _, _, _, _, _, _ => none
 | k + 1, x3, x4, x5, x6, x7, x8, x43 => if x43 = true then (if (x6 == x8) = true then (some (x5.toList == x7.toList)) else (some false)) else (laws_FnEditText.l0 k x3 x4 x5 0 0 0)
def laws_FnEditText.l0 : Nat → List (S36) → List (S36) → ByteArray → Int → Int → Int → Option (Bool)
 | 0, _, _, _, _, _, _ => none
 | k + 1, x3, x4, x5, x9, x10, x11 => if x11 < (x5.size : Int) then (if 0 ≤ x11 then (if (bt x5 x11) = 105 then (if (bt x5 x11) = 111 then (laws_FnEditText.l0 k x3 x4 x5 x9 x10 (wrap64 (x11 + 1))) else (laws_FnEditText.l0 k x3 x4 x5 x9 (wrap64 (x10 + 1)) (wrap64 (x11 + 1)))) else (if (bt x5 x11) = 111 then (laws_FnEditText.l0 k x3 x4 x5 (wrap64 (x9 + 1)) x10 (wrap64 (x11 + 1))) else (laws_FnEditText.l0 k x3 x4 x5 (wrap64 (x9 + 1)) (wrap64 (x10 + 1)) (wrap64 (x11 + 1))))) else (none)) else ((impl_EditSum.f k x3 x4 x5).bind fun t515 => ((impl_EditCost.f k x3 x4).bind fun t516 => (if t515 = t516 then ((impl_EditOk.f k x3 x4 x5).bind fun t517 => (if t517 = true then (if x9 = (x3.length : Int) then (some (x10 == (x4.length : Int))) else (some false)) else (some false))) else (some false))))
end
def laws_FnEditText.f (k : Nat) (l0 : List Int) : Option (Bool) := if (l0.length : Int) > 1048576 then (some true) else ((spec_DrawEditText.f k l0).bind fun bt505 => ((impl_EditText.f k bt505.1 bt505.2).bind fun bt511 => ((spec_EditText.f k bt505.1 bt505.2).bind fun bt513 => (if (bt511.2 != bt513.2) = true then (laws_FnEditText.j0 k bt505.1 bt505.2 bt511.1 bt511.2 bt513.1 bt513.2 true) else (if bt511.1.toList = bt513.1.toList then (laws_FnEditText.j0 k bt505.1 bt505.2 bt511.1 bt511.2 bt513.1 bt513.2 (!bt511.2)) else (laws_FnEditText.j0 k bt505.1 bt505.2 bt511.1 bt511.2 bt513.1 bt513.2 true))))))
set_option maxHeartbeats 8000000 in
set_option maxRecDepth 100000 in
theorem laws_FnEditText.calls (k : Nat) (A0 : Option Addr) (c0 : Nat) (l0 : List Int) (r : Bool) (w : World) (hr0 : Kd.C (Kd.int .u8) w A0 l0.length l0) (hc0 : l0.length ≤ c0) (h : laws_FnEditText.f k l0 = some r) :
  Calls Try.prog 11 #[.slice A0 l0.length c0] w fun e w' => e = .returned (.bool r) ∧ Below w.heap.size w w' := by
 have HR0 := Aside0.mk hr0
 have HC0 := Aside0.mk hc0
 clear hr0 hc0
 have HB := Aside0.mk (Below.refl w.heap.size w)
 have H : (if (l0.length : Int) > 1048576 then (some true) else ((spec_DrawEditText.f k l0).bind fun bt505 => ((impl_EditText.f k bt505.1 bt505.2).bind fun bt511 => ((spec_EditText.f k bt505.1 bt505.2).bind fun bt513 => (if (bt511.2 != bt513.2) = true then (laws_FnEditText.j0 k bt505.1 bt505.2 bt511.1 bt511.2 bt513.1 bt513.2 true) else (if bt511.1.toList = bt513.1.toList then (laws_FnEditText.j0 k bt505.1 bt505.2 bt511.1 bt511.2 bt513.1 bt513.2 (!bt511.2)) else (laws_FnEditText.j0 k bt505.1 bt505.2 bt511.1 bt511.2 bt513.1 bt513.2 true))))))) = some r := h
 clear h
 by_cases c2 : (l0.length : Int) > 1048576
 ·rw [if_pos c2] at H
  have c2b0 : decide (1048576 < (l0.length : Int)) = true := decide_eq_true c2
  have c2b1 : decide (1048576 < l0.length) = true := decide_eq_true (by omega)
  clear c2
  obtain rfl := Option.some.inj H
  go_enter Try.func11, Try.ntmps11
  go_wp2
  go_ret
  exact ⟨by first | rfl | (simp [errW_none, errW_some] <;> rfl) | (simp [*, errW_none, errW_some] <;> rfl), by repeat (first | (with_reducible first | exact HB.out | apply below_alloc | apply pw_below_drewN | apply below_drew1) | exact HB.out)⟩
 rw [if_neg c2] at H
 have c2b0 : decide (1048576 < (l0.length : Int)) = false := decide_eq_false c2
 have c2b1 : decide (1048576 < l0.length) = false := decide_eq_false (by omega)
 clear c2
 replace H := Option.bind_eq_some_iff.mp H
 obtain ⟨⟨t505, t506⟩, A30, H⟩ := H
 replace H : ((impl_EditText.f k t505 t506).bind fun bt511 => ((spec_EditText.f k t505 t506).bind fun bt513 => (if (bt511.2 != bt513.2) = true then (laws_FnEditText.j0 k t505 t506 bt511.1 bt511.2 bt513.1 bt513.2 true) else (if bt511.1.toList = bt513.1.toList then (laws_FnEditText.j0 k t505 t506 bt511.1 bt511.2 bt513.1 bt513.2 (!bt511.2)) else (laws_FnEditText.j0 k t505 t506 bt511.1 bt511.2 bt513.1 bt513.2 true))))) = some r := H
 have A3 := Aside0.mk A30
 clear A30
 replace H := Option.bind_eq_some_iff.mp H
 obtain ⟨⟨t511, t512⟩, A40, H⟩ := H
 replace H : ((spec_EditText.f k t505 t506).bind fun bt513 => (if (t512 != bt513.2) = true then (laws_FnEditText.j0 k t505 t506 t511 t512 bt513.1 bt513.2 true) else (if t511.toList = bt513.1.toList then (laws_FnEditText.j0 k t505 t506 t511 t512 bt513.1 bt513.2 (!t512)) else (laws_FnEditText.j0 k t505 t506 t511 t512 bt513.1 bt513.2 true)))) = some r := H
 have A4 := Aside0.mk A40
 clear A40
 replace H := Option.bind_eq_some_iff.mp H
 obtain ⟨⟨t513, t514⟩, A50, H⟩ := H
 replace H : (if (t512 != t514) = true then (laws_FnEditText.j0 k t505 t506 t511 t512 t513 t514 true) else (if t511.toList = t513.toList then (laws_FnEditText.j0 k t505 t506 t511 t512 t513 t514 (!t512)) else (laws_FnEditText.j0 k t505 t506 t511 t512 t513 t514 true))) = some r := H
 have A5 := Aside0.mk A50
 clear A50
 have HC6 := Aside0.mk H
 clear H
 go_enter Try.func11, Try.ntmps11
 go_upto_region 6 with (first | ((with_reducible refine gate_callee (f := 30) rfl ?_); refine goesL_ (some 17) rfl rfl Try.func30 (by kernel_rfl) rfl #[.slice A0 l0.length c0] rfl (by (try simp only [List.map_toArray, List.map_cons, List.map_nil]); first | done | rfl | (simp only [List.length_drop, List.length_take]; rfl)) ?_; (with_reducible refine (spec_DrawEditText.calls k _ _ l0 t505 t506 _ ?side1 ?side2 A3.out).mono ?_); (case side1 => repeat (first | exact HR0.out | (with_reducible refine Kd.C_alloc ?_ _) | (with_reducible refine Kd.C_drewN ?_ _) | (with_reducible refine Kd.C_drew ?_))); (case side2 => exact HC0.out); rintro e w7 ⟨v507, v509, rfl, ho0, ho1, hb⟩; refine ⟨_, rfl, ?_⟩; have n0_ := Aside0.mk (Kd.R_lower ho0 (below_size (by repeat (first | (with_reducible first | exact HB.out | apply below_alloc | apply pw_below_drewN | apply below_drew1) | exact HB.out)))); have n1_ := Aside0.mk (Kd.R_lower ho1 (below_size (by repeat (first | (with_reducible first | exact HB.out | apply below_alloc | apply pw_below_drewN | apply below_drew1) | exact HB.out)))); have n2_ := Aside0.mk (below_step (by repeat (first | (with_reducible first | exact HB.out | apply below_alloc | apply pw_below_drewN | apply below_drew1) | exact HB.out)) hb); clear HB; have HO508 := n0_; have HO510 := n1_; have HB := n2_; clear n0_ n1_ n2_; (try clear hb); (try clear hb2); (try clear hk); (try clear hi); (try clear ho0); (try clear ho1); obtain ⟨Ao8, co8, eo8⟩ := Kd.R_slice HO508.out; subst eo8; obtain ⟨Ao9, co9, eo9⟩ := Kd.R_slice HO510.out; subst eo9) | ((with_reducible refine gate_callee (f := 29) rfl ?_); refine goesL_ (some 23) rfl rfl Try.func29 (by kernel_rfl) rfl #[.slice Ao8 t505.length co8, .slice Ao9 t506.length co9] rfl (by (try simp only [List.map_toArray, List.map_cons, List.map_nil]); first | done | rfl | (simp only [List.length_drop, List.length_take]; rfl)) ?_; (with_reducible refine (impl_EditText.calls k _ _ t505 _ _ t506 t511 t512 _ ?side1 ?side2 ?side3 ?side4 A4.out).mono ?_); (case side1 => repeat (first | exact (Kd.R_reads' HO508.out).2.2 | (with_reducible refine Kd.C_alloc ?_ _) | (with_reducible refine Kd.C_drewN ?_ _) | (with_reducible refine Kd.C_drew ?_))); (case side2 => exact (Kd.R_reads' HO508.out).2.1); (case side3 => repeat (first | exact (Kd.R_reads' HO510.out).2.2 | (with_reducible refine Kd.C_alloc ?_ _) | (with_reducible refine Kd.C_drewN ?_ _) | (with_reducible refine Kd.C_drew ?_))); (case side4 => exact (Kd.R_reads' HO510.out).2.1); rintro e w10 ⟨rfl, hb⟩; refine ⟨_, rfl, ?_⟩; have n0_ := Aside0.mk (Kd.R_below (by (with_reducible repeat (first | apply Kd.R_alloc | apply Kd.R_drewN | apply Kd.R_drew)); exact HO508.out) hb); have n1_ := Aside0.mk (Kd.R_below (by (with_reducible repeat (first | apply Kd.R_alloc | apply Kd.R_drewN | apply Kd.R_drew)); exact HO510.out) hb); have n2_ := Aside0.mk (below_step (by repeat (first | (with_reducible first | exact HB.out | apply below_alloc | apply pw_below_drewN | apply below_drew1) | exact HB.out)) hb); clear HO508; clear HO510; clear HB; have HO508 := n0_; have HO510 := n1_; have HB := n2_; clear n0_ n1_ n2_; (try clear hb); (try clear hb2); (try clear hk); (try clear hi)) | ((with_reducible refine gate_callee (f := 28) rfl ?_); refine goesL_ (some 29) rfl rfl Try.func28 (by kernel_rfl) rfl #[.slice Ao8 t505.length co8, .slice Ao9 t506.length co9] rfl (by (try simp only [List.map_toArray, List.map_cons, List.map_nil]); first | done | rfl | (simp only [List.length_drop, List.length_take]; rfl)) ?_; (with_reducible refine (spec_EditText.calls k _ _ t505 _ _ t506 t513 t514 _ ?side1 ?side2 ?side3 ?side4 A5.out).mono ?_); (case side1 => repeat (first | exact (Kd.R_reads' HO508.out).2.2 | (with_reducible refine Kd.C_alloc ?_ _) | (with_reducible refine Kd.C_drewN ?_ _) | (with_reducible refine Kd.C_drew ?_))); (case side2 => exact (Kd.R_reads' HO508.out).2.1); (case side3 => repeat (first | exact (Kd.R_reads' HO510.out).2.2 | (with_reducible refine Kd.C_alloc ?_ _) | (with_reducible refine Kd.C_drewN ?_ _) | (with_reducible refine Kd.C_drew ?_))); (case side4 => exact (Kd.R_reads' HO510.out).2.1); rintro e w11 ⟨rfl, hb⟩; refine ⟨_, rfl, ?_⟩; have n0_ := Aside0.mk (Kd.R_below (by (with_reducible repeat (first | apply Kd.R_alloc | apply Kd.R_drewN | apply Kd.R_drew)); exact HO508.out) hb); have n1_ := Aside0.mk (Kd.R_below (by (with_reducible repeat (first | apply Kd.R_alloc | apply Kd.R_drewN | apply Kd.R_drew)); exact HO510.out) hb); have n2_ := Aside0.mk (below_step (by repeat (first | (with_reducible first | exact HB.out | apply below_alloc | apply pw_below_drewN | apply below_drew1) | exact HB.out)) hb); clear HO508; clear HO510; clear HB; have HO508 := n0_; have HO510 := n1_; have HB := n2_; clear n0_ n1_ n2_; (try clear hb); (try clear hb2); (try clear hk); (try clear hi)))
 (try simp only [Act.put, List.setIfInBounds_toArray, List.set_cons_zero, List.set_cons_succ])
 go_cut [43] (fun v43 wc => ∃ (kq : Nat) (x43_5 : Bool), v43 = .bool x43_5 ∧ Aside0 (laws_FnEditText.j0 kq t505 t506 t511 t512 t513 t514 x43_5 = some r) ∧ Aside0 (kq ≤ k) ∧ Aside0 (Kd.R k36 36 wc w.heap.size (fun k_ => some k_ ≠ ((.slice Ao9 t506.length co9) : Value).ownBlock) (.slice Ao8 t505.length co8) t505) ∧ Aside0 (Kd.R k36 36 wc w.heap.size (fun k_ => some k_ ≠ ((.slice Ao8 t505.length co8) : Value).ownBlock) (.slice Ao9 t506.length co9) t506) ∧ Aside0 (Below w.heap.size w wc))
 case first =>
  have H := HC6.out
  clear HC6
  by_cases c12 : (t512 != t514) = true
  ·rw [if_pos c12] at H
   have c12b0 : (t512 != t514) = true := c12
   (try (have c12b1 : decide (t512 = t514) = false := by simpa using c12))
   (try (have c12b2 : (t512 == t514) = false := by simpa using c12))
   (try (have c12b3 : ¬ (t512 = t514) := by simpa using c12))
   clear c12
   (first | rw [c12b0] | (simp only [i64_w, i32_w]; rw [c12b0]) | skip)
   have H' := Aside0.mk H
   clear H
   go_wp2
   go_meet
   case rel => exact ⟨_, (true), (by first | rfl | (simp; done) | (simp [*]; done)), H', ⟨by first | omega | exact Nat.le_refl _⟩, ⟨by (with_reducible repeat (first | apply Kd.R_alloc | apply Kd.R_drewN | apply Kd.R_drew)); exact HO508.out⟩, ⟨by (with_reducible repeat (first | apply Kd.R_alloc | apply Kd.R_drewN | apply Kd.R_drew)); exact HO510.out⟩, ⟨by repeat (first | (with_reducible first | exact HB.out | apply below_alloc | apply pw_below_drewN | apply below_drew1) | exact HB.out)⟩⟩
  rw [if_neg c12] at H
  have c12b0 : (t512 != t514) = false := by simpa using c12
  (try (have c12b1 : decide (t512 = t514) = true := by simpa using c12))
  (try (have c12b2 : (t512 == t514) = true := by simpa using c12))
  clear c12
  (first | rw [c12b0] | (simp only [i64_w, i32_w]; rw [c12b0]) | skip)
  by_cases c13 : t511.toList = t513.toList
  rotate_left
  ·rw [if_neg c13] at H
   have c13b0 : (t511.toList == t513.toList) = false := beq_eq_false_iff_ne.mpr c13
   have c13b1 : (t511.toList != t513.toList) = true := bne_iff_ne.mpr c13
   have H' := Aside0.mk H
   clear H
   go_wp2
   go_meet
   case rel => exact ⟨_, (true), (by first | rfl | (simp; done) | (simp [*]; done)), H', ⟨by first | omega | exact Nat.le_refl _⟩, ⟨by (with_reducible repeat (first | apply Kd.R_alloc | apply Kd.R_drewN | apply Kd.R_drew)); exact HO508.out⟩, ⟨by (with_reducible repeat (first | apply Kd.R_alloc | apply Kd.R_drewN | apply Kd.R_drew)); exact HO510.out⟩, ⟨by repeat (first | (with_reducible first | exact HB.out | apply below_alloc | apply pw_below_drewN | apply below_drew1) | exact HB.out)⟩⟩
  rw [if_pos c13] at H
  have c13b0 : (t511.toList == t513.toList) = true := beq_iff_eq.mpr c13
  have c13b1 : (t511.toList != t513.toList) = false := bne_eq_false_iff_eq.mpr c13
  clear c13
  have H' := Aside0.mk H
  clear H
  go_wp2
  go_meet
  case rel => exact ⟨_, (!t512), (by first | rfl | (simp; done) | (simp [*]; done)), H', ⟨by first | omega | exact Nat.le_refl _⟩, ⟨by (with_reducible repeat (first | apply Kd.R_alloc | apply Kd.R_drewN | apply Kd.R_drew)); exact HO508.out⟩, ⟨by (with_reducible repeat (first | apply Kd.R_alloc | apply Kd.R_drewN | apply Kd.R_drew)); exact HO510.out⟩, ⟨by repeat (first | (with_reducible first | exact HB.out | apply below_alloc | apply pw_below_drewN | apply below_drew1) | exact HB.out)⟩⟩
 case rest =>
  clear HC6
  try clear c1
  try clear c2
  try clear c2b0
  try clear c2b1
  try clear p2
  try clear c3
  try clear c11
  try clear c12
  try clear c12b0
  try clear c12b1
  try clear c12b2
  try clear c13
  try clear c13b0
  try clear c13b1
  obtain ⟨kq, x43_5, rfl, HA, HJ5, HO_3, HO_4, HB⟩ := hcut
  cases kq with
  | zero => exact absurd HA.out (by simp [laws_FnEditText.j0])
  | succ kj5 =>
   have H := HA.out
   clear HA
   simp only [laws_FnEditText.j0] at H
   by_cases c14 : x43_5 = true
   ·subst c14
    have H1 : (if (t512 == t514) = true then (some (t511.toList == t513.toList)) else (some false)) = some r := by rw [if_pos rfl] at H; exact H
    clear H
    have H := H1
    clear H1
    by_cases c15 : (t512 == t514) = true
    ·rw [if_pos c15] at H
     have c15b0 : (t512 == t514) = true := c15
     (try (have c15b1 : decide (t512 = t514) = true := by simpa using c15))
     (try (have c15b2 : (t512 == t514) = true := by simpa using c15))
     clear c15
     obtain rfl := Option.some.inj H
     go_wp2
     go_ret
     exact ⟨by first | rfl | (simp [errW_none, errW_some] <;> rfl) | (simp [*, errW_none, errW_some] <;> rfl), by repeat (first | (with_reducible first | exact HB.out | apply below_alloc | apply pw_below_drewN | apply below_drew1) | exact HB.out)⟩
    rw [if_neg c15] at H
    have c15b0 : (t512 == t514) = false := by simpa using c15
    (try (have c15b1 : decide (t512 = t514) = false := by simpa using c15))
    (try (have c15b2 : (t512 == t514) = false := by simpa using c15))
    (try (have c15b3 : ¬ (t512 = t514) := by simpa using c15))
    clear c15
    obtain rfl := Option.some.inj H
    go_wp2
    go_ret
    exact ⟨by first | rfl | (simp [errW_none, errW_some] <;> rfl) | (simp [*, errW_none, errW_some] <;> rfl), by repeat (first | (with_reducible first | exact HB.out | apply below_alloc | apply pw_below_drewN | apply below_drew1) | exact HB.out)⟩
   replace c14 := Bool.eq_false_iff.mpr c14
   subst c14
   have H1 : (laws_FnEditText.l0 kj5 t505 t506 t511 0 0 0) = some r := by rw [if_neg (show ¬ (false = true) by decide)] at H; exact H
   clear H
   have H := H1
   clear H1
   have H' := Aside0.mk H
   clear H
   go_wp2
   go_loopg [9, 10, 11] kj5 (fun kq v9 v10 v11 w' => ∃ (x9_2 : Int) (x10_2 : Int) (x11_2 : Int), v9 = .int .i64 x9_2 ∧ v10 = .int .i64 x10_2 ∧ v11 = .int .i64 x11_2 ∧ Aside0 (laws_FnEditText.l0 kq t505 t506 t511 x9_2 x10_2 x11_2 = some r) ∧ Aside0 (kq ≤ kj5) ∧ Aside0 (Kd.R k36 36 w' w.heap.size (fun k_ => some k_ ≠ ((.slice Ao9 t506.length co9) : Value).ownBlock) (.slice Ao8 t505.length co8) t505) ∧ Aside0 (Kd.R k36 36 w' w.heap.size (fun k_ => some k_ ≠ ((.slice Ao8 t505.length co8) : Value).ownBlock) (.slice Ao9 t506.length co9) t506) ∧ Aside0 (Below w.heap.size w w'))
   case atStart => exact ⟨(0), (0), (0), (by first | rfl | (simp; done) | (simp [*]; done)), (by first | rfl | (simp; done) | (simp [*]; done)), (by first | rfl | (simp; done) | (simp [*]; done)), H', ⟨Nat.le_refl _⟩, ⟨by (with_reducible repeat (first | apply Kd.R_alloc | apply Kd.R_drewN | apply Kd.R_drew)); exact HO_3.out⟩, ⟨by (with_reducible repeat (first | apply Kd.R_alloc | apply Kd.R_drewN | apply Kd.R_drew)); exact HO_4.out⟩, ⟨by repeat (first | (with_reducible first | exact HB.out | apply below_alloc | apply pw_below_drewN | apply below_drew1) | exact HB.out)⟩⟩
   case round =>
    clear H'
    try clear c1
    try clear c2
    try clear c2b0
    try clear c2b1
    try clear p2
    try clear c3
    try clear c11
    try clear c12
    try clear c12b0
    try clear c12b1
    try clear c12b2
    try clear c13
    try clear c13b0
    try clear c13b1
    try clear c14
    try clear c15
    try clear c15b0
    try clear c15b1
    try clear c15b2
    try clear p2
    obtain ⟨x9_2, x10_2, x11_2, rfl, rfl, rfl, HA, HK2, HO_3, HO_4, HB⟩ := hrel
    cases gk with
    | zero => exact absurd HA.out (by simp [laws_FnEditText.l0])
    | succ k2 =>
     have H := HA.out
     clear HA
     simp only [laws_FnEditText.l0] at H
     by_cases c16 : x11_2 < (t511.size : Int)
     rotate_left
     ·rw [if_neg c16] at H
      have c16b0 : decide (x11_2 < (t511.size : Int)) = false := decide_eq_false c16
      clear c16
      replace H := Option.bind_eq_some_iff.mp H
      obtain ⟨t515, A240, H⟩ := H
      replace H : ((impl_EditCost.f k2 t505 t506).bind fun t516 => (if t515 = t516 then ((impl_EditOk.f k2 t505 t506 t511).bind fun t517 => (if t517 = true then (if x9_2 = (t505.length : Int) then (some (x10_2 == (t506.length : Int))) else (some false)) else (some false))) else (some false))) = some r := H
      have A24 := Aside0.mk A240
      clear A240
      replace H := Option.bind_eq_some_iff.mp H
      obtain ⟨t516, A250, H⟩ := H
      replace H : (if t515 = t516 then ((impl_EditOk.f k2 t505 t506 t511).bind fun t517 => (if t517 = true then (if x9_2 = (t505.length : Int) then (some (x10_2 == (t506.length : Int))) else (some false)) else (some false))) else (some false)) = some r := H
      have A25 := Aside0.mk A250
      clear A250
      by_cases c26 : t515 = t516
      rotate_left
      ·rw [if_neg c26] at H
       have c26b0 : (t515 == t516) = false := beq_eq_false_iff_ne.mpr c26
       have c26b1 : (t515 != t516) = true := bne_iff_ne.mpr c26
       obtain rfl := Option.some.inj H
       go_wp2_with (first | ((with_reducible refine gate_callee (f := 21) rfl ?_); refine goesL_ (some 73) rfl rfl Try.func21 (by kernel_rfl) rfl #[.slice Ao8 t505.length co8, .slice Ao9 t506.length co9, .string t511] rfl (by (try simp only [List.map_toArray, List.map_cons, List.map_nil]); first | done | rfl | (simp only [List.length_drop, List.length_take]; rfl)) ?_; (with_reducible refine (impl_EditSum.calls k2 _ _ t505 _ _ t506 t511 t515 _ ?side1 ?side2 ?side3 ?side4 A24.out).mono ?_); (case side1 => repeat (first | exact (Kd.R_reads' HO_3.out).2.2 | (with_reducible refine Kd.C_alloc ?_ _) | (with_reducible refine Kd.C_drewN ?_ _) | (with_reducible refine Kd.C_drew ?_))); (case side2 => exact (Kd.R_reads' HO_3.out).2.1); (case side3 => repeat (first | exact (Kd.R_reads' HO_4.out).2.2 | (with_reducible refine Kd.C_alloc ?_ _) | (with_reducible refine Kd.C_drewN ?_ _) | (with_reducible refine Kd.C_drew ?_))); (case side4 => exact (Kd.R_reads' HO_4.out).2.1); rintro e w39 ⟨rfl, hb⟩; refine ⟨_, rfl, ?_⟩; have n0_ := Aside0.mk (Kd.R_below (by (with_reducible repeat (first | apply Kd.R_alloc | apply Kd.R_drewN | apply Kd.R_drew)); exact HO_3.out) hb); have n1_ := Aside0.mk (Kd.R_below (by (with_reducible repeat (first | apply Kd.R_alloc | apply Kd.R_drewN | apply Kd.R_drew)); exact HO_4.out) hb); have n2_ := Aside0.mk (below_step (by repeat (first | (with_reducible first | exact HB.out | apply below_alloc | apply pw_below_drewN | apply below_drew1) | exact HB.out)) hb); clear HO_3; clear HO_4; clear HB; have HO_3 := n0_; have HO_4 := n1_; have HB := n2_; clear n0_ n1_ n2_; (try clear hb); (try clear hb2); (try clear hk); (try clear hi)) | ((with_reducible refine gate_callee (f := 19) rfl ?_); refine goesL_ (some 76) rfl rfl Try.func19 (by kernel_rfl) rfl #[.slice Ao8 t505.length co8, .slice Ao9 t506.length co9] rfl (by (try simp only [List.map_toArray, List.map_cons, List.map_nil]); first | done | rfl | (simp only [List.length_drop, List.length_take]; rfl)) ?_; (with_reducible refine (impl_EditCost.calls k2 _ _ t505 _ _ t506 t516 _ ?side1 ?side2 ?side3 ?side4 A25.out).mono ?_); (case side1 => repeat (first | exact (Kd.R_reads' HO_3.out).2.2 | (with_reducible refine Kd.C_alloc ?_ _) | (with_reducible refine Kd.C_drewN ?_ _) | (with_reducible refine Kd.C_drew ?_))); (case side2 => exact (Kd.R_reads' HO_3.out).2.1); (case side3 => repeat (first | exact (Kd.R_reads' HO_4.out).2.2 | (with_reducible refine Kd.C_alloc ?_ _) | (with_reducible refine Kd.C_drewN ?_ _) | (with_reducible refine Kd.C_drew ?_))); (case side4 => exact (Kd.R_reads' HO_4.out).2.1); rintro e w40 ⟨rfl, hb⟩; refine ⟨_, rfl, ?_⟩; have n0_ := Aside0.mk (Kd.R_below (by (with_reducible repeat (first | apply Kd.R_alloc | apply Kd.R_drewN | apply Kd.R_drew)); exact HO_3.out) hb); have n1_ := Aside0.mk (Kd.R_below (by (with_reducible repeat (first | apply Kd.R_alloc | apply Kd.R_drewN | apply Kd.R_drew)); exact HO_4.out) hb); have n2_ := Aside0.mk (below_step (by repeat (first | (with_reducible first | exact HB.out | apply below_alloc | apply pw_below_drewN | apply below_drew1) | exact HB.out)) hb); clear HO_3; clear HO_4; clear HB; have HO_3 := n0_; have HO_4 := n1_; have HB := n2_; clear n0_ n1_ n2_; (try clear hb); (try clear hb2); (try clear hk); (try clear hi)))
       go_ret
       exact ⟨by first | rfl | (simp [errW_none, errW_some] <;> rfl) | (simp [*, errW_none, errW_some] <;> rfl), by repeat (first | (with_reducible first | exact HB.out | apply below_alloc | apply pw_below_drewN | apply below_drew1) | exact HB.out)⟩
      rw [if_pos c26] at H
      have c26b0 : (t515 == t516) = true := beq_iff_eq.mpr c26
      have c26b1 : (t515 != t516) = false := bne_eq_false_iff_eq.mpr c26
      clear c26
      replace H := Option.bind_eq_some_iff.mp H
      obtain ⟨t517, A270, H⟩ := H
      replace H : (if t517 = true then (if x9_2 = (t505.length : Int) then (some (x10_2 == (t506.length : Int))) else (some false)) else (some false)) = some r := H
      have A27 := Aside0.mk A270
      clear A270
      by_cases c28 : t517 = true
      rotate_left
      ·replace c28 := Bool.eq_false_iff.mpr c28
       subst c28
       have H1 : (some false) = some r := by rw [if_neg (show ¬ (false = true) by decide)] at H; exact H
       clear H
       have H := H1
       clear H1
       obtain rfl := Option.some.inj H
       go_wp2_with (first | ((with_reducible refine gate_callee (f := 21) rfl ?_); refine goesL_ (some 73) rfl rfl Try.func21 (by kernel_rfl) rfl #[.slice Ao8 t505.length co8, .slice Ao9 t506.length co9, .string t511] rfl (by (try simp only [List.map_toArray, List.map_cons, List.map_nil]); first | done | rfl | (simp only [List.length_drop, List.length_take]; rfl)) ?_; (with_reducible refine (impl_EditSum.calls k2 _ _ t505 _ _ t506 t511 t515 _ ?side1 ?side2 ?side3 ?side4 A24.out).mono ?_); (case side1 => repeat (first | exact (Kd.R_reads' HO_3.out).2.2 | (with_reducible refine Kd.C_alloc ?_ _) | (with_reducible refine Kd.C_drewN ?_ _) | (with_reducible refine Kd.C_drew ?_))); (case side2 => exact (Kd.R_reads' HO_3.out).2.1); (case side3 => repeat (first | exact (Kd.R_reads' HO_4.out).2.2 | (with_reducible refine Kd.C_alloc ?_ _) | (with_reducible refine Kd.C_drewN ?_ _) | (with_reducible refine Kd.C_drew ?_))); (case side4 => exact (Kd.R_reads' HO_4.out).2.1); rintro e w36 ⟨rfl, hb⟩; refine ⟨_, rfl, ?_⟩; have n0_ := Aside0.mk (Kd.R_below (by (with_reducible repeat (first | apply Kd.R_alloc | apply Kd.R_drewN | apply Kd.R_drew)); exact HO_3.out) hb); have n1_ := Aside0.mk (Kd.R_below (by (with_reducible repeat (first | apply Kd.R_alloc | apply Kd.R_drewN | apply Kd.R_drew)); exact HO_4.out) hb); have n2_ := Aside0.mk (below_step (by repeat (first | (with_reducible first | exact HB.out | apply below_alloc | apply pw_below_drewN | apply below_drew1) | exact HB.out)) hb); clear HO_3; clear HO_4; clear HB; have HO_3 := n0_; have HO_4 := n1_; have HB := n2_; clear n0_ n1_ n2_; (try clear hb); (try clear hb2); (try clear hk); (try clear hi)) | ((with_reducible refine gate_callee (f := 19) rfl ?_); refine goesL_ (some 76) rfl rfl Try.func19 (by kernel_rfl) rfl #[.slice Ao8 t505.length co8, .slice Ao9 t506.length co9] rfl (by (try simp only [List.map_toArray, List.map_cons, List.map_nil]); first | done | rfl | (simp only [List.length_drop, List.length_take]; rfl)) ?_; (with_reducible refine (impl_EditCost.calls k2 _ _ t505 _ _ t506 t516 _ ?side1 ?side2 ?side3 ?side4 A25.out).mono ?_); (case side1 => repeat (first | exact (Kd.R_reads' HO_3.out).2.2 | (with_reducible refine Kd.C_alloc ?_ _) | (with_reducible refine Kd.C_drewN ?_ _) | (with_reducible refine Kd.C_drew ?_))); (case side2 => exact (Kd.R_reads' HO_3.out).2.1); (case side3 => repeat (first | exact (Kd.R_reads' HO_4.out).2.2 | (with_reducible refine Kd.C_alloc ?_ _) | (with_reducible refine Kd.C_drewN ?_ _) | (with_reducible refine Kd.C_drew ?_))); (case side4 => exact (Kd.R_reads' HO_4.out).2.1); rintro e w37 ⟨rfl, hb⟩; refine ⟨_, rfl, ?_⟩; have n0_ := Aside0.mk (Kd.R_below (by (with_reducible repeat (first | apply Kd.R_alloc | apply Kd.R_drewN | apply Kd.R_drew)); exact HO_3.out) hb); have n1_ := Aside0.mk (Kd.R_below (by (with_reducible repeat (first | apply Kd.R_alloc | apply Kd.R_drewN | apply Kd.R_drew)); exact HO_4.out) hb); have n2_ := Aside0.mk (below_step (by repeat (first | (with_reducible first | exact HB.out | apply below_alloc | apply pw_below_drewN | apply below_drew1) | exact HB.out)) hb); clear HO_3; clear HO_4; clear HB; have HO_3 := n0_; have HO_4 := n1_; have HB := n2_; clear n0_ n1_ n2_; (try clear hb); (try clear hb2); (try clear hk); (try clear hi)) | (go_at_call 23; (with_reducible refine (impl_EditOk.calls k2 _ _ t505 _ _ t506 t511 false _ ?side1 ?side2 ?side3 ?side4 A27.out).mono ?_); (case side1 => repeat (first | exact (Kd.R_reads' HO_3.out).2.2 | (with_reducible refine Kd.C_alloc ?_ _) | (with_reducible refine Kd.C_drewN ?_ _) | (with_reducible refine Kd.C_drew ?_))); (case side2 => exact (Kd.R_reads' HO_3.out).2.1); (case side3 => repeat (first | exact (Kd.R_reads' HO_4.out).2.2 | (with_reducible refine Kd.C_alloc ?_ _) | (with_reducible refine Kd.C_drewN ?_ _) | (with_reducible refine Kd.C_drew ?_))); (case side4 => exact (Kd.R_reads' HO_4.out).2.1); rintro e w38 ⟨rfl, hb⟩; have n0_ := Aside0.mk (Kd.R_below (by (with_reducible repeat (first | apply Kd.R_alloc | apply Kd.R_drewN | apply Kd.R_drew)); exact HO_3.out) hb); have n1_ := Aside0.mk (Kd.R_below (by (with_reducible repeat (first | apply Kd.R_alloc | apply Kd.R_drewN | apply Kd.R_drew)); exact HO_4.out) hb); have n2_ := Aside0.mk (below_step (by repeat (first | (with_reducible first | exact HB.out | apply below_alloc | apply pw_below_drewN | apply below_drew1) | exact HB.out)) hb); clear HO_3; clear HO_4; clear HB; have HO_3 := n0_; have HO_4 := n1_; have HB := n2_; clear n0_ n1_ n2_; (try clear hb); (try clear hb2); (try clear hk); (try clear hi)))
       go_ret
       exact ⟨by first | rfl | (simp [errW_none, errW_some] <;> rfl) | (simp [*, errW_none, errW_some] <;> rfl), by repeat (first | (with_reducible first | exact HB.out | apply below_alloc | apply pw_below_drewN | apply below_drew1) | exact HB.out)⟩
      subst c28
      have H1 : (if x9_2 = (t505.length : Int) then (some (x10_2 == (t506.length : Int))) else (some false)) = some r := by rw [if_pos rfl] at H; exact H
      clear H
      have H := H1
      clear H1
      by_cases c29 : x9_2 = (t505.length : Int)
      rotate_left
      ·rw [if_neg c29] at H
       have c29b0 : (x9_2 == (t505.length : Int)) = false := beq_eq_false_iff_ne.mpr c29
       have c29b1 : (x9_2 != (t505.length : Int)) = true := bne_iff_ne.mpr c29
       obtain rfl := Option.some.inj H
       go_wp2_with (first | ((with_reducible refine gate_callee (f := 21) rfl ?_); refine goesL_ (some 73) rfl rfl Try.func21 (by kernel_rfl) rfl #[.slice Ao8 t505.length co8, .slice Ao9 t506.length co9, .string t511] rfl (by (try simp only [List.map_toArray, List.map_cons, List.map_nil]); first | done | rfl | (simp only [List.length_drop, List.length_take]; rfl)) ?_; (with_reducible refine (impl_EditSum.calls k2 _ _ t505 _ _ t506 t511 t515 _ ?side1 ?side2 ?side3 ?side4 A24.out).mono ?_); (case side1 => repeat (first | exact (Kd.R_reads' HO_3.out).2.2 | (with_reducible refine Kd.C_alloc ?_ _) | (with_reducible refine Kd.C_drewN ?_ _) | (with_reducible refine Kd.C_drew ?_))); (case side2 => exact (Kd.R_reads' HO_3.out).2.1); (case side3 => repeat (first | exact (Kd.R_reads' HO_4.out).2.2 | (with_reducible refine Kd.C_alloc ?_ _) | (with_reducible refine Kd.C_drewN ?_ _) | (with_reducible refine Kd.C_drew ?_))); (case side4 => exact (Kd.R_reads' HO_4.out).2.1); rintro e w33 ⟨rfl, hb⟩; refine ⟨_, rfl, ?_⟩; have n0_ := Aside0.mk (Kd.R_below (by (with_reducible repeat (first | apply Kd.R_alloc | apply Kd.R_drewN | apply Kd.R_drew)); exact HO_3.out) hb); have n1_ := Aside0.mk (Kd.R_below (by (with_reducible repeat (first | apply Kd.R_alloc | apply Kd.R_drewN | apply Kd.R_drew)); exact HO_4.out) hb); have n2_ := Aside0.mk (below_step (by repeat (first | (with_reducible first | exact HB.out | apply below_alloc | apply pw_below_drewN | apply below_drew1) | exact HB.out)) hb); clear HO_3; clear HO_4; clear HB; have HO_3 := n0_; have HO_4 := n1_; have HB := n2_; clear n0_ n1_ n2_; (try clear hb); (try clear hb2); (try clear hk); (try clear hi)) | ((with_reducible refine gate_callee (f := 19) rfl ?_); refine goesL_ (some 76) rfl rfl Try.func19 (by kernel_rfl) rfl #[.slice Ao8 t505.length co8, .slice Ao9 t506.length co9] rfl (by (try simp only [List.map_toArray, List.map_cons, List.map_nil]); first | done | rfl | (simp only [List.length_drop, List.length_take]; rfl)) ?_; (with_reducible refine (impl_EditCost.calls k2 _ _ t505 _ _ t506 t516 _ ?side1 ?side2 ?side3 ?side4 A25.out).mono ?_); (case side1 => repeat (first | exact (Kd.R_reads' HO_3.out).2.2 | (with_reducible refine Kd.C_alloc ?_ _) | (with_reducible refine Kd.C_drewN ?_ _) | (with_reducible refine Kd.C_drew ?_))); (case side2 => exact (Kd.R_reads' HO_3.out).2.1); (case side3 => repeat (first | exact (Kd.R_reads' HO_4.out).2.2 | (with_reducible refine Kd.C_alloc ?_ _) | (with_reducible refine Kd.C_drewN ?_ _) | (with_reducible refine Kd.C_drew ?_))); (case side4 => exact (Kd.R_reads' HO_4.out).2.1); rintro e w34 ⟨rfl, hb⟩; refine ⟨_, rfl, ?_⟩; have n0_ := Aside0.mk (Kd.R_below (by (with_reducible repeat (first | apply Kd.R_alloc | apply Kd.R_drewN | apply Kd.R_drew)); exact HO_3.out) hb); have n1_ := Aside0.mk (Kd.R_below (by (with_reducible repeat (first | apply Kd.R_alloc | apply Kd.R_drewN | apply Kd.R_drew)); exact HO_4.out) hb); have n2_ := Aside0.mk (below_step (by repeat (first | (with_reducible first | exact HB.out | apply below_alloc | apply pw_below_drewN | apply below_drew1) | exact HB.out)) hb); clear HO_3; clear HO_4; clear HB; have HO_3 := n0_; have HO_4 := n1_; have HB := n2_; clear n0_ n1_ n2_; (try clear hb); (try clear hb2); (try clear hk); (try clear hi)) | (go_at_call 23; (with_reducible refine (impl_EditOk.calls k2 _ _ t505 _ _ t506 t511 true _ ?side1 ?side2 ?side3 ?side4 A27.out).mono ?_); (case side1 => repeat (first | exact (Kd.R_reads' HO_3.out).2.2 | (with_reducible refine Kd.C_alloc ?_ _) | (with_reducible refine Kd.C_drewN ?_ _) | (with_reducible refine Kd.C_drew ?_))); (case side2 => exact (Kd.R_reads' HO_3.out).2.1); (case side3 => repeat (first | exact (Kd.R_reads' HO_4.out).2.2 | (with_reducible refine Kd.C_alloc ?_ _) | (with_reducible refine Kd.C_drewN ?_ _) | (with_reducible refine Kd.C_drew ?_))); (case side4 => exact (Kd.R_reads' HO_4.out).2.1); rintro e w35 ⟨rfl, hb⟩; have n0_ := Aside0.mk (Kd.R_below (by (with_reducible repeat (first | apply Kd.R_alloc | apply Kd.R_drewN | apply Kd.R_drew)); exact HO_3.out) hb); have n1_ := Aside0.mk (Kd.R_below (by (with_reducible repeat (first | apply Kd.R_alloc | apply Kd.R_drewN | apply Kd.R_drew)); exact HO_4.out) hb); have n2_ := Aside0.mk (below_step (by repeat (first | (with_reducible first | exact HB.out | apply below_alloc | apply pw_below_drewN | apply below_drew1) | exact HB.out)) hb); clear HO_3; clear HO_4; clear HB; have HO_3 := n0_; have HO_4 := n1_; have HB := n2_; clear n0_ n1_ n2_; (try clear hb); (try clear hb2); (try clear hk); (try clear hi)))
       go_ret
       exact ⟨by first | rfl | (simp [errW_none, errW_some] <;> rfl) | (simp [*, errW_none, errW_some] <;> rfl), by repeat (first | (with_reducible first | exact HB.out | apply below_alloc | apply pw_below_drewN | apply below_drew1) | exact HB.out)⟩
      rw [if_pos c29] at H
      have c29b0 : (x9_2 == (t505.length : Int)) = true := beq_iff_eq.mpr c29
      have c29b1 : (x9_2 != (t505.length : Int)) = false := bne_eq_false_iff_eq.mpr c29
      clear c29
      obtain rfl := Option.some.inj H
      go_wp2_with (first | ((with_reducible refine gate_callee (f := 21) rfl ?_); refine goesL_ (some 73) rfl rfl Try.func21 (by kernel_rfl) rfl #[.slice Ao8 t505.length co8, .slice Ao9 t506.length co9, .string t511] rfl (by (try simp only [List.map_toArray, List.map_cons, List.map_nil]); first | done | rfl | (simp only [List.length_drop, List.length_take]; rfl)) ?_; (with_reducible refine (impl_EditSum.calls k2 _ _ t505 _ _ t506 t511 t515 _ ?side1 ?side2 ?side3 ?side4 A24.out).mono ?_); (case side1 => repeat (first | exact (Kd.R_reads' HO_3.out).2.2 | (with_reducible refine Kd.C_alloc ?_ _) | (with_reducible refine Kd.C_drewN ?_ _) | (with_reducible refine Kd.C_drew ?_))); (case side2 => exact (Kd.R_reads' HO_3.out).2.1); (case side3 => repeat (first | exact (Kd.R_reads' HO_4.out).2.2 | (with_reducible refine Kd.C_alloc ?_ _) | (with_reducible refine Kd.C_drewN ?_ _) | (with_reducible refine Kd.C_drew ?_))); (case side4 => exact (Kd.R_reads' HO_4.out).2.1); rintro e w30 ⟨rfl, hb⟩; refine ⟨_, rfl, ?_⟩; have n0_ := Aside0.mk (Kd.R_below (by (with_reducible repeat (first | apply Kd.R_alloc | apply Kd.R_drewN | apply Kd.R_drew)); exact HO_3.out) hb); have n1_ := Aside0.mk (Kd.R_below (by (with_reducible repeat (first | apply Kd.R_alloc | apply Kd.R_drewN | apply Kd.R_drew)); exact HO_4.out) hb); have n2_ := Aside0.mk (below_step (by repeat (first | (with_reducible first | exact HB.out | apply below_alloc | apply pw_below_drewN | apply below_drew1) | exact HB.out)) hb); clear HO_3; clear HO_4; clear HB; have HO_3 := n0_; have HO_4 := n1_; have HB := n2_; clear n0_ n1_ n2_; (try clear hb); (try clear hb2); (try clear hk); (try clear hi)) | ((with_reducible refine gate_callee (f := 19) rfl ?_); refine goesL_ (some 76) rfl rfl Try.func19 (by kernel_rfl) rfl #[.slice Ao8 t505.length co8, .slice Ao9 t506.length co9] rfl (by (try simp only [List.map_toArray, List.map_cons, List.map_nil]); first | done | rfl | (simp only [List.length_drop, List.length_take]; rfl)) ?_; (with_reducible refine (impl_EditCost.calls k2 _ _ t505 _ _ t506 t516 _ ?side1 ?side2 ?side3 ?side4 A25.out).mono ?_); (case side1 => repeat (first | exact (Kd.R_reads' HO_3.out).2.2 | (with_reducible refine Kd.C_alloc ?_ _) | (with_reducible refine Kd.C_drewN ?_ _) | (with_reducible refine Kd.C_drew ?_))); (case side2 => exact (Kd.R_reads' HO_3.out).2.1); (case side3 => repeat (first | exact (Kd.R_reads' HO_4.out).2.2 | (with_reducible refine Kd.C_alloc ?_ _) | (with_reducible refine Kd.C_drewN ?_ _) | (with_reducible refine Kd.C_drew ?_))); (case side4 => exact (Kd.R_reads' HO_4.out).2.1); rintro e w31 ⟨rfl, hb⟩; refine ⟨_, rfl, ?_⟩; have n0_ := Aside0.mk (Kd.R_below (by (with_reducible repeat (first | apply Kd.R_alloc | apply Kd.R_drewN | apply Kd.R_drew)); exact HO_3.out) hb); have n1_ := Aside0.mk (Kd.R_below (by (with_reducible repeat (first | apply Kd.R_alloc | apply Kd.R_drewN | apply Kd.R_drew)); exact HO_4.out) hb); have n2_ := Aside0.mk (below_step (by repeat (first | (with_reducible first | exact HB.out | apply below_alloc | apply pw_below_drewN | apply below_drew1) | exact HB.out)) hb); clear HO_3; clear HO_4; clear HB; have HO_3 := n0_; have HO_4 := n1_; have HB := n2_; clear n0_ n1_ n2_; (try clear hb); (try clear hb2); (try clear hk); (try clear hi)) | (go_at_call 23; (with_reducible refine (impl_EditOk.calls k2 _ _ t505 _ _ t506 t511 true _ ?side1 ?side2 ?side3 ?side4 A27.out).mono ?_); (case side1 => repeat (first | exact (Kd.R_reads' HO_3.out).2.2 | (with_reducible refine Kd.C_alloc ?_ _) | (with_reducible refine Kd.C_drewN ?_ _) | (with_reducible refine Kd.C_drew ?_))); (case side2 => exact (Kd.R_reads' HO_3.out).2.1); (case side3 => repeat (first | exact (Kd.R_reads' HO_4.out).2.2 | (with_reducible refine Kd.C_alloc ?_ _) | (with_reducible refine Kd.C_drewN ?_ _) | (with_reducible refine Kd.C_drew ?_))); (case side4 => exact (Kd.R_reads' HO_4.out).2.1); rintro e w32 ⟨rfl, hb⟩; have n0_ := Aside0.mk (Kd.R_below (by (with_reducible repeat (first | apply Kd.R_alloc | apply Kd.R_drewN | apply Kd.R_drew)); exact HO_3.out) hb); have n1_ := Aside0.mk (Kd.R_below (by (with_reducible repeat (first | apply Kd.R_alloc | apply Kd.R_drewN | apply Kd.R_drew)); exact HO_4.out) hb); have n2_ := Aside0.mk (below_step (by repeat (first | (with_reducible first | exact HB.out | apply below_alloc | apply pw_below_drewN | apply below_drew1) | exact HB.out)) hb); clear HO_3; clear HO_4; clear HB; have HO_3 := n0_; have HO_4 := n1_; have HB := n2_; clear n0_ n1_ n2_; (try clear hb); (try clear hb2); (try clear hk); (try clear hi)))
      go_ret
      exact ⟨by first | rfl | (simp [errW_none, errW_some] <;> rfl) | (simp [*, errW_none, errW_some] <;> rfl), by repeat (first | (with_reducible first | exact HB.out | apply below_alloc | apply pw_below_drewN | apply below_drew1) | exact HB.out)⟩
     rw [if_pos c16] at H
     have c16b0 : decide (x11_2 < (t511.size : Int)) = true := decide_eq_true c16
     clear c16
     by_cases c17 : 0 ≤ x11_2
     rotate_left
     ·rw [if_neg c17] at H
      exact absurd H (by simp)
     rw [if_pos c17] at H
     have c17b0 : decide (0 ≤ x11_2) = true := decide_eq_true c17
     clear c17
     by_cases c19 : (bt t511 x11_2) = 105
     rotate_left
     ·rw [if_neg c19] at H
      have c19b0 : ((bt t511 x11_2) == 105) = false := beq_eq_false_iff_ne.mpr c19
      have c19b1 : ((bt t511 x11_2) != 105) = true := bne_iff_ne.mpr c19
      by_cases c23 : (bt t511 x11_2) = 111
      rotate_left
      ·rw [if_neg c23] at H
       have c23b0 : ((bt t511 x11_2) == 111) = false := beq_eq_false_iff_ne.mpr c23
       have c23b1 : ((bt t511 x11_2) != 111) = true := bne_iff_ne.mpr c23
       have H' := Aside0.mk H
       clear H
       have p18 : 0 ≤ (x11_2 : Int) := of_decide_eq_true (by first | (with_reducible assumption) | assumption)
       have q18 : x11_2 < (t511.size : Int) := of_decide_eq_true (by first | (with_reducible assumption) | assumption)
       have hx18 := bt_at t511 x11_2
       replace p18 := eq_true p18
       replace q18 := eq_true q18
       have p22 : 0 ≤ (x11_2 : Int) := of_decide_eq_true (by first | (with_reducible assumption) | assumption)
       have q22 : x11_2 < (t511.size : Int) := of_decide_eq_true (by first | (with_reducible assumption) | assumption)
       have hx22 := bt_at t511 x11_2
       replace p22 := eq_true p22
       replace q22 := eq_true q22
       go_wp2
       go_roundg k2
       case measure => have := HJ5.out; have := HK2.out; omega
       case rel => exact ⟨(wrap64 (x9_2 + 1)), (wrap64 (x10_2 + 1)), (wrap64 (x11_2 + 1)), (by first | rfl | (simp; done) | (simp [*]; done)), (by first | rfl | (simp; done) | (simp [*]; done)), (by first | rfl | (simp; done) | (simp [*]; done)), H', ⟨by have := HJ5.out; have := HK2.out; omega⟩, ⟨by (with_reducible repeat (first | apply Kd.R_alloc | apply Kd.R_drewN | apply Kd.R_drew)); exact HO_3.out⟩, ⟨by (with_reducible repeat (first | apply Kd.R_alloc | apply Kd.R_drewN | apply Kd.R_drew)); exact HO_4.out⟩, ⟨by repeat (first | (with_reducible first | exact HB.out | apply below_alloc | apply pw_below_drewN | apply below_drew1) | exact HB.out)⟩⟩
      rw [if_pos c23] at H
      have c23b0 : ((bt t511 x11_2) == 111) = true := beq_iff_eq.mpr c23
      have c23b1 : ((bt t511 x11_2) != 111) = false := bne_eq_false_iff_eq.mpr c23
      clear c23
      have H' := Aside0.mk H
      clear H
      have p18 : 0 ≤ (x11_2 : Int) := of_decide_eq_true (by first | (with_reducible assumption) | assumption)
      have q18 : x11_2 < (t511.size : Int) := of_decide_eq_true (by first | (with_reducible assumption) | assumption)
      have hx18 := bt_at t511 x11_2
      replace p18 := eq_true p18
      replace q18 := eq_true q18
      have p22 : 0 ≤ (x11_2 : Int) := of_decide_eq_true (by first | (with_reducible assumption) | assumption)
      have q22 : x11_2 < (t511.size : Int) := of_decide_eq_true (by first | (with_reducible assumption) | assumption)
      have hx22 := bt_at t511 x11_2
      replace p22 := eq_true p22
      replace q22 := eq_true q22
      go_wp2
      go_roundg k2
      case measure => have := HJ5.out; have := HK2.out; omega
      case rel => exact ⟨(wrap64 (x9_2 + 1)), (x10_2), (wrap64 (x11_2 + 1)), (by first | rfl | (simp; done) | (simp [*]; done)), (by first | rfl | (simp; done) | (simp [*]; done)), (by first | rfl | (simp; done) | (simp [*]; done)), H', ⟨by have := HJ5.out; have := HK2.out; omega⟩, ⟨by (with_reducible repeat (first | apply Kd.R_alloc | apply Kd.R_drewN | apply Kd.R_drew)); exact HO_3.out⟩, ⟨by (with_reducible repeat (first | apply Kd.R_alloc | apply Kd.R_drewN | apply Kd.R_drew)); exact HO_4.out⟩, ⟨by repeat (first | (with_reducible first | exact HB.out | apply below_alloc | apply pw_below_drewN | apply below_drew1) | exact HB.out)⟩⟩
     rw [if_pos c19] at H
     have c19b0 : ((bt t511 x11_2) == 105) = true := beq_iff_eq.mpr c19
     have c19b1 : ((bt t511 x11_2) != 105) = false := bne_eq_false_iff_eq.mpr c19
     clear c19
     by_cases c21 : (bt t511 x11_2) = 111
     rotate_left
     ·rw [if_neg c21] at H
      have c21b0 : ((bt t511 x11_2) == 111) = false := beq_eq_false_iff_ne.mpr c21
      have c21b1 : ((bt t511 x11_2) != 111) = true := bne_iff_ne.mpr c21
      have H' := Aside0.mk H
      clear H
      have p18 : 0 ≤ (x11_2 : Int) := of_decide_eq_true (by first | (with_reducible assumption) | assumption)
      have q18 : x11_2 < (t511.size : Int) := of_decide_eq_true (by first | (with_reducible assumption) | assumption)
      have hx18 := bt_at t511 x11_2
      replace p18 := eq_true p18
      replace q18 := eq_true q18
      have p20 : 0 ≤ (x11_2 : Int) := of_decide_eq_true (by first | (with_reducible assumption) | assumption)
      have q20 : x11_2 < (t511.size : Int) := of_decide_eq_true (by first | (with_reducible assumption) | assumption)
      have hx20 := bt_at t511 x11_2
      replace p20 := eq_true p20
      replace q20 := eq_true q20
      go_wp2
      go_roundg k2
      case measure => have := HJ5.out; have := HK2.out; omega
      case rel => exact ⟨(x9_2), (wrap64 (x10_2 + 1)), (wrap64 (x11_2 + 1)), (by first | rfl | (simp; done) | (simp [*]; done)), (by first | rfl | (simp; done) | (simp [*]; done)), (by first | rfl | (simp; done) | (simp [*]; done)), H', ⟨by have := HJ5.out; have := HK2.out; omega⟩, ⟨by (with_reducible repeat (first | apply Kd.R_alloc | apply Kd.R_drewN | apply Kd.R_drew)); exact HO_3.out⟩, ⟨by (with_reducible repeat (first | apply Kd.R_alloc | apply Kd.R_drewN | apply Kd.R_drew)); exact HO_4.out⟩, ⟨by repeat (first | (with_reducible first | exact HB.out | apply below_alloc | apply pw_below_drewN | apply below_drew1) | exact HB.out)⟩⟩
     rw [if_pos c21] at H
     have c21b0 : ((bt t511 x11_2) == 111) = true := beq_iff_eq.mpr c21
     have c21b1 : ((bt t511 x11_2) != 111) = false := bne_eq_false_iff_eq.mpr c21
     clear c21
     have H' := Aside0.mk H
     clear H
     have p18 : 0 ≤ (x11_2 : Int) := of_decide_eq_true (by first | (with_reducible assumption) | assumption)
     have q18 : x11_2 < (t511.size : Int) := of_decide_eq_true (by first | (with_reducible assumption) | assumption)
     have hx18 := bt_at t511 x11_2
     replace p18 := eq_true p18
     replace q18 := eq_true q18
     have p20 : 0 ≤ (x11_2 : Int) := of_decide_eq_true (by first | (with_reducible assumption) | assumption)
     have q20 : x11_2 < (t511.size : Int) := of_decide_eq_true (by first | (with_reducible assumption) | assumption)
     have hx20 := bt_at t511 x11_2
     replace p20 := eq_true p20
     replace q20 := eq_true q20
     go_wp2
     go_roundg k2
     case measure => have := HJ5.out; have := HK2.out; omega
     case rel => exact ⟨(x9_2), (x10_2), (wrap64 (x11_2 + 1)), (by first | rfl | (simp; done) | (simp [*]; done)), (by first | rfl | (simp; done) | (simp [*]; done)), (by first | rfl | (simp; done) | (simp [*]; done)), H', ⟨by have := HJ5.out; have := HK2.out; omega⟩, ⟨by (with_reducible repeat (first | apply Kd.R_alloc | apply Kd.R_drewN | apply Kd.R_drew)); exact HO_3.out⟩, ⟨by (with_reducible repeat (first | apply Kd.R_alloc | apply Kd.R_drewN | apply Kd.R_drew)); exact HO_4.out⟩, ⟨by repeat (first | (with_reducible first | exact HB.out | apply below_alloc | apply pw_below_drewN | apply below_drew1) | exact HB.out)⟩⟩
def laws_FnEditText.Pure : Prop := ∀ (l0 : List Int), l0.length ≤ maxLen → l0.length * 1 ≤ 140737488351232 → (∀ x ∈ l0, (Lit.int .u8 x).wf = true) → ∃ k, laws_FnEditText.f k l0 = some true
theorem laws_FnEditText.walk (P : laws_FnEditText.Pure) (a0 : Option Addr) (len0 cap0 : Nat) (z0 : List Int) (w : World) (w0 : (a0 = none ∧ len0 = 0 ∧ cap0 = 0 ∧ z0 = []) ∨ ∃ x, a0 = some x ∧ len0 ≤ cap0 ∧ cap0 ≤ maxLen ∧ z0.length = cap0 ∧ (∀ i, i < z0.length → w.cell? (x.add i) = some (.int .u8 (z0.getD i 0))) ∧ ∀ n ∈ z0, (Lit.int .u8 n).wf = true) (y0 : len0 * 1 ≤ 140737488351232) :
  Calls Try.prog 11 #[.slice a0 len0 cap0] w fun e w' => e = .returned (.bool true) ∧ Below w.heap.size w w' := by
 obtain ⟨l0, rfl, hr0, hm0, hw0, hc0⟩ := ReadsInt.ofRowC w0
 obtain ⟨k, h⟩ := P l0 hm0 y0 hw0
 refine (laws_FnEditText.calls k _ _ l0 true w (Kd.C_of_reads (d := (0 : Int)) (h1 := fun _ => rfl) hr0) hc0 h).mono ?_
 rintro e w' ⟨rfl, hd⟩
 exact ⟨rfl, hd⟩
end Go.Proofs.Ythpeiboobnnfgaa.E
end
section
namespace Go.Proofs.Ythpeiboobnnfgaa.Ed
structure Pr (α : Type) where
  ins : Int
  om : Int
  both : α → α → Int
section
variable {α : Type}
def least (p : Pr α) : List α → List α → Int
  | [], [] => 0
  | [], _ :: bs => p.ins + least p [] bs
  | _ :: as_, [] => p.om + least p as_ []
  | a :: as_, b :: bs => min (min (p.ins + least p (a :: as_) bs) (p.om + least p as_ (b :: bs))) (p.both a b + least p as_ bs)
termination_by a b => a.length + b.length
theorem least_nn (p : Pr α) : least p [] [] = 0 := by rw [least]
theorem least_nc (p : Pr α) (b : α) (bs : List α) : least p [] (b :: bs) = p.ins + least p [] bs := by rw [least]
theorem least_cn (p : Pr α) (a : α) (as_ : List α) : least p (a :: as_) [] = p.om + least p as_ [] := by rw [least]
theorem least_cc (p : Pr α) (a b : α) (as_ bs : List α) : least p (a :: as_) (b :: bs) = min (min (p.ins + least p (a :: as_) bs) (p.om + least p as_ (b :: bs))) (p.both a b + least p as_ bs) := by rw [least]
inductive Al (p : Pr α) : List α → List α → Int → Prop
  | nil : Al p [] [] 0
  | ins (b : α) {as_ bs : List α} {n : Int} : Al p as_ bs n → Al p as_ (b :: bs) (p.ins + n)
  | om (a : α) {as_ bs : List α} {n : Int} : Al p as_ bs n → Al p (a :: as_) bs (p.om + n)
  | both (a b : α) {as_ bs : List α} {n : Int} : Al p as_ bs n → Al p (a :: as_) (b :: bs) (p.both a b + n)
theorem Al.eq {p : Pr α} {as_ bs : List α} {n m : Int} (h : Al p as_ bs n) (e : n = m) : Al p as_ bs m := e ▸ h
theorem least_le_om (p : Pr α) (a : α) (as_ bs : List α) : least p (a :: as_) bs ≤ p.om + least p as_ bs := by
  cases bs with
  | nil => rw [least_cn]; exact Int.le_refl _
  | cons b bs => rw [least_cc]; omega
theorem Al.least (p : Pr α) : ∀ as_ bs : List α, Al p as_ bs (least p as_ bs)
  | [], [] => by rw [least_nn]; exact .nil
  | [], b :: bs => by rw [least_nc]; exact .ins b (Al.least p [] bs)
  | a :: as_, [] => by rw [least_cn]; exact .om a (Al.least p as_ [])
  | a :: as_, b :: bs => by
    have h1 := Al.ins b (Al.least p (a :: as_) bs)
    have h2 := Al.om a (Al.least p as_ (b :: bs))
    have h3 := Al.both (p := p) a b (Al.least p as_ bs)
    rw [least_cc]
    rcases Int.le_total (p.ins + Ed.least p (a :: as_) bs) (p.om + Ed.least p as_ (b :: bs)) with g | g
    · rcases Int.le_total (p.ins + Ed.least p (a :: as_) bs) (p.both a b + Ed.least p as_ bs) with g' | g'
      · exact h1.eq (by omega)
      · exact h3.eq (by omega)
    · rcases Int.le_total (p.om + Ed.least p as_ (b :: bs)) (p.both a b + Ed.least p as_ bs) with g' | g'
      · exact h2.eq (by omega)
      · exact h3.eq (by omega)
termination_by as_ bs => as_.length + bs.length
theorem least_nil (p : Pr α) : ∀ bs : List α, least p [] bs = p.ins * bs.length
  | [] => by rw [least_nn]; simp
  | b :: bs => by rw [least_nc, least_nil p bs, List.length_cons]; rw [show ((bs.length + 1 : Nat) : Int) = (bs.length : Int) + 1 from rfl, Int.mul_add]; omega
theorem least_nil' (p : Pr α) : ∀ as_ : List α, least p as_ [] = p.om * as_.length
  | [] => by rw [least_nn]; simp
  | a :: as_ => by rw [least_cn, least_nil' p as_, List.length_cons]; rw [show ((as_.length + 1 : Nat) : Int) = (as_.length : Int) + 1 from rfl, Int.mul_add]; omega
end
section
variable {α : Type}
structure Cost (p : Pr α) : Prop where
  ins : p.ins = 2
  om : p.om = 2
  same : ∀ a, p.both a a = 0
  differ : ∀ a b, p.both a b = 0 → a = b
  le : ∀ a b, 0 ≤ p.both a b ∧ p.both a b ≤ 3
  comm : ∀ a b, p.both a b = p.both b a
variable {p : Pr α}
theorem Cost.nonneg (c : Cost p) {as_ bs : List α} {n : Int} (h : Al p as_ bs n) : 0 ≤ n := by
  induction h with
  | nil => exact Int.le_refl _
  | ins b _ ih => have := c.ins; omega
  | om a _ ih => have := c.om; omega
  | both a b _ ih => have := c.le a b; omega
theorem Cost.least_nonneg (c : Cost p) (as_ bs : List α) : 0 ≤ least p as_ bs := c.nonneg (Al.least p as_ bs)
end
section
variable {α : Type}
structure Common (q : Pr α) : Prop where
  ins : q.ins = 0
  om : q.om = 0
  same : ∀ a, q.both a a = -1
  differ : ∀ a b, a ≠ b → q.both a b = 0
  comm : ∀ a b, q.both a b = q.both b a
variable {q : Pr α}
end
end Go.Proofs.Ythpeiboobnnfgaa.Ed
end
section
namespace Go.Proofs.Ythpeiboobnnfgaa.Pur
open Go.RowKit Go.Proofs.YthpeiboobnnfgaaW.PrintWords
def EvP {α : Type} (g : Nat → Option α) (P : α → Prop) : Prop := ∃ r, Ev g r ∧ P r
section
variable {α β : Type}
theorem EvP.bind {g : Nat → Option α} {f : Nat → α → Option β} {P : α → Prop} {Q : β → Prop} (h : EvP g P) (k : ∀ a, P a → EvP (fun n => f n a) Q) : EvP (fun n => (g n).bind (f n)) Q := by
  obtain ⟨a, ha, hp⟩ := h
  obtain ⟨b, hb, hq⟩ := k a hp
  exact ⟨b, Ev.bind ha hb, hq⟩
theorem EvP.ret {P : α → Prop} {r : α} (h : P r) : EvP (fun _ => some r) P := ⟨r, Ev.now r, h⟩
theorem EvP.con {o : Option α} {P : α → Prop} {r : α} (h : o = some r) (hp : P r) : EvP (fun _ => o) P := by subst h; exact .ret hp
theorem EvP.ite {c : Prop} [Decidable c] {f g : Nat → Option α} {P : α → Prop} (h : c → EvP f P) (k : ¬ c → EvP g P) : EvP (fun n => if c then f n else g n) P := by
  by_cases hc : c
  · obtain ⟨r, hr, hp⟩ := h hc
    exact ⟨r, Ev.congr (fun n => if_pos hc) hr, hp⟩
  · obtain ⟨r, hr, hp⟩ := k hc
    exact ⟨r, Ev.congr (fun n => if_neg hc) hr, hp⟩
theorem EvP.yes {c : Prop} [Decidable c] {f g : Nat → Option α} {P : α → Prop} (hc : c) (h : EvP f P) : EvP (fun n => if c then f n else g n) P := .ite (fun _ => h) (fun k => absurd hc k)
theorem EvP.no {c : Prop} [Decidable c] {f g : Nat → Option α} {P : α → Prop} (hc : ¬ c) (h : EvP g P) : EvP (fun n => if c then f n else g n) P := .ite (fun k => absurd k hc) (fun _ => h)
theorem EvP.step {g f : Nat → Option α} {P : α → Prop} (h : ∀ k, g (k + 1) = f k) (k : EvP f P) : EvP g P := by
  obtain ⟨r, hr, hp⟩ := k
  exact ⟨r, Ev.step h hr, hp⟩
theorem EvP.succ {g : Nat → Option α} {P : α → Prop} (k : EvP (fun n => g (n + 1)) P) : EvP g P := EvP.step (fun _ => rfl) k
theorem EvP.mono {g : Nat → Option α} {P Q : α → Prop} (h : EvP g P) (k : ∀ r, P r → Q r) : EvP g Q := by
  obtain ⟨r, hr, hp⟩ := h
  exact ⟨r, hr, k r hp⟩
theorem EvP.rounds {g : Nat → Option α} {r : α} (h : EvP g (· = r)) : ∃ k, g k = some r := by
  obtain ⟨_, hr, rfl⟩ := h
  exact hr.rounds
end
structure Hd (p : Prop) : Prop where mk :: (out : p)
theorem w64 {i : Int} (h0 : -9223372036854775808 ≤ i) (h1 : i ≤ 9223372036854775807) : wrap64 i = i := by unfold wrap64; omega
theorem tmod_pos {a : Int} (b : Int) (h : 0 ≤ a) : Int.tmod a b = a % b := Int.tmod_eq_emod_of_nonneg h
theorem tdiv_pos {a : Int} (b : Int) (h : 0 ≤ a) : Int.tdiv a b = a / b := Int.tdiv_eq_ediv_of_nonneg h
theorem toNat_nat (n : Nat) : ((n : Int)).toNat = n := rfl
end Go.Proofs.Ythpeiboobnnfgaa.Pur
end
section
namespace Go.Proofs.Ythpeiboobnnfgaa.Pur
open Go.RowKit Go.Proofs.YthpeiboobnnfgaaW.PrintWords Go.Proofs.YthpeiboobnnfgaaW.PrintMore Go.Proofs.Ythpeiboobnnfgaa.E Go.Proofs.Ythpeiboobnnfgaa.Ed
def T (x : List (List Int)) (i k : Nat) : Int := (x.getD i []).getD k 0
def RL (x : List (List Int)) (i : Nat) : Nat := (x.getD i []).length
def putT (x : List (List Int)) (i k : Nat) (v : Int) : List (List Int) := x.set i ((x.getD i []).set k v)
theorem rd_T (x : List (List Int)) (i k : Nat) : rd (rd_L4 x (i : Int)) (k : Int) = T x i k := rfl
theorem rd_RL (x : List (List Int)) (i : Nat) : (rd_L4 x (i : Int)).length = RL x i := rfl
theorem getD_set {α : Type} (x : List α) (i j : Nat) (v d : α) : (x.set i v).getD j d = if i = j ∧ i < x.length then v else x.getD j d := by
  simp only [List.getD_eq_getElem?_getD, List.getElem?_set]
  by_cases h : i = j
  · subst h
    by_cases h2 : i < x.length
    · simp [h2]
    · simp [h2]
  · simp [h]
theorem putT_length (x : List (List Int)) (i k : Nat) (v : Int) : (putT x i k v).length = x.length := by simp [putT]
theorem putT_RL (x : List (List Int)) (i k j : Nat) (v : Int) : RL (putT x i k v) j = RL x j := by
  unfold RL putT
  rw [getD_set]
  split
  · rename_i h; rw [h.1]; simp
  · rfl
theorem putT_T (x : List (List Int)) (i k i' k' : Nat) (v : Int) (hi : i < x.length) (hk : k < RL x i) : T (putT x i k v) i' k' = if i = i' ∧ k = k' then v else T x i' k' := by
  unfold T putT
  rw [getD_set]
  by_cases h : i = i'
  · subst h
    rw [if_pos ⟨rfl, hi⟩, getD_set]
    by_cases h2 : k = k'
    · subst h2
      have hk' : k < (x.getD i []).length := hk
      rw [if_pos ⟨rfl, hk'⟩, if_pos ⟨rfl, rfl⟩]
    · rw [if_neg (fun h => h2 h.1), if_neg (fun h => h2 h.2)]
  · rw [if_neg (fun h' => h h'.1), if_neg (fun h' => h h'.1)]
theorem putT_put (x : List (List Int)) (i k : Nat) (u v : Int) : putT (putT x i k u) i k v = putT x i k v := by
  unfold putT
  rw [getD_set]
  by_cases hi : i < x.length
  · rw [if_pos ⟨rfl, hi⟩, List.set_set, List.set_set]
  · rw [List.set_eq_of_length_le (by simp; omega), List.set_eq_of_length_le (by omega), List.set_eq_of_length_le (by omega)]
section
variable {α : Type} (p : Pr α) (a b : List α)
structure Done (x : List (List Int)) (i k : Nat) : Prop where
  len : x.length = a.length + 1
  row : ∀ j, i ≤ j → j ≤ a.length → RL x j = b.length + 1
  told : ∀ j l, j ≤ a.length → l ≤ b.length → (i < j ∨ i = j ∧ k ≤ l) → T x j l = least p (a.drop j) (b.drop l)
  zero : ∀ l, l < k → T x i l = 0
structure Full (x : List (List Int)) : Prop where
  len : x.length = a.length + 1
  row : ∀ j, j ≤ a.length → RL x j = b.length + 1
  told : ∀ j l, j ≤ a.length → l ≤ b.length → T x j l = least p (a.drop j) (b.drop l)
variable {p a b}
theorem Done.put {x : List (List Int)} {i k : Nat} (h : Done p a b x i (k + 1)) (hi : i ≤ a.length) (hk : k ≤ b.length) {v : Int} (hv : v = least p (a.drop i) (b.drop k)) : Done p a b (putT x i k v) i k := by
  have h1 : i < x.length := by rw [h.len]; omega
  have h2 : k < RL x i := by rw [h.row i (Nat.le_refl _) hi]; omega
  refine ⟨by rw [putT_length]; exact h.len, fun j hj hj' => by rw [putT_RL]; exact h.row j hj hj', fun j l hj hl hd => ?_, fun l hl => ?_⟩
  · rw [putT_T x i k j l v h1 h2]
    by_cases e : i = j ∧ k = l
    · rw [if_pos e, hv, e.1, e.2]
    · rw [if_neg e]
      exact h.told j l hj hl (by omega)
  · rw [putT_T x i k i l v h1 h2, if_neg (by omega)]
    exact h.zero l (by omega)
theorem Done.stay {x : List (List Int)} (h : Done p a b x a.length (b.length + 1)) : Done p a b x a.length b.length := by
  refine ⟨h.len, h.row, fun j l hj hl hd => ?_, fun l hl => h.zero l (by omega)⟩
  obtain ⟨rfl, rfl⟩ : j = a.length ∧ l = b.length := by omega
  rw [h.zero _ (Nat.lt_succ_self _), List.drop_of_length_le (Nat.le_refl _), List.drop_of_length_le (Nat.le_refl _), least_nn]
theorem Done.new {x : List (List Int)} {i : Nat} (h : x.length = a.length + 1) (hr : ∀ j, i < j → j ≤ a.length → RL x j = b.length + 1)
    (ht : ∀ j l, j ≤ a.length → l ≤ b.length → i < j → T x j l = least p (a.drop j) (b.drop l)) (hi : i ≤ a.length) : Done p a b (x.set i (List.replicate (b.length + 1) 0)) i (b.length + 1) := by
  refine ⟨by simpa using h, fun j hj hj' => ?_, fun j l hj hl hd => ?_, fun l hl => ?_⟩
  · unfold RL
    rw [getD_set]
    split
    · simp
    · exact hr j (by omega) hj'
  · unfold T
    rw [getD_set, if_neg (by omega)]
    exact ht j l hj hl (by omega)
  · unfold T
    rw [getD_set, if_pos ⟨rfl, by omega⟩]
    simp [List.getD_eq_getElem?_getD, hl]
end
end Go.Proofs.Ythpeiboobnnfgaa.Pur
end
section
namespace Go.Proofs.Ythpeiboobnnfgaa.Pur
open Go.RowKit Go.Proofs.YthpeiboobnnfgaaW.PrintWords Go.Proofs.Ythpeiboobnnfgaa.E
def okT (t : S36) : Bool := decide (0 ≤ t.f0) && decide (t.f0 ≤ 20) && (!t.f1 || decide (t.f0 % 7 = 2))
def okM (l : List S36) : Bool := l.all okT && decide (l.length ≤ 24)
theorem spec_valid (t : S36) : spec_ToneValid.f t.f0 t.f1 = some (okT t) := by
  obtain ⟨s, b⟩ := t
  unfold spec_ToneValid.f spec_l6In.f spec_l1Letter.f okT
  by_cases h0 : s ≥ 0
  · rw [if_pos h0]
    by_cases h1 : s ≤ 20
    · cases b <;> simp [h0, h1, tmod_pos, Bool.beq_eq_decide_eq]
    · simp [h0, h1]
  · simp [h0]
theorem impl_valid (t : S36) : impl_Tone_valid.f t.f0 t.f1 = some (okT t) := by
  obtain ⟨s, b⟩ := t
  unfold impl_Tone_valid.f okT
  by_cases h0 : s ≥ 0
  · rw [if_pos h0]
    by_cases h1 : s ≤ 20
    · cases b <;> simp [h0, h1, tmod_pos, Bool.beq_eq_decide_eq]
    · simp [h0, h1]
  · simp [h0]
theorem rdT_lt {l : List S36} {i : Nat} (h : i < l.length) : rd_T36 l (i : Int) = l[i] := by
  unfold rd_T36
  rw [toNat_nat, List.getD_eq_getElem?_getD, List.getElem?_eq_getElem h]
  rfl
theorem all_drop {l : List S36} {i : Nat} (h : i < l.length) : (l.drop i).all okT = (okT l[i] && (l.drop (i + 1)).all okT) := by
  rw [List.drop_eq_getElem_cons h, List.all_cons]
theorem spec_melody_loop (l : List S36) (hl : l.length < 9223372036854775807) : ∀ d i : Nat, i + d = l.length → EvP (fun k => spec_MelodyValid.l0 k l (i : Int)) (· = ((l.drop i).all okT && decide (l.length ≤ 24))) := by
  intro d
  induction d with
  | zero =>
    intro i hi
    refine EvP.succ ?_
    simp only [spec_MelodyValid.l0]
    refine (EvP.no (by omega) (EvP.ret ?_))
    rw [List.drop_of_length_le (by omega)]
    simp only [List.all_nil, Bool.true_and]
    by_cases h : l.length ≤ 24
    · have : (l.length : Int) ≤ 24 := by omega
      simp [h, this]
    · have : ¬ (l.length : Int) ≤ 24 := by omega
      simp [h, this]
  | succ d ih =>
    intro i hi
    have hlt : i < l.length := by omega
    refine EvP.step (fun k => rfl) (EvP.yes (by omega) (EvP.yes (by omega) ?_))
    rw [rdT_lt hlt, all_drop hlt]
    refine EvP.bind (P := (· = okT l[i])) (EvP.con (spec_valid _) rfl) (fun _ e => ?_)
    subst e
    refine EvP.ite (fun h => ?_) (fun h => EvP.ret ?_)
    · rw [w64 (by omega) (by omega), h, Bool.true_and]
      exact ih (i + 1) (by omega)
    · simp [h]
theorem spec_melody (l : List S36) (hl : l.length < 9223372036854775807) : EvP (fun k => spec_MelodyValid.f k l) (· = okM l) := spec_melody_loop l hl l.length 0 (by omega)
theorem impl_melody_loop (l : List S36) (hl : l.length ≤ 24) : ∀ d i : Nat, i + d = l.length → EvP (fun k => impl_MelodyValid.l0 k l (l.length : Int) (i : Int)) (· = (l.drop i).all okT) := by
  intro d
  induction d with
  | zero =>
    intro i hi
    refine EvP.step (fun k => rfl) (EvP.no (by omega) (EvP.ret ?_))
    rw [List.drop_of_length_le (by omega)]
    rfl
  | succ d ih =>
    intro i hi
    have hlt : i < l.length := by omega
    refine EvP.step (fun k => rfl) (EvP.yes (by omega) (EvP.yes (by omega) ?_))
    try refine EvP.yes (by omega) ?_
    rw [rdT_lt hlt, all_drop hlt]
    refine EvP.bind (P := (· = okT l[i])) (EvP.con (impl_valid _) rfl) (fun _ e => ?_)
    subst e
    refine EvP.ite (fun h => ?_) (fun h => EvP.ret ?_)
    · rw [w64 (by omega) (by omega), h, Bool.true_and]
      exact ih (i + 1) (by omega)
    · simp [h]
theorem impl_melody (l : List S36) : EvP (fun k => impl_MelodyValid.f k l) (· = okM l) := by
  unfold impl_MelodyValid.f
  refine EvP.ite (fun h => EvP.ret ?_) (fun h => ?_)
  · simp [okM]; intro; omega
  · have hl : l.length ≤ 24 := by omega
    refine (impl_melody_loop l hl l.length 0 (by omega)).mono (fun r e => ?_)
    rw [e]
    simp [okM, hl]
end Go.Proofs.Ythpeiboobnnfgaa.Pur
end
section
namespace Go.Proofs.Ythpeiboobnnfgaa.Pur
open Go.RowKit Go.Proofs.YthpeiboobnnfgaaW.PrintWords Go.Proofs.YthpeiboobnnfgaaW.PrintMore Go.Proofs.Ythpeiboobnnfgaa.E Go.Proofs.Ythpeiboobnnfgaa.Ed
abbrev Tn := S36
def costP : Pr Tn := { ins := 2, om := 2, both := fun a b => if a.f0 = b.f0 then (if a.f1 = b.f1 then 0 else 1) else 3 }
def commonP : Pr Tn := { ins := 0, om := 0, both := fun a b => if a.f0 = b.f0 ∧ a.f1 = b.f1 then -1 else 0 }
theorem tn_ext {a b : Tn} (h0 : a.f0 = b.f0) (h1 : a.f1 = b.f1) : a = b := by cases a; cases b; simp_all
theorem costC : Cost costP where
  ins := rfl
  om := rfl
  same := fun a => by simp [costP]
  differ := fun a b h => by
    unfold costP at h
    by_cases h0 : a.f0 = b.f0
    · by_cases h1 : a.f1 = b.f1
      · exact tn_ext h0 h1
      · simp [h0, h1] at h
    · simp [h0] at h
  le := fun a b => by unfold costP; dsimp only; split <;> (try split) <;> omega
  comm := fun a b => by
    unfold costP
    dsimp only
    by_cases h0 : a.f0 = b.f0
    · by_cases h1 : a.f1 = b.f1
      · simp [h0, h1]
      · have h1' : ¬ b.f1 = a.f1 := fun h => h1 h.symm
        simp [h0, h1, h1']
    · have h0' : ¬ b.f0 = a.f0 := fun h => h0 h.symm
      simp [h0, h0']
theorem least_le_all {α : Type} (p : Pr α) : ∀ xs ys : List α, least p xs ys ≤ p.om * xs.length + p.ins * ys.length
  | [], ys => by rw [least_nil]; simp
  | x :: xs, ys => by
    have h1 := least_le_om p x xs ys
    have h2 := least_le_all p xs ys
    rw [List.length_cons, show ((xs.length + 1 : Nat) : Int) = (xs.length : Int) + 1 from rfl, Int.mul_add]
    omega
theorem cost_bd (xs ys : List Tn) : 0 ≤ least costP xs ys ∧ least costP xs ys ≤ 2 * xs.length + 2 * ys.length := ⟨costC.least_nonneg xs ys, least_le_all costP xs ys⟩
theorem drop_len {a : List Tn} (i : Nat) : (a.drop i).length = a.length - i := List.length_drop
theorem drop_cons {a : List Tn} {i : Nat} (h : i < a.length) : a.drop i = a[i] :: a.drop (i + 1) := List.drop_eq_getElem_cons h
theorem rdT_getElem {l : List Tn} {i : Nat} (h : i < l.length) : rd_T36 l (i : Int) = l[i] := rdT_lt h
theorem spec_replace (a b : Tn) : spec_l7Replace.f a.f0 a.f1 b.f0 b.f1 = some (costP.both a b) := by
  unfold spec_l7Replace.f costP
  dsimp only
  by_cases h0 : a.f0 = b.f0
  · by_cases h1 : a.f1 = b.f1
    · simp [h0, h1]
    · simp [h0, h1]
  · simp [h0]
theorem mn_min (a b : Int) : mn a b = min a b := by unfold mn; omega
section
variable (a b : List Tn) (ha : a.length ≤ 24) (hb : b.length ≤ 24) (Q : List (List Int) → Prop)
include ha hb
theorem spec_row (i : Nat) (hi : i ≤ a.length) (next : ∀ x, Done costP a b x i 0 → EvP (fun n => spec_l7Costs.l0 n a b x (wrap64 ((i : Int) - 1))) Q) :
    ∀ k1 : Nat, k1 ≤ b.length + 1 → ∀ x, Done costP a b x i k1 → EvP (fun n => spec_l7Costs.l1 n a b x (i : Int) ((k1 : Int) - 1)) Q := by
  intro k1
  induction k1 with
  | zero =>
    intro _ x D
    refine EvP.succ ?_
    simp only [spec_l7Costs.l1]
    exact EvP.no (by omega) (next x D)
  | succ k ih =>
    intro hk x D
    have hx : x.length = a.length + 1 := D.len
    have hri : (rd_L4 x (i : Int)).length = b.length + 1 := D.row i (Nat.le_refl _) hi
    have ek : (((k + 1 : Nat) : Int) - 1) = (k : Int) := by omega
    have ekm : wrap64 ((k : Int) - 1) = (k : Int) - 1 := w64 (by omega) (by omega)
    have ei1 : wrap64 ((i : Int) + 1) = ((i + 1 : Nat) : Int) := w64 (by omega) (by omega)
    have ek1 : wrap64 ((k : Int) + 1) = ((k + 1 : Nat) : Int) := w64 (by omega) (by omega)
    rw [ek]
    refine EvP.succ ?_
    simp only [spec_l7Costs.l1]
    refine EvP.yes (by omega) ?_
    have fin : ∀ v, v = least costP (a.drop i) (b.drop k) → EvP (fun n => spec_l7Costs.l1 n a b (putT x i k v) (i : Int) (wrap64 ((k : Int) - 1))) Q := by
      intro v hv
      rw [ekm]
      exact ih (by omega) _ (D.put hi (by omega) hv)
    refine EvP.ite (fun hia => ?_) (fun hia => ?_)
    · refine EvP.yes (by omega) (EvP.yes (by omega) (EvP.yes (by omega) (EvP.yes (by omega) (fin _ ?_))))
      rw [w64 (i := (b.length : Int) - k) (by omega) (by omega), w64 (by omega) (by omega), List.drop_of_length_le (show a.length ≤ i by omega), least_nil, drop_len]
      show _ = (2 : Int) * _
      omega
    · refine EvP.ite (fun hkb => ?_) (fun hkb => ?_)
      · refine EvP.yes (by omega) (EvP.yes (by omega) (EvP.yes (by omega) (EvP.yes (by omega) (fin _ ?_))))
        rw [w64 (i := (a.length : Int) - i) (by omega) (by omega), w64 (by omega) (by omega), List.drop_of_length_le (show b.length ≤ k by omega), least_nil', drop_len]
        show _ = (2 : Int) * _
        omega
      · have hia' : i < a.length := by omega
        have hkb' : k < b.length := by omega
        have hri1 : (rd_L4 x ((i + 1 : Nat) : Int)).length = b.length + 1 := D.row (i + 1) (by omega) (by omega)
        rw [ei1, ek1]
        refine EvP.yes (by omega) (EvP.yes (by omega) (EvP.yes (by omega) (EvP.yes (by omega) (EvP.yes (by omega) (EvP.yes (by omega) (EvP.yes (by omega) (EvP.yes (by omega) (EvP.yes (by omega) (EvP.yes (by omega) (EvP.yes (by omega) ?_))))))))))
        rw [rdT_getElem hia', rdT_getElem hkb']
        refine EvP.bind (P := (· = costP.both a[i] b[k])) (EvP.con (spec_replace _ _) rfl) (fun _ e => ?_)
        subst e
        refine EvP.yes (by omega) (fin _ ?_)
        rw [rd_T, rd_T, rd_T, D.told (i + 1) k (by omega) (by omega) (by omega), D.told i (k + 1) (by omega) (by omega) (by omega), D.told (i + 1) (k + 1) (by omega) (by omega) (by omega)]
        rw [drop_cons hia', drop_cons hkb', least_cc, ← drop_cons hia', ← drop_cons hkb', mn_min, mn_min]
        have b1 := cost_bd (a.drop (i + 1)) (b.drop k)
        have b2 := cost_bd (a.drop i) (b.drop (k + 1))
        have b3 := cost_bd (a.drop (i + 1)) (b.drop (k + 1))
        have b4 := costC.le a[i] b[k]
        simp only [drop_len] at b1 b2 b3
        rw [w64 (by omega) (by omega), w64 (by omega) (by omega)]
        have c1 : costP.ins = 2 := rfl
        have c2 : costP.om = 2 := rfl
        rw [c1, c2]
        omega
theorem spec_rows (hQ : ∀ x, Full costP a b x → Q x) :
    ∀ i1 : Nat, i1 ≤ a.length + 1 → ∀ x, x.length = a.length + 1 → (∀ j, i1 ≤ j → j ≤ a.length → RL x j = b.length + 1) → (∀ j l, j ≤ a.length → l ≤ b.length → i1 ≤ j → T x j l = least costP (a.drop j) (b.drop l)) →
      EvP (fun n => spec_l7Costs.l0 n a b x ((i1 : Int) - 1)) Q := by
  intro i1
  induction i1 with
  | zero =>
    intro _ x hx hr ht
    refine EvP.succ ?_
    simp only [spec_l7Costs.l0]
    refine EvP.no (by omega) ?_
    exact (EvP.ret (hQ x ⟨hx, fun j hj => hr j (Nat.zero_le _) hj, fun j l hj hl => ht j l hj hl (Nat.zero_le _)⟩))
  | succ i ih =>
    intro hi x hx hr ht
    have ei : (((i + 1 : Nat) : Int) - 1) = (i : Int) := by omega
    have eb : wrap64 ((b.length : Int) + 1) = ((b.length + 1 : Nat) : Int) := w64 (by omega) (by omega)
    rw [ei]
    refine EvP.succ ?_
    simp only [spec_l7Costs.l0]
    refine EvP.yes (by omega) ?_
    rw [eb]
    refine EvP.yes (by omega) (EvP.yes (by omega) (EvP.yes (by omega) (EvP.yes (by omega) ?_)))
    have D : Done costP a b (x.set i (List.replicate (b.length + 1) 0)) i (b.length + 1) := Done.new hx (fun j hj hj' => hr j (by omega) hj') (fun j l hj hl hij => ht j l hj hl (by omega)) (by omega)
    have eb' : (((b.length + 1 : Nat) : Int) - 1) = (b.length : Int) := by omega
    have := spec_row a b ha hb Q i (by omega) (fun x' D' => by
      rw [w64 (by omega) (by omega)]
      exact ih (by omega) x' D'.len (fun j hj hj' => D'.row j (by omega) hj') (fun j l hj hl hij => D'.told j l hj hl (by omega))) (b.length + 1) (Nat.le_refl _) _ D
    rw [eb'] at this
    exact this
end
theorem spec_costs (a b : List Tn) (ha : a.length ≤ 24) (hb : b.length ≤ 24) : EvP (fun n => spec_l7Costs.f n a b) (Full costP a b) := by
  unfold spec_l7Costs.f
  have ea : wrap64 ((a.length : Int) + 1) = ((a.length + 1 : Nat) : Int) := w64 (by omega) (by omega)
  rw [ea]
  refine EvP.yes (by omega) (EvP.yes (by omega) ?_)
  have := spec_rows a b ha hb (Full costP a b) (fun _ h => h) (a.length + 1) (Nat.le_refl _) (List.replicate (a.length + 1) []) (by simp) (fun j hj hj' => by omega) (fun j l hj hl hij => by omega)
  rw [show (((a.length + 1 : Nat) : Int) - 1) = (a.length : Int) by omega] at this
  exact this
end Go.Proofs.Ythpeiboobnnfgaa.Pur
end
section
namespace Go.Proofs.Ythpeiboobnnfgaa.Pur
open Go.RowKit Go.Proofs.YthpeiboobnnfgaaW.PrintWords Go.Proofs.YthpeiboobnnfgaaW.PrintMore Go.Proofs.Ythpeiboobnnfgaa.E Go.Proofs.Ythpeiboobnnfgaa.Ed
def eqT (a b : Tn) : Bool := a.f0 == b.f0 && (a.f1 == b.f1)
theorem eqT_iff (a b : Tn) : eqT a b = true ↔ a = b := by
  unfold eqT
  rw [Bool.and_eq_true, beq_iff_eq, beq_iff_eq]
  exact ⟨fun h => tn_ext h.1 h.2, fun h => by rw [h]; exact ⟨rfl, rfl⟩⟩
def use1 (_ ys : List Tn) : Int × Int × Int × Bool := (0, 1, 2, decide ((ys.length : Int) > 0))
def use2 : List Tn → List Tn → Int × Int × Int × Bool
  | x :: _, y :: _ => (1, 1, 0, eqT x y)
  | _, _ => (1, 1, 0, false)
def use3 (xs _ : List Tn) : Int × Int × Int × Bool := (1, 0, 2, decide ((xs.length : Int) > 0))
def use4 : List Tn → List Tn → Int × Int × Int × Bool
  | x :: _, y :: _ => if eqT x y = true then (0, 0, 0, false) else if x.f0 = y.f0 then (1, 1, 1, true) else (1, 1, 3, true)
  | _, _ => (0, 0, 0, false)
theorem use1_true (xs ys : List Tn) (h : 0 < ys.length) : use1 xs ys = (((0 : Nat) : Int), ((1 : Nat) : Int), 2, true) := by
  unfold use1
  rw [decide_eq_true (show (ys.length : Int) > 0 by omega)]
  rfl
theorem use1_false (xs ys : List Tn) (h : ys.length = 0) : (use1 xs ys).2.2.2 = false := decide_eq_false (by omega)
theorem use3_true (xs ys : List Tn) (h : 0 < xs.length) : use3 xs ys = (((1 : Nat) : Int), ((0 : Nat) : Int), 2, true) := by
  unfold use3
  rw [decide_eq_true (show (xs.length : Int) > 0 by omega)]
  rfl
theorem use3_false (xs ys : List Tn) (h : xs.length = 0) : (use3 xs ys).2.2.2 = false := decide_eq_false (by omega)
theorem use_ok (xs ys : List Tn) : EvP (fun k => impl_useOf.f k 1 xs ys) (· = use1 xs ys) ∧ EvP (fun k => impl_useOf.f k 2 xs ys) (· = use2 xs ys) ∧ EvP (fun k => impl_useOf.f k 3 xs ys) (· = use3 xs ys) ∧ EvP (fun k => impl_useOf.f k 4 xs ys) (· = use4 xs ys) := by
  have j0 : ∀ (e : Int) (u : Int × Int × Int × Bool), (∀ B, (B = (decide ((xs.length : Int) > 0) && decide ((ys.length : Int) > 0))) → EvP (fun k => impl_useOf.j0 k e xs ys B) (· = u)) → EvP (fun k => impl_useOf.f k e xs ys) (· = u) := by
    intro e u h
    unfold impl_useOf.f
    refine EvP.ite (fun h1 => h _ ?_) (fun h1 => h _ ?_)
    · have h2 : 0 < xs.length := by omega
      simp [h2]
    have : ¬ 0 < xs.length := by omega
    simp [this]
  refine ⟨j0 1 _ fun B hB => ?_, j0 2 _ fun B hB => ?_, j0 3 _ fun B hB => ?_, j0 4 _ fun B hB => ?_⟩
  · refine EvP.succ ?_
    simp only [impl_useOf.j0]
    exact EvP.yes (by simp) (EvP.ret rfl)
  · refine EvP.succ ?_
    simp only [impl_useOf.j0]
    refine EvP.no (by decide) (EvP.no (by decide) (EvP.yes (by simp) ?_))
    subst hB
    cases xs with
    | nil => exact EvP.no (by simp) (EvP.ret rfl)
    | cons x xs =>
      cases ys with
      | nil => exact EvP.no (by simp) (EvP.ret rfl)
      | cons y ys =>
        refine EvP.yes (by simp) (EvP.yes (by simp) (EvP.yes (by simp) (EvP.ret ?_)))
        rfl
  · refine EvP.succ ?_
    simp only [impl_useOf.j0]
    exact EvP.no (by decide) (EvP.yes (by simp) (EvP.ret rfl))
  · refine EvP.succ ?_
    simp only [impl_useOf.j0]
    refine EvP.no (by decide) (EvP.no (by decide) (EvP.no (by decide) (EvP.yes (by simp) ?_)))
    subst hB
    have jt : ∀ xs ys, EvP (fun k => impl_useOf.j1 k xs ys true) (· = ((0, 0, 0, false) : Int × Int × Int × Bool)) := by
      intro xs ys
      refine EvP.succ ?_
      simp only [impl_useOf.j1]
      exact EvP.yes (by simp) (EvP.ret rfl)
    cases xs with
    | nil => exact EvP.no (by simp) (jt _ _)
    | cons x xs =>
      cases ys with
      | nil => exact EvP.no (by simp) (jt _ _)
      | cons y ys =>
        refine EvP.yes (by simp) (EvP.yes (by simp) (EvP.yes (by simp) ?_))
        show EvP (fun k => impl_useOf.j1 k (x :: xs) (y :: ys) (eqT x y)) _
        rw [show use4 (x :: xs) (y :: ys) = if eqT x y = true then (0, 0, 0, false) else if x.f0 = y.f0 then (1, 1, 1, true) else (1, 1, 3, true) from rfl]
        by_cases h : eqT x y = true
        · rw [if_pos h, h]
          exact jt _ _
        · rw [if_neg h, Bool.eq_false_iff.mpr h]
          refine EvP.succ ?_
          simp only [impl_useOf.j1]
          refine EvP.no (by decide) (EvP.yes (by simp) (EvP.yes (by simp) ?_))
          show EvP (fun k => if x.f0 = y.f0 then _ else _) _
          by_cases h0 : x.f0 = y.f0
          · rw [if_pos h0]; exact EvP.ret (by rw [if_pos h0])
          · rw [if_neg h0]; exact EvP.ret (by rw [if_neg h0])
end Go.Proofs.Ythpeiboobnnfgaa.Pur
end
section
namespace Go.Proofs.Ythpeiboobnnfgaa.Pur
open Go.RowKit Go.Proofs.YthpeiboobnnfgaaW.PrintWords Go.Proofs.YthpeiboobnnfgaaW.PrintMore Go.Proofs.Ythpeiboobnnfgaa.E Go.Proofs.Ythpeiboobnnfgaa.Ed
theorem use2_same (x y : Tn) (xs ys : List Tn) (h : eqT x y = true) : use2 (x :: xs) (y :: ys) = (((1 : Nat) : Int), ((1 : Nat) : Int), 0, true) := by
  rw [show use2 (x :: xs) (y :: ys) = (1, 1, 0, eqT x y) from rfl, h]; rfl
theorem use2_not (x y : Tn) (xs ys : List Tn) (h : ¬ eqT x y = true) : (use2 (x :: xs) (y :: ys)).2.2.2 = false := by
  rw [show use2 (x :: xs) (y :: ys) = (1, 1, 0, eqT x y) from rfl]
  exact Bool.eq_false_iff.mpr h
theorem use4_same (x y : Tn) (xs ys : List Tn) (h : eqT x y = true) : (use4 (x :: xs) (y :: ys)).2.2.2 = false := by
  rw [show use4 (x :: xs) (y :: ys) = if eqT x y = true then (0, 0, 0, false) else if x.f0 = y.f0 then (1, 1, 1, true) else (1, 1, 3, true) from rfl, if_pos h]
theorem use4_not (x y : Tn) (xs ys : List Tn) (h : ¬ eqT x y = true) : use4 (x :: xs) (y :: ys) = (((1 : Nat) : Int), ((1 : Nat) : Int), (if x.f0 = y.f0 then 1 else 3), true) := by
  rw [show use4 (x :: xs) (y :: ys) = if eqT x y = true then (0, 0, 0, false) else if x.f0 = y.f0 then (1, 1, 1, true) else (1, 1, 3, true) from rfl, if_neg h]
  by_cases h0 : x.f0 = y.f0
  · rw [if_pos h0, if_pos h0]; rfl
  · rw [if_neg h0, if_neg h0]; rfl
theorem use2_nil (xs ys : List Tn) (h : xs.length = 0 ∨ ys.length = 0) : (use2 xs ys).2.2.2 = false := by
  cases xs with
  | nil => rfl
  | cons x xs => cases ys with
    | nil => rfl
    | cons y ys => simp at h
end Go.Proofs.Ythpeiboobnnfgaa.Pur
end
section
namespace Go.Proofs.Ythpeiboobnnfgaa.E
open Go.RowKit Go.Proofs.YthpeiboobnnfgaaW.PrintWords Go.Proofs.YthpeiboobnnfgaaW.PrintLast Go.Proofs.YthpeiboobnnfgaaW.PrintMore
attribute [local go_sem] max2_int min2_int max_two min_two max_three min_three max_four min_four
set_option linter.unusedVariables false
set_option linter.unusedSimpArgs false
attribute [local go_sem high] eqA36
attribute [local go_sem] en63_mk1 en63_mk2 en63_mk3 en63_mk4
attribute [local go_sem] str_leq_ str_gtr_ str_geq_
mutual
def spec_EditSum.j0 : Nat → List (S36) → List (S36) → ByteArray → Bool → Option (Int)
 | 0, _, _, _, _ => none
 | k + 1, x0, x1, x2, x19 => if x19 = true then (some (-1)) else (spec_EditSum.l0 k x0 x1 x2 0 0 0 0)
def spec_EditSum.l0 : Nat → List (S36) → List (S36) → ByteArray → Int → Int → Int → Int → Option (Int)
 | 0, _, _, _, _, _, _, _ => none
 | k + 1, x0, x1, x2, x7, x8, x9, x10 => if x10 < (x2.size : Int) then (if x7 < (x0.length : Int) then (spec_EditSum.j2 k x0 x1 x2 x7 x8 x9 x10 (decide (x8 < (x1.length : Int)))) else (spec_EditSum.j2 k x0 x1 x2 x7 x8 x9 x10 false)) else (if x7 < (x0.length : Int) then (some (-1)) else (if x8 < (x1.length : Int) then (some (-1)) else (some x9)))
def spec_EditSum.j2 : Nat → List (S36) → List (S36) → ByteArray → Int → Int → Int → Int → Bool → Option (Int)
 | 0, _, _, _, _, _, _, _, _ => none
 | k + 1, x0, x1, x2, x7, x8, x9, x10, x11 => if 0 ≤ x10 then (if x10 < (x2.size : Int) then (if (bt x2 x10) = 105 then (spec_EditSum.j3 k x0 x1 x2 x7 x8 x9 x10 x11 (decide (x8 < (x1.length : Int)))) else (spec_EditSum.j3 k x0 x1 x2 x7 x8 x9 x10 x11 false)) else (none)) else (none)
def spec_EditSum.j3 : Nat → List (S36) → List (S36) → ByteArray → Int → Int → Int → Int → Bool → Bool → Option (Int)
 | 0, _, _, _, _, _, _, _, _, _ => none
 | k + 1, x0, x1, x2, x7, x8, x9, x10, x11, x36 => if x36 = true then (spec_EditSum.l0 k x0 x1 x2 x7 (wrap64 (x8 + 1)) (wrap64 (x9 + 2)) (wrap64 (x10 + 1))) else (if 0 ≤ x10 then (if x10 < (x2.size : Int) then (if (bt x2 x10) = 111 then (spec_EditSum.j4 k x0 x1 x2 x7 x8 x9 x10 x11 (decide (x7 < (x0.length : Int)))) else (spec_EditSum.j4 k x0 x1 x2 x7 x8 x9 x10 x11 false)) else (none)) else (none))
def spec_EditSum.j4 : Nat → List (S36) → List (S36) → ByteArray → Int → Int → Int → Int → Bool → Bool → Option (Int)
 | 0, _, _, _, _, _, _, _, _, _ => none
 | k + 1, x0, x1, x2, x7, x8, x9, x10, x11, x51 => if x51 = true then (spec_EditSum.l0 k x0 x1 x2 (wrap64 (x7 + 1)) x8 (wrap64 (x9 + 2)) (wrap64 (x10 + 1))) else (if 0 ≤ x10 then (if x10 < (x2.size : Int) then (if (bt x2 x10) = 107 then (if x11 = true then (if 0 ≤ x7 then (if x7 < (x0.length : Int) then (if 0 ≤ x8 then (if x8 < (x1.length : Int) then (spec_EditSum.j5 k x0 x1 x2 x7 x8 x9 x10 x11 (((rd_T36 x0 x7).f0) == ((rd_T36 x1 x8).f0) && (((rd_T36 x0 x7).f1) == ((rd_T36 x1 x8).f1)))) else (none)) else (none)) else (none)) else (none)) else (spec_EditSum.j5 k x0 x1 x2 x7 x8 x9 x10 x11 false)) else (spec_EditSum.j5 k x0 x1 x2 x7 x8 x9 x10 x11 false)) else (none)) else (none))
def spec_EditSum.j5 : Nat → List (S36) → List (S36) → ByteArray → Int → Int → Int → Int → Bool → Bool → Option (Int)
 | 0, _, _, _, _, _, _, _, _, _ => none
 | k + 1, x0, x1, x2, x7, x8, x9, x10, x11, x66 => if x66 = true then (spec_EditSum.l0 k x0 x1 x2 (wrap64 (x7 + 1)) (wrap64 (x8 + 1)) x9 (wrap64 (x10 + 1))) else (if 0 ≤ x10 then (if x10 < (x2.size : Int) then (if (bt x2 x10) = 114 then (if x11 = true then (if 0 ≤ x7 then (if x7 < (x0.length : Int) then (if 0 ≤ x8 then (if x8 < (x1.length : Int) then (if (!(((rd_T36 x0 x7).f0) == ((rd_T36 x1 x8).f0)) || (!(((rd_T36 x0 x7).f1) == ((rd_T36 x1 x8).f1)))) = true then ((spec_l7Replace.f ((rd_T36 x0 x7).f0) ((rd_T36 x0 x7).f1) ((rd_T36 x1 x8).f0) ((rd_T36 x1 x8).f1)).bind fun t339 => (spec_EditSum.l0 k x0 x1 x2 (wrap64 (x7 + 1)) (wrap64 (x8 + 1)) (wrap64 (x9 + t339)) (wrap64 (x10 + 1)))) else (some (-1))) else (none)) else (none)) else (none)) else (none)) else (some (-1))) else (some (-1))) else (none)) else (none))
end
def spec_EditSum.f (k : Nat) (l0 : List (S36)) (l1 : List (S36)) (a2 : ByteArray) : Option (Int) := (spec_MelodyValid.f k l0).bind fun t331 => (if t331 = true then ((spec_MelodyValid.f k l1).bind fun t332 => (spec_EditSum.j0 k l0 l1 a2 (!t332))) else (spec_EditSum.j0 k l0 l1 a2 true))
def spec_EditSum.T17 : Bool × List (List Nat × List Nat) := (true, [([], []), ([], []), ([0, 1], [0, 1]), ([2], [2]), ([3], [3]), ([4], [4]), ([4, 5], [4, 5]), ([6, 4], [6]), ([7], [7]), ([7], [7]), ([8, 9, 7], [7, 8, 9]), ([10, 7], [7, 10]), ([7], [7]), ([7], [7]), ([12, 13, 7], [7, 12, 13]), ([14, 7], [7, 14]), ([11, 15, 7], [7, 11, 15]), ([7, 16], [7, 16]), ([17, 7], [17])])
def spec_EditSum.B17 : List Nat := [0, 0, 3, 7, 15, 31, 63, 127, 255, 255, 1023, 2047, 255, 255, 12543, 28927, 65535, 131071, 262143]
def spec_EditSum.T20 : Bool × List (List Nat × List Nat) := (true, [([], []), ([], []), ([0, 1], [0, 1]), ([2], [2]), ([3], [3]), ([4], [4]), ([4, 5], [4, 5]), ([6, 4], [6]), ([7], [7]), ([7], [7]), ([8, 9, 7], [7, 8, 9]), ([10, 7], [7, 10]), ([7], [7]), ([7], [7]), ([12, 13, 7], [7, 12, 13]), ([14, 7], [7, 14]), ([11, 15, 7], [7, 11, 15]), ([7, 16], [7, 16]), ([17, 7], [17])])
def spec_EditSum.B20 : List Nat := [0, 0, 3, 7, 15, 31, 63, 127, 255, 255, 1023, 2047, 255, 255, 12543, 28927, 65535, 131071, 262143]
def spec_EditSum.T21 : Bool × List (List Nat × List Nat) := (true, [([], []), ([], []), ([], []), ([1, 2], [1, 2]), ([3], [3]), ([], []), ([], []), ([5, 6], [5, 6]), ([7], [7]), ([4, 8], [4, 8]), ([0, 9], [0, 9]), ([10, 9, 0, 1, 2, 3, 4, 5, 6, 7, 8, 9, 10], [0, 10])])
def spec_EditSum.B21 : List Nat := [0, 0, 0, 6, 14, 0, 0, 96, 224, 510, 1023, 2047]
end Go.Proofs.Ythpeiboobnnfgaa.E
end
section
namespace Go.Proofs.Ythpeiboobnnfgaa.Pur
open Go.RowKit Go.Proofs.YthpeiboobnnfgaaW.PrintWords Go.Proofs.YthpeiboobnnfgaaW.PrintMore Go.Proofs.Ythpeiboobnnfgaa.E Go.Proofs.Ythpeiboobnnfgaa.Ed
def useC (c : Int) (xs ys : List Tn) : Int × Int × Int × Bool := if c = 105 then use1 xs ys else if c = 107 then use2 xs ys else if c = 111 then use3 xs ys else if c = 114 then use4 xs ys else (0, 0, 0, false)
def sumT (t : ByteArray) : Nat → Nat → List Tn → List Tn → Int → Int × Bool
  | 0, _, xs, ys, n => (n, decide (xs.length = 0) && decide (ys.length = 0))
  | d + 1, p, xs, ys, n => if (useC (bt t (p : Int)) xs ys).2.2.2 = true then sumT t d (p + 1) (xs.drop (useC (bt t (p : Int)) xs ys).1.toNat) (ys.drop (useC (bt t (p : Int)) xs ys).2.1.toNat) (n + (useC (bt t (p : Int)) xs ys).2.2.1) else (0, false)
def ans (s : Int × Bool) : Int := if s.2 = true then s.1 else -1
theorem sumT_go {t : ByteArray} {d p : Nat} {xs ys : List Tn} {n c : Int} {x y : Nat} (h : useC (bt t (p : Int)) xs ys = ((x : Int), (y : Int), c, true)) : sumT t (d + 1) p xs ys n = sumT t d (p + 1) (xs.drop x) (ys.drop y) (n + c) := by
  rw [sumT, h]
  rfl
theorem sumT_end {t : ByteArray} {d p : Nat} {xs ys : List Tn} {n : Int} (h : (useC (bt t (p : Int)) xs ys).2.2.2 = false) : sumT t (d + 1) p xs ys n = (0, false) := by
  rw [sumT, if_neg (by rw [h]; decide)]
theorem useC_ways (c : Int) (xs ys : List Tn) : (useC c xs ys).2.2.2 = false ∨ ∃ (x y : Nat) (n : Int), useC c xs ys = ((x : Int), (y : Int), n, true) ∧ x ≤ xs.length ∧ y ≤ ys.length ∧ 0 ≤ n ∧ n ≤ 3 := by
  unfold useC
  by_cases c1 : c = 105
  · rw [if_pos c1]
    by_cases h : 0 < ys.length
    · exact .inr ⟨0, 1, 2, use1_true xs ys h, by omega, by omega, by omega, by omega⟩
    · exact .inl (use1_false xs ys (by omega))
  rw [if_neg c1]
  by_cases c2 : c = 107
  · rw [if_pos c2]
    cases xs with
    | nil => exact .inl rfl
    | cons x xs => cases ys with
      | nil => exact .inl rfl
      | cons y ys =>
        by_cases h : eqT x y = true
        · exact .inr ⟨1, 1, 0, use2_same x y xs ys h, by simp, by simp, by omega, by omega⟩
        · exact .inl (use2_not x y xs ys h)
  rw [if_neg c2]
  by_cases c3 : c = 111
  · rw [if_pos c3]
    by_cases h : 0 < xs.length
    · exact .inr ⟨1, 0, 2, use3_true xs ys h, by omega, by omega, by omega, by omega⟩
    · exact .inl (use3_false xs ys (by omega))
  rw [if_neg c3]
  by_cases c4 : c = 114
  · rw [if_pos c4]
    cases xs with
    | nil => exact .inl rfl
    | cons x xs => cases ys with
      | nil => exact .inl rfl
      | cons y ys =>
        by_cases h : eqT x y = true
        · exact .inl (use4_same x y xs ys h)
        · exact .inr ⟨1, 1, _, use4_not x y xs ys h, by simp, by simp, by split <;> omega, by split <;> omega⟩
  rw [if_neg c4]
  exact .inl rfl
def edOf (c : Int) : Int := if c = 105 then 1 else if c = 107 then 2 else if c = 111 then 3 else if c = 114 then 4 else 0
theorem edit_of (c : Int) : EvP (fun k => impl_editOf.f k c) (· = edOf c) := by
  unfold impl_editOf.f
  refine EvP.bind (P := (· = [1, 2, 3, 4])) (EvP.con rfl rfl) (fun _ e => ?_)
  subst e
  have row : ∀ (i j : Int) (e v : Int) (Q : Int → Prop), 0 ≤ i → i < 4 → wrap64 (i + 1) = j → rd [1, 2, 3, 4] i = e → en63_letter.f e = some v → (v = c → Q e) → (v ≠ c → EvP (fun k => impl_editOf.l0 k c [1, 2, 3, 4] 4 j) Q) → EvP (fun k => impl_editOf.l0 k c [1, 2, 3, 4] 4 i) Q := by
    intro i j e v Q h0 h4 hj he hv hy hn
    refine EvP.succ ?_
    simp only [impl_editOf.l0]
    refine EvP.yes h4 (EvP.yes h0 (EvP.yes (by simpa using h4) ?_))
    rw [he, hj]
    refine EvP.bind (P := (· = v)) (EvP.con hv rfl) (fun _ e' => ?_)
    subst e'
    exact EvP.ite (fun h => EvP.ret (hy h)) (fun h => hn h)
  show EvP (fun k => impl_editOf.l0 k c [1, 2, 3, 4] 4 0) _
  refine row 0 1 1 105 _ (by omega) (by omega) (w64 (by omega) (by omega)) rfl rfl (fun h => ?_) (fun h1 => ?_)
  · subst h; rfl
  refine row 1 2 2 107 _ (by omega) (by omega) (w64 (by omega) (by omega)) rfl rfl (fun h => ?_) (fun h2 => ?_)
  · subst h; rfl
  refine row 2 3 3 111 _ (by omega) (by omega) (w64 (by omega) (by omega)) rfl rfl (fun h => ?_) (fun h3 => ?_)
  · subst h; rfl
  refine row 3 4 4 114 _ (by omega) (by omega) (w64 (by omega) (by omega)) rfl rfl (fun h => ?_) (fun h4 => ?_)
  · subst h; rfl
  refine EvP.succ ?_
  simp only [impl_editOf.l0]
  refine EvP.no (by decide) (EvP.ret ?_)
  unfold edOf
  rw [if_neg (fun h => h1 h.symm), if_neg (fun h => h2 h.symm), if_neg (fun h => h3 h.symm), if_neg (fun h => h4 h.symm)]
theorem use_none (xs ys : List Tn) : EvP (fun k => impl_useOf.f k 0 xs ys) (· = ((0, 0, 0, false) : Int × Int × Int × Bool)) := by
  have j0 : ∀ B, EvP (fun k => impl_useOf.j0 k 0 xs ys B) (· = ((0, 0, 0, false) : Int × Int × Int × Bool)) := by
    intro B
    refine EvP.succ ?_
    simp only [impl_useOf.j0]
    exact EvP.no (by decide) (EvP.no (by decide) (EvP.no (by decide) (EvP.no (by decide) (EvP.ret rfl))))
  unfold impl_useOf.f
  exact EvP.ite (fun _ => j0 _) (fun _ => j0 _)
theorem use_of (c : Int) (xs ys : List Tn) : EvP (fun k => impl_useOf.f k (edOf c) xs ys) (· = useC c xs ys) := by
  obtain ⟨u1, u2, u3, u4⟩ := use_ok xs ys
  unfold edOf useC
  by_cases c1 : c = 105
  · rw [if_pos c1, if_pos c1]; exact u1
  rw [if_neg c1, if_neg c1]
  by_cases c2 : c = 107
  · rw [if_pos c2, if_pos c2]; exact u2
  rw [if_neg c2, if_neg c2]
  by_cases c3 : c = 111
  · rw [if_pos c3, if_pos c3]; exact u3
  rw [if_neg c3, if_neg c3]
  by_cases c4 : c = 114
  · rw [if_pos c4, if_pos c4]; exact u4
  rw [if_neg c4, if_neg c4]
  exact use_none xs ys
theorem impl_text (t : ByteArray) (ht : t.size ≤ 1048576) : ∀ d p : Nat, p + d = t.size → ∀ (xs ys : List Tn) (n : Int), 0 ≤ n → n ≤ 3 * (p : Int) → EvP (fun k => impl_alignmentSum.l0 k xs ys t n (t.size : Int) (p : Int)) (· = sumT t d p xs ys n) := by
  intro d
  induction d with
  | zero =>
    intro p hp xs ys n n0 n1
    refine EvP.succ ?_
    simp only [impl_alignmentSum.l0]
    refine EvP.no (by omega) (EvP.ite (fun h => EvP.ret ?_) (fun h => EvP.ret ?_))
    · have : xs.length = 0 := by omega
      simp [sumT, this]
      by_cases hy : ys = [] <;> simp [hy]
    · have : ¬ xs.length = 0 := by omega
      have hx : ¬ xs = [] := fun e => this (by rw [e]; rfl)
      simp [sumT, hx]
  | succ d ih =>
    intro p hp xs ys n n0 n1
    refine EvP.succ ?_
    simp only [impl_alignmentSum.l0]
    refine EvP.yes (by omega) (EvP.yes (by omega) (EvP.yes (by omega) ?_))
    refine EvP.bind (edit_of _) (fun _ e => ?_)
    subst e
    refine EvP.bind (use_of _ xs ys) (fun _ e => ?_)
    subst e
    rcases useC_ways (bt t (p : Int)) xs ys with h | ⟨x, y, c, h, hx, hy, c0, c3⟩
    · rw [sumT_end h, h]
      exact EvP.no (by decide) (EvP.ret rfl)
    · rw [sumT_go h, h]
      refine EvP.yes rfl (EvP.yes (by dsimp only; omega) (EvP.yes (by dsimp only; omega) (EvP.yes (by dsimp only; omega) (EvP.yes (by dsimp only; omega) ?_))))
      dsimp only
      rw [w64 (by omega) (by omega), w64 (by omega) (by omega)]
      exact ih (p + 1) (by omega) _ _ (n + c) (by omega) (by omega)
section
variable (t : ByteArray) (ht : t.size ≤ 1048576) (a b : List Tn) (ha : a.length ≤ 24) (hb : b.length ≤ 24)
include ht ha hb
end
def sumOf (a b : List Tn) (t : ByteArray) : Int × Bool := if okM a = true ∧ okM b = true then sumT t t.size 0 a b 0 else (0, false)
theorem impl_asum (a b : List Tn) (t : ByteArray) (ht : t.size ≤ 1048576) : EvP (fun k => impl_alignmentSum.f k a b t) (· = sumOf a b t) := by
  unfold impl_alignmentSum.f sumOf
  have jt : ∀ v : Int × Bool, v = (0, false) → EvP (fun k => impl_alignmentSum.j0 k a b t true) (· = v) := by
    intro v hv
    refine EvP.succ ?_
    simp only [impl_alignmentSum.j0]
    exact EvP.yes (by simp) (EvP.ret hv.symm)
  refine EvP.bind (P := (· = okM a)) (impl_melody a) (fun _ e => ?_)
  subst e
  refine EvP.ite (fun h1 => ?_) (fun h1 => jt _ (by rw [if_neg (fun h => h1 h.1)]))
  refine EvP.bind (P := (· = okM b)) (impl_melody b) (fun _ e => ?_)
  subst e
  by_cases h2 : okM b = true
  · rw [if_pos ⟨h1, h2⟩, h2]
    refine EvP.succ ?_
    simp only [impl_alignmentSum.j0, Bool.not_true]
    refine EvP.no (by simp) ?_
    exact impl_text t ht t.size 0 (by omega) a b 0 (by omega) (by omega)
  · rw [Bool.eq_false_iff.mpr h2]
    exact jt _ (by rw [if_neg (fun h => Bool.noConfusion h.2)])
end Go.Proofs.Ythpeiboobnnfgaa.Pur
end
section
namespace Go.Proofs.Ythpeiboobnnfgaa.Pur
open Go.RowKit Go.Proofs.YthpeiboobnnfgaaW.PrintWords Go.Proofs.YthpeiboobnnfgaaW.PrintMore Go.Proofs.Ythpeiboobnnfgaa.E Go.Proofs.Ythpeiboobnnfgaa.Ed
namespace LcostOf
theorem pay1 : impl_costOf.f 1 0 1 2 = some costP.ins := by simp [impl_costOf.f, costP]
theorem pay3 : impl_costOf.f 3 1 0 2 = some costP.om := by simp [impl_costOf.f, costP]
theorem pay2 (x y : Tn) (h : eqT x y = true) : impl_costOf.f 2 1 1 0 = some (costP.both x y) := by
  obtain rfl := (eqT_iff x y).mp h
  simp [impl_costOf.f, costP]
theorem pay4 (x y : Tn) (h : ¬ eqT x y = true) : impl_costOf.f 4 1 1 (if x.f0 = y.f0 then 1 else 3) = some (costP.both x y) := by
  unfold eqT at h
  by_cases h0 : x.f0 = y.f0
  · by_cases h1 : x.f1 = y.f1
    · simp [h0, h1] at h
    · simp [impl_costOf.f, costP, h0, h1]
  · simp [impl_costOf.f, costP, h0]
theorem bd (xs ys : List Tn) (hx : xs.length ≤ 24) (_hy : ys.length ≤ 24) : -24 ≤ least costP xs ys ∧ least costP xs ys ≤ 96 := by
  have := cost_bd xs ys
  omega
theorem bdp (x y : Tn) : -1 ≤ costP.both x y ∧ costP.both x y ≤ 3 ∧ -1 ≤ costP.ins ∧ costP.ins ≤ 3 ∧ -1 ≤ costP.om ∧ costP.om ≤ 3 := by
  unfold costP
  dsimp only
  split <;> (try split) <;> omega
def st (x : List (List Int)) (i k : Nat) : Option Int → List (List Int)
  | none => x
  | some u => putT x i k u
def comb : Option Int → Int → Int
  | none, v => v
  | some u, v => if v < u then v else u
section
variable (a b : List Tn) (ha : a.length ≤ 24) (hb : b.length ≤ 24) (Q : List (List Int) → Prop)
variable {x : List (List Int)} {i k : Nat} (D : Done costP a b x i (k + 1)) (hi : i ≤ a.length) (hk : k ≤ b.length)
include ha hb D hi hk
omit ha hb hi hk in
theorem rows (m : Option Int) : (st x i k m).length = a.length + 1 ∧ (∀ j, i ≤ j → j ≤ a.length → (rd_L4 (st x i k m) (j : Int)).length = b.length + 1) := by
  cases m with
  | none => exact ⟨D.len, fun j hj hj' => D.row j hj hj'⟩
  | some u => exact ⟨by rw [st, putT_length]; exact D.len, fun j hj hj' => by rw [st, rd_RL, putT_RL]; exact D.row j hj hj'⟩
omit ha hb in
theorem reads (m : Option Int) (s1 s2 : Nat) (h1 : i + s1 ≤ a.length) (h2 : k + s2 ≤ b.length) (hne : s1 + s2 ≠ 0) : T (st x i k m) (i + s1) (k + s2) = least costP (a.drop (i + s1)) (b.drop (k + s2)) := by
  have ht := D.told (i + s1) (k + s2) h1 h2 (by omega)
  cases m with
  | none => exact ht
  | some u =>
    rw [st, putT_T x i k _ _ u (by rw [D.len]; omega) (by rw [D.row i (Nat.le_refl _) hi]; omega), if_neg (by omega)]
    exact ht
omit ha hb D in
theorem skip (m : Option Int) (j : Nat) (hj : j < 4) (e : Int) (he : rd [1, 2, 3, 4] (j : Int) = e) (u : Int × Int × Int × Bool) (hu : EvP (fun n => impl_useOf.f n e (a.drop i) (b.drop k)) (· = u)) (ho : u.2.2.2 = false)
    (K : EvP (fun n => impl_leastSums_costOf.l2 n a b (st x i k m) (i : Int) (k : Int) m.isSome [1, 2, 3, 4] (([1, 2, 3, 4] : List Int).length : Int) ((j + 1 : Nat) : Int)) Q) :
    EvP (fun n => impl_leastSums_costOf.l2 n a b (st x i k m) (i : Int) (k : Int) m.isSome [1, 2, 3, 4] (([1, 2, 3, 4] : List Int).length : Int) (j : Int)) Q := by
  have hl : ([1, 2, 3, 4] : List Int).length = 4 := rfl
  refine EvP.succ ?_
  simp only [impl_leastSums_costOf.l2]
  refine EvP.yes (by omega) (EvP.yes (by omega) (EvP.yes (by omega) (EvP.yes (by omega) (EvP.yes (by omega) (EvP.yes (by omega) (EvP.yes (by omega) ?_))))))
  rw [he]
  refine EvP.bind (P := (· = u)) hu (fun _ h => ?_)
  subst h
  refine EvP.no (by rw [ho]; simp) ?_
  rw [w64 (by omega) (by omega)]
  exact K
theorem take (m : Option Int) (j : Nat) (hj : j < 4) (e : Int) (he : rd [1, 2, 3, 4] (j : Int) = e) (s1 s2 : Nat) (c pay : Int) (hu : EvP (fun n => impl_useOf.f n e (a.drop i) (b.drop k)) (· = ((s1 : Int), (s2 : Int), c, true)))
    (h1 : i + s1 ≤ a.length) (h2 : k + s2 ≤ b.length) (hne : s1 + s2 ≠ 0) (hF : impl_costOf.f e (s1 : Int) (s2 : Int) c = some pay) (hp : -1 ≤ pay ∧ pay ≤ 3)
    (K : EvP (fun n => impl_leastSums_costOf.l2 n a b (st x i k (some (comb m (pay + least costP (a.drop (i + s1)) (b.drop (k + s2)))))) (i : Int) (k : Int) true [1, 2, 3, 4] (([1, 2, 3, 4] : List Int).length : Int) ((j + 1 : Nat) : Int)) Q) :
    EvP (fun n => impl_leastSums_costOf.l2 n a b (st x i k m) (i : Int) (k : Int) m.isSome [1, 2, 3, 4] (([1, 2, 3, 4] : List Int).length : Int) (j : Int)) Q := by
  have hl : ([1, 2, 3, 4] : List Int).length = 4 := rfl
  obtain ⟨hx, hr⟩ := rows a b D m
  have hri := hr i (Nat.le_refl _) hi
  have hrs := hr (i + s1) (by omega) h1
  have b1 := bd (a.drop (i + s1)) (b.drop (k + s2)) (by rw [drop_len]; omega) (by rw [drop_len]; omega)
  have hv : Hd (wrap64 (pay + rd (rd_L4 (st x i k m) ((i + s1 : Nat) : Int)) ((k + s2 : Nat) : Int)) = pay + least costP (a.drop (i + s1)) (b.drop (k + s2))) := by
    refine Hd.mk ?_
    rw [rd_T, reads a b D hi hk m s1 s2 h1 h2 hne]
    exact w64 (by omega) (by omega)
  refine EvP.succ ?_
  simp only [impl_leastSums_costOf.l2]
  refine EvP.yes (by omega) (EvP.yes (by omega) (EvP.yes (by omega) (EvP.yes (by omega) (EvP.yes (by omega) (EvP.yes (by omega) (EvP.yes (by omega) ?_))))))
  rw [he]
  refine EvP.bind (P := (· = ((s1 : Int), (s2 : Int), c, true))) hu (fun _ h => ?_)
  subst h
  refine EvP.yes rfl ?_
  refine EvP.bind (P := (· = pay)) (EvP.con hF rfl) (fun pay' h => ?_)
  subst h
  have e1 : wrap64 ((i : Int) + (s1 : Int)) = ((i + s1 : Nat) : Int) := w64 (by omega) (by omega)
  have e2 : Hd (wrap64 ((k : Int) + (s2 : Int)) = ((k + s2 : Nat) : Int)) := Hd.mk (by clear e1; exact w64 (by omega) (by omega))
  have ej : Hd (wrap64 ((j : Int) + 1) = ((j + 1 : Nat) : Int)) := Hd.mk (by clear e1; exact w64 (by omega) (by omega))
  simp only [e1, e2.out, hv.out, ej.out]
  clear e1 e2 ej hv
  refine EvP.yes (by omega) (EvP.yes (by omega) (EvP.yes (by omega) (EvP.yes (by omega) ?_)))
  cases m with
  | none =>
    refine EvP.no (by simp) (EvP.yes (by omega) (EvP.yes (by omega) ?_))
    exact K
  | some u =>
    refine EvP.yes rfl (EvP.yes (by omega) (EvP.yes (by omega) ?_))
    have hu' : rd (rd_L4 (st x i k (some u)) (i : Int)) (k : Int) = u := by
      rw [rd_T, st, putT_T x i k i k u (by rw [D.len]; omega) (by rw [D.row i (Nat.le_refl _) hi]; omega), if_pos ⟨rfl, rfl⟩]
    rw [hu']
    refine EvP.ite (fun h => ?_) (fun h => ?_)
    · unfold comb at K
      dsimp only at K
      rw [if_pos h] at K
      have ep : st x i k (some (pay' + least costP (a.drop (i + s1)) (b.drop (k + s2)))) = putT (putT x i k u) i k (pay' + least costP (a.drop (i + s1)) (b.drop (k + s2))) := (putT_put x i k u _).symm
      rw [ep] at K
      exact K
    · unfold comb at K
      dsimp only at K
      rw [if_neg h] at K
      exact K
theorem cell (next : ∀ x', Done costP a b x' i k → EvP (fun n => impl_leastSums_costOf.l1 n a b x' (i : Int) ((k : Int) - 1)) Q) :
    EvP (fun n => impl_leastSums_costOf.l2 n a b x (i : Int) (k : Int) false [1, 2, 3, 4] (([1, 2, 3, 4] : List Int).length : Int) 0) Q := by
  have hl : ([1, 2, 3, 4] : List Int).length = 4 := rfl
  have fin : ∀ m, Done costP a b (st x i k m) i k → EvP (fun n => impl_leastSums_costOf.l2 n a b (st x i k m) (i : Int) (k : Int) m.isSome [1, 2, 3, 4] (([1, 2, 3, 4] : List Int).length : Int) ((4 : Nat) : Int)) Q := by
    intro m hm
    refine EvP.succ ?_
    simp only [impl_leastSums_costOf.l2]
    refine EvP.no (by omega) ?_
    rw [w64 (by omega) (by omega)]
    exact next _ hm
  have put : ∀ v, v = least costP (a.drop i) (b.drop k) → Done costP a b (st x i k (some v)) i k := fun v hv => D.put hi hk hv
  obtain ⟨u1, u2, u3, u4⟩ := use_ok (a.drop i) (b.drop k)
  have s0 := skip a b Q hi hk (x := x)
  have t0 := take a b ha hb Q D hi hk
  show EvP (fun n => impl_leastSums_costOf.l2 n a b (st x i k none) (i : Int) (k : Int) (none : Option Int).isSome [1, 2, 3, 4] (([1, 2, 3, 4] : List Int).length : Int) ((0 : Nat) : Int)) Q
  by_cases hia : i < a.length
  · have ea := drop_cons hia
    by_cases hkb : k < b.length
    · have eb := drop_cons hkb
      have bp := bdp a[i] b[k]
      have v1 : use1 (a.drop i) (b.drop k) = (((0 : Nat) : Int), ((1 : Nat) : Int), 2, true) := use1_true _ _ (by rw [drop_len]; omega)
      have v3 : use3 (a.drop i) (b.drop k) = (((1 : Nat) : Int), ((0 : Nat) : Int), 2, true) := use3_true _ _ (by rw [drop_len]; omega)
      rw [v1] at u1
      rw [v3] at u3
      refine t0 none 0 (by omega) 1 rfl 0 1 2 costP.ins u1 (by omega) (by omega) (by omega) pay1 (by omega) ?_
      have least_is := least_cc costP a[i] b[k] (a.drop (i + 1)) (b.drop (k + 1))
      rw [← ea, ← eb] at least_is
      by_cases he : eqT a[i] b[k] = true
      · have v2 : use2 (a.drop i) (b.drop k) = (((1 : Nat) : Int), ((1 : Nat) : Int), 0, true) := by rw [ea, eb]; simp [use2, he]
        have v4 : (use4 (a.drop i) (b.drop k)).2.2.2 = false := by rw [ea, eb]; simp [use4, he]
        rw [v2] at u2
        refine t0 (some _) 1 (by omega) 2 rfl 1 1 0 (costP.both a[i] b[k]) u2 (by omega) (by omega) (by omega) (pay2 _ _ he) (by omega) ?_
        refine t0 (some _) 2 (by omega) 3 rfl 1 0 2 costP.om u3 (by omega) (by omega) (by omega) pay3 (by omega) ?_
        refine s0 (some _) 3 (by omega) 4 rfl _ u4 v4 ?_
        refine fin (some _) (put _ ?_)
        rw [least_is]
        simp only [comb, Nat.add_zero]
        generalize least costP (a.drop i) (b.drop (k + 1)) = p1
        generalize least costP (a.drop (i + 1)) (b.drop (k + 1)) = p2
        generalize least costP (a.drop (i + 1)) (b.drop k) = p3
        (repeat' split) <;> omega
      · have v2 : (use2 (a.drop i) (b.drop k)).2.2.2 = false := by rw [ea, eb]; simp [use2, he]
        have v4 : use4 (a.drop i) (b.drop k) = (((1 : Nat) : Int), ((1 : Nat) : Int), (if a[i].f0 = b[k].f0 then 1 else 3), true) := by
          rw [ea, eb, show use4 (a[i] :: a.drop (i + 1)) (b[k] :: b.drop (k + 1)) = if eqT a[i] b[k] = true then (0, 0, 0, false) else if a[i].f0 = b[k].f0 then (1, 1, 1, true) else (1, 1, 3, true) from rfl, if_neg he]
          split <;> rfl
        rw [v4] at u4
        refine s0 (some _) 1 (by omega) 2 rfl _ u2 v2 ?_
        refine t0 (some _) 2 (by omega) 3 rfl 1 0 2 costP.om u3 (by omega) (by omega) (by omega) pay3 (by omega) ?_
        refine t0 (some _) 3 (by omega) 4 rfl 1 1 _ (costP.both a[i] b[k]) u4 (by omega) (by omega) (by omega) (pay4 _ _ he) (by omega) ?_
        refine fin (some _) (put _ ?_)
        rw [least_is]
        simp only [comb, Nat.add_zero]
        generalize least costP (a.drop i) (b.drop (k + 1)) = p1
        generalize least costP (a.drop (i + 1)) (b.drop (k + 1)) = p2
        generalize least costP (a.drop (i + 1)) (b.drop k) = p3
        (repeat' split) <;> omega
    · have eb : b.drop k = [] := List.drop_of_length_le (by omega)
      have bp := bdp a[i] a[i]
      have v1 : (use1 (a.drop i) (b.drop k)).2.2.2 = false := use1_false _ _ (by rw [drop_len]; omega)
      have v2 : (use2 (a.drop i) (b.drop k)).2.2.2 = false := by rw [eb, ea]; simp [use2]
      have v3 : use3 (a.drop i) (b.drop k) = (((1 : Nat) : Int), ((0 : Nat) : Int), 2, true) := use3_true _ _ (by rw [drop_len]; omega)
      have v4 : (use4 (a.drop i) (b.drop k)).2.2.2 = false := by rw [eb, ea]; simp [use4]
      rw [v3] at u3
      refine s0 none 0 (by omega) 1 rfl _ u1 v1 ?_
      refine s0 none 1 (by omega) 2 rfl _ u2 v2 ?_
      refine t0 none 2 (by omega) 3 rfl 1 0 2 costP.om u3 (by omega) (by omega) (by omega) pay3 (by omega) ?_
      refine s0 (some _) 3 (by omega) 4 rfl _ u4 v4 ?_
      refine fin (some _) (put _ ?_)
      simp only [comb, Nat.add_zero]
      rw [eb, ea, least_cn]
  · have ea : a.drop i = [] := List.drop_of_length_le (by omega)
    have v2 : (use2 (a.drop i) (b.drop k)).2.2.2 = false := by rw [ea]; simp [use2]
    have v3 : (use3 (a.drop i) (b.drop k)).2.2.2 = false := use3_false _ _ (by rw [drop_len]; omega)
    have v4 : (use4 (a.drop i) (b.drop k)).2.2.2 = false := by rw [ea]; simp [use4]
    by_cases hkb : k < b.length
    · have eb := drop_cons hkb
      have bp := bdp b[k] b[k]
      have v1 : use1 (a.drop i) (b.drop k) = (((0 : Nat) : Int), ((1 : Nat) : Int), 2, true) := use1_true _ _ (by rw [drop_len]; omega)
      rw [v1] at u1
      refine t0 none 0 (by omega) 1 rfl 0 1 2 costP.ins u1 (by omega) (by omega) (by omega) pay1 (by omega) ?_
      refine s0 (some _) 1 (by omega) 2 rfl _ u2 v2 ?_
      refine s0 (some _) 2 (by omega) 3 rfl _ u3 v3 ?_
      refine s0 (some _) 3 (by omega) 4 rfl _ u4 v4 ?_
      refine fin (some _) (put _ ?_)
      simp only [comb, Nat.add_zero]
      rw [ea, eb, least_nc]
    · have eb : b.drop k = [] := List.drop_of_length_le (by omega)
      have v1 : (use1 (a.drop i) (b.drop k)).2.2.2 = false := use1_false _ _ (by rw [drop_len]; omega)
      refine s0 none 0 (by omega) 1 rfl _ u1 v1 ?_
      refine s0 none 1 (by omega) 2 rfl _ u2 v2 ?_
      refine s0 none 2 (by omega) 3 rfl _ u3 v3 ?_
      refine s0 none 3 (by omega) 4 rfl _ u4 v4 ?_
      refine fin none ?_
      obtain rfl : i = a.length := by omega
      obtain rfl : k = b.length := by omega
      exact D.stay
end
section
variable (a b : List Tn) (ha : a.length ≤ 24) (hb : b.length ≤ 24) (Q : List (List Int) → Prop)
include ha hb
theorem row (i : Nat) (hi : i ≤ a.length) (next : ∀ x, Done costP a b x i 0 → EvP (fun n => impl_leastSums_costOf.l0 n a b x (wrap64 ((i : Int) - 1))) Q) :
    ∀ k1 : Nat, k1 ≤ b.length + 1 → ∀ x, Done costP a b x i k1 → EvP (fun n => impl_leastSums_costOf.l1 n a b x (i : Int) ((k1 : Int) - 1)) Q := by
  intro k1
  induction k1 with
  | zero =>
    intro _ x D
    refine EvP.succ ?_
    simp only [impl_leastSums_costOf.l1]
    exact EvP.no (by omega) (next x D)
  | succ k ih =>
    intro hk x D
    have ek : (((k + 1 : Nat) : Int) - 1) = (k : Int) := by omega
    rw [ek]
    refine EvP.succ ?_
    simp only [impl_leastSums_costOf.l1]
    refine EvP.yes (by omega) ?_
    refine EvP.bind (P := (· = [1, 2, 3, 4])) (EvP.con rfl rfl) (fun _ h => ?_)
    subst h
    exact cell a b ha hb Q D hi (by omega) (fun x' D' => ih (by omega) x' D')
theorem lines (hQ : ∀ x, Full costP a b x → Q x) :
    ∀ i1 : Nat, i1 ≤ a.length + 1 → ∀ x, x.length = a.length + 1 → (∀ j, i1 ≤ j → j ≤ a.length → RL x j = b.length + 1) → (∀ j l, j ≤ a.length → l ≤ b.length → i1 ≤ j → T x j l = least costP (a.drop j) (b.drop l)) →
      EvP (fun n => impl_leastSums_costOf.l0 n a b x ((i1 : Int) - 1)) Q := by
  intro i1
  induction i1 with
  | zero =>
    intro _ x hx hr ht
    refine EvP.succ ?_
    simp only [impl_leastSums_costOf.l0]
    refine EvP.no (by omega) ?_
    exact (EvP.ret (hQ x ⟨hx, fun j hj => hr j (Nat.zero_le _) hj, fun j l hj hl => ht j l hj hl (Nat.zero_le _)⟩))
  | succ i ih =>
    intro hi x hx hr ht
    have ei : (((i + 1 : Nat) : Int) - 1) = (i : Int) := by omega
    have eb : wrap64 ((b.length : Int) + 1) = ((b.length + 1 : Nat) : Int) := w64 (by omega) (by omega)
    rw [ei]
    refine EvP.succ ?_
    simp only [impl_leastSums_costOf.l0]
    refine EvP.yes (by omega) ?_
    rw [eb]
    refine EvP.yes (by omega) (EvP.yes (by omega) (EvP.yes (by omega) (EvP.yes (by omega) ?_)))
    have D : Done costP a b (x.set i (List.replicate (b.length + 1) 0)) i (b.length + 1) := Done.new hx (fun j hj hj' => hr j (by omega) hj') (fun j l hj hl hij => ht j l hj hl (by omega)) (by omega)
    have eb' : (((b.length + 1 : Nat) : Int) - 1) = (b.length : Int) := by omega
    have := row a b ha hb Q i (by omega) (fun x' D' => by
      rw [w64 (by omega) (by omega)]
      exact ih (by omega) x' D'.len (fun j hj hj' => D'.row j (by omega) hj') (fun j l hj hl hij => D'.told j l hj hl (by omega))) (b.length + 1) (Nat.le_refl _) _ D
    rw [eb'] at this
    exact this
end
end LcostOf
theorem impl_sums_costOf (a b : List Tn) (ha : a.length ≤ 24) (hb : b.length ≤ 24) : EvP (fun n => impl_leastSums_costOf.f n a b) (Full costP a b) := by
  unfold impl_leastSums_costOf.f
  have ea : wrap64 ((a.length : Int) + 1) = ((a.length + 1 : Nat) : Int) := w64 (by omega) (by omega)
  rw [ea]
  refine EvP.yes (by omega) (EvP.yes (by omega) ?_)
  have := LcostOf.lines a b ha hb (Full costP a b) (fun _ h => h) (a.length + 1) (Nat.le_refl _) (List.replicate (a.length + 1) []) (by simp) (fun j hj hj' => by omega) (fun j l hj hl hij => by omega)
  rw [show (((a.length + 1 : Nat) : Int) - 1) = (a.length : Int) by omega] at this
  exact this
end Go.Proofs.Ythpeiboobnnfgaa.Pur
end
section
namespace Go.Proofs.Ythpeiboobnnfgaa.Pur
open Go.RowKit Go.Proofs.YthpeiboobnnfgaaW.PrintWords Go.Proofs.YthpeiboobnnfgaaW.PrintMore Go.Proofs.Ythpeiboobnnfgaa.E Go.Proofs.Ythpeiboobnnfgaa.Ed
def letterOf (xs ys : List Tn) : Int :=
  if (use1 xs ys).2.2.2 = true ∧ 2 + least costP xs (ys.drop 1) = least costP xs ys then 105
  else if (use2 xs ys).2.2.2 = true ∧ least costP (xs.drop 1) (ys.drop 1) = least costP xs ys then 107
  else if (use3 xs ys).2.2.2 = true ∧ 2 + least costP (xs.drop 1) ys = least costP xs ys then 111
  else 114
def txt : Nat → List Tn → List Tn → List Int
  | 0, _, _ => []
  | m + 1, xs, ys => if xs.length = 0 ∧ ys.length = 0 then [] else letterOf xs ys :: txt m (xs.drop (if letterOf xs ys = 105 then 0 else 1)) (ys.drop (if letterOf xs ys = 111 then 0 else 1))
theorem txt_go {m : Nat} {xs ys : List Tn} {v : Int} {dx dy : Nat} (h : ¬ (xs.length = 0 ∧ ys.length = 0)) (hv : letterOf xs ys = v) (hx : (if v = 105 then 0 else 1) = dx) (hy : (if v = 111 then 0 else 1) = dy) : txt (m + 1) xs ys = v :: txt m (xs.drop dx) (ys.drop dy) := by
  rw [txt, if_neg h, hv, hx, hy]
theorem txt_end {m : Nat} {xs ys : List Tn} (h : xs.length = 0 ∧ ys.length = 0) : txt m xs ys = [] := by
  cases m with
  | zero => rfl
  | succ m => rw [txt, if_pos h]
theorem last_way (xs ys : List Tn) (h : ¬ (xs.length = 0 ∧ ys.length = 0)) (h1 : ¬ ((use1 xs ys).2.2.2 = true ∧ 2 + least costP xs (ys.drop 1) = least costP xs ys)) (h2 : ¬ ((use2 xs ys).2.2.2 = true ∧ least costP (xs.drop 1) (ys.drop 1) = least costP xs ys)) (h3 : ¬ ((use3 xs ys).2.2.2 = true ∧ 2 + least costP (xs.drop 1) ys = least costP xs ys)) :
    ∃ x xs' y ys', xs = x :: xs' ∧ ys = y :: ys' ∧ ¬ eqT x y = true ∧ (if x.f0 = y.f0 then (1 : Int) else 3) + least costP xs' ys' = least costP xs ys := by
  cases xs with
  | nil =>
    cases ys with
    | nil => exact absurd ⟨rfl, rfl⟩ h
    | cons y ys => exact absurd ⟨by simp [use1], by rw [least_nc]; rfl⟩ h1
  | cons x xs =>
    cases ys with
    | nil => exact absurd ⟨by simp [use3], by rw [least_cn]; rfl⟩ h3
    | cons y ys =>
      have k1 : ¬ 2 + least costP (x :: xs) ys = least costP (x :: xs) (y :: ys) := fun e => h1 ⟨by simp [use1], e⟩
      have k3 : ¬ 2 + least costP xs (y :: ys) = least costP (x :: xs) (y :: ys) := fun e => h3 ⟨by simp [use3], e⟩
      have L := least_cc costP x y xs ys
      rw [show costP.ins = 2 from rfl, show costP.om = 2 from rfl] at L
      have hb : costP.both x y + least costP xs ys = least costP (x :: xs) (y :: ys) := by omega
      by_cases he : eqT x y = true
      · have e := (eqT_iff x y).mp he
        have z : costP.both x y = 0 := by rw [e]; exact costC.same y
        exact absurd ⟨he, by rw [z] at hb; rw [← hb]; simp⟩ h2
      · refine ⟨x, xs, y, ys, rfl, rfl, he, ?_⟩
        rw [← hb]
        have : costP.both x y = if x.f0 = y.f0 then (1 : Int) else 3 := by
          show (if x.f0 = y.f0 then (if x.f1 = y.f1 then (0 : Int) else 1) else 3) = _
          by_cases h0 : x.f0 = y.f0
          · by_cases h1 : x.f1 = y.f1
            · exact absurd ((eqT_iff x y).mpr (tn_ext h0 h1)) he
            · rw [if_pos h0, if_neg h1, if_pos h0]
          · rw [if_neg h0, if_neg h0]
        rw [this]
end Go.Proofs.Ythpeiboobnnfgaa.Pur
end
section
namespace Go.Proofs.Ythpeiboobnnfgaa.Pur
open Go.RowKit Go.Proofs.YthpeiboobnnfgaaW.PrintWords Go.Proofs.YthpeiboobnnfgaaW.PrintMore Go.Proofs.Ythpeiboobnnfgaa.E Go.Proofs.Ythpeiboobnnfgaa.Ed
def lets (t : ByteArray) (p d : Nat) : List Int := (List.range' p d).map (fun j : Nat => bt t (j : Int))
def goL : List Int → List Tn → List Tn → Int → Int × Bool
  | [], xs, ys, n => (n, decide (xs.length = 0) && decide (ys.length = 0))
  | c :: cs, xs, ys, n => if (useC c xs ys).2.2.2 = true then goL cs (xs.drop (useC c xs ys).1.toNat) (ys.drop (useC c xs ys).2.1.toNat) (n + (useC c xs ys).2.2.1) else (0, false)
theorem sumT_goL (t : ByteArray) : ∀ (d p : Nat) (xs ys : List Tn) (n : Int), sumT t d p xs ys n = goL (lets t p d) xs ys n := by
  intro d
  induction d with
  | zero => intro p xs ys n; rfl
  | succ d ih =>
    intro p xs ys n
    rw [show lets t p (d + 1) = bt t (p : Int) :: lets t (p + 1) d from rfl, sumT, goL, ih]
theorem useC_i (xs : List Tn) (y : Tn) (ys : List Tn) : useC 105 xs (y :: ys) = (((0 : Nat) : Int), ((1 : Nat) : Int), 2, true) := use1_true xs (y :: ys) (by simp)
theorem useC_k (x : Tn) (xs : List Tn) (y : Tn) (ys : List Tn) (h : eqT x y = true) : useC 107 (x :: xs) (y :: ys) = (((1 : Nat) : Int), ((1 : Nat) : Int), 0, true) := use2_same x y xs ys h
theorem useC_o (x : Tn) (xs ys : List Tn) : useC 111 (x :: xs) ys = (((1 : Nat) : Int), ((0 : Nat) : Int), 2, true) := use3_true (x :: xs) ys (by simp)
theorem useC_r (x : Tn) (xs : List Tn) (y : Tn) (ys : List Tn) (h : ¬ eqT x y = true) : useC 114 (x :: xs) (y :: ys) = (((1 : Nat) : Int), ((1 : Nat) : Int), (if x.f0 = y.f0 then 1 else 3), true) := use4_not x y xs ys h
theorem goL_go {c : Int} {cs : List Int} {xs ys : List Tn} {n k : Int} {x y : Nat} (h : useC c xs ys = ((x : Int), (y : Int), k, true)) : goL (c :: cs) xs ys n = goL cs (xs.drop x) (ys.drop y) (n + k) := by
  rw [goL, h]
  rfl
inductive AlL : List Int → List Tn → List Tn → Int → Prop
  | nil : AlL [] [] [] 0
  | ins (y : Tn) {cs : List Int} {xs ys : List Tn} {n : Int} : AlL cs xs ys n → AlL (105 :: cs) xs (y :: ys) (2 + n)
  | keep (x y : Tn) {cs : List Int} {xs ys : List Tn} {n : Int} : eqT x y = true → AlL cs xs ys n → AlL (107 :: cs) (x :: xs) (y :: ys) (0 + n)
  | om (x : Tn) {cs : List Int} {xs ys : List Tn} {n : Int} : AlL cs xs ys n → AlL (111 :: cs) (x :: xs) ys (2 + n)
  | repl (x y : Tn) {cs : List Int} {xs ys : List Tn} {n : Int} : ¬ eqT x y = true → AlL cs xs ys n → AlL (114 :: cs) (x :: xs) (y :: ys) ((if x.f0 = y.f0 then 1 else 3) + n)
theorem AlL.eq {cs : List Int} {xs ys : List Tn} {n m : Int} (h : AlL cs xs ys n) (e : n = m) : AlL cs xs ys m := e ▸ h
theorem al_goL {cs : List Int} {xs ys : List Tn} {k : Int} (h : AlL cs xs ys k) : ∀ n, goL cs xs ys n = (n + k, true) := by
  induction h with
  | nil => intro n; simp [goL]
  | ins y _ ih => intro n; rw [goL_go (useC_i _ y _)]; exact (ih _).trans (by rw [Int.add_assoc])
  | keep x y he _ ih => intro n; rw [goL_go (useC_k x _ y _ he)]; exact (ih _).trans (by rw [Int.add_assoc])
  | om x _ ih => intro n; rw [goL_go (useC_o x _ _)]; exact (ih _).trans (by rw [Int.add_assoc])
  | repl x y he _ ih => intro n; rw [goL_go (useC_r x _ y _ he)]; exact (ih _).trans (by rw [Int.add_assoc])
def others (c : Int) (cs : List Int) : Nat := (cs.filter (fun x => !(x == c))).length
def these (c : Int) (cs : List Int) : Nat := (cs.filter (fun x => x == c)).length
theorem AlL.first {cs : List Int} {xs ys : List Tn} {n : Int} (h : AlL cs xs ys n) : others 105 cs = xs.length := by
  induction h with
  | nil => rfl
  | ins y _ ih => simpa [others] using ih
  | keep x y he _ ih => simpa [others] using ih
  | om x _ ih => simpa [others] using ih
  | repl x y he _ ih => simpa [others] using ih
theorem AlL.second {cs : List Int} {xs ys : List Tn} {n : Int} (h : AlL cs xs ys n) : others 111 cs = ys.length := by
  induction h with
  | nil => rfl
  | ins y _ ih => simpa [others] using ih
  | keep x y he _ ih => simpa [others] using ih
  | om x _ ih => simpa [others] using ih
  | repl x y he _ ih => simpa [others] using ih
def opp (c : Int) : Int := if c = 105 then 111 else if c = 111 then 105 else c
theorem txt_al : ∀ (m : Nat) (xs ys : List Tn), xs.length + ys.length ≤ m → AlL (txt m xs ys) xs ys (least costP xs ys) := by
  intro m
  induction m with
  | zero =>
    intro xs ys h
    obtain rfl := List.eq_nil_of_length_eq_zero (show xs.length = 0 by omega)
    obtain rfl := List.eq_nil_of_length_eq_zero (show ys.length = 0 by omega)
    exact AlL.nil.eq (least_nn costP).symm
  | succ m ih =>
    intro xs ys hm
    by_cases h : xs.length = 0 ∧ ys.length = 0
    · rw [txt_end h]
      obtain rfl := List.eq_nil_of_length_eq_zero h.1
      obtain rfl := List.eq_nil_of_length_eq_zero h.2
      exact AlL.nil.eq (least_nn costP).symm
    by_cases h1 : (use1 xs ys).2.2.2 = true ∧ 2 + least costP xs (ys.drop 1) = least costP xs ys
    · rw [txt_go h (v := 105) (dx := 0) (dy := 1) (by unfold letterOf; rw [if_pos h1]) rfl rfl]
      cases ys with
      | nil => exact absurd h1.1 (by simp [use1])
      | cons y ys => exact (AlL.ins y (ih xs ys (by simp at hm; omega))).eq h1.2
    by_cases h2 : (use2 xs ys).2.2.2 = true ∧ least costP (xs.drop 1) (ys.drop 1) = least costP xs ys
    · rw [txt_go h (v := 107) (dx := 1) (dy := 1) (by unfold letterOf; rw [if_neg h1, if_pos h2]) rfl rfl]
      cases xs with
      | nil => exact absurd h2.1 (by simp [use2])
      | cons x xs => cases ys with
        | nil => exact absurd h2.1 (by simp [use2])
        | cons y ys => exact (AlL.keep x y (by simpa [use2] using h2.1) (ih xs ys (by simp at hm; omega))).eq (by rw [← h2.2]; simp)
    by_cases h3 : (use3 xs ys).2.2.2 = true ∧ 2 + least costP (xs.drop 1) ys = least costP xs ys
    · rw [txt_go h (v := 111) (dx := 1) (dy := 0) (by unfold letterOf; rw [if_neg h1, if_neg h2, if_pos h3]) rfl rfl]
      cases xs with
      | nil => exact absurd h3.1 (by simp [use3])
      | cons x xs => exact (AlL.om x (ih xs ys (by simp at hm; omega))).eq h3.2
    · rw [txt_go h (v := 114) (dx := 1) (dy := 1) (by unfold letterOf; rw [if_neg h1, if_neg h2, if_neg h3]) rfl rfl]
      obtain ⟨x, xs', y, ys', rfl, rfl, he, hl⟩ := last_way xs ys h h1 h2 h3
      exact (AlL.repl x y he (ih xs' ys' (by simp at hm; omega))).eq hl
def leL : List Int → List Int → Prop
  | [], _ => True
  | _ :: _, [] => False
  | a :: x, b :: y => a < b ∨ a = b ∧ leL x y
end Go.Proofs.Ythpeiboobnnfgaa.Pur
end
section
namespace Go.Proofs.Ythpeiboobnnfgaa.Pur
open Go.RowKit Go.Proofs.YthpeiboobnnfgaaW.PrintWords Go.Proofs.YthpeiboobnnfgaaW.PrintMore Go.Proofs.Ythpeiboobnnfgaa.E
def okB (B : List Int) : Prop := B.length ≤ 2000 ∧ ∀ x ∈ B, 0 ≤ x ∧ x ≤ 255
theorem byte_range {x : Int} (h : (Lit.int .u8 x).wf = true) : 0 ≤ x ∧ x ≤ 255 := by
  simp [Lit.wf, IntKind.min, IntKind.max, IntKind.signed, IntKind.bits] at h
  omega
theorem okB_rd {B : List Int} (h : okB B) (i : Int) : 0 ≤ rd B i ∧ rd B i ≤ 255 := by
  unfold rd
  rw [List.getD_eq_getElem?_getD]
  cases e : B[i.toNat]? with
  | none => simp
  | some v => simpa using h.2 v (List.mem_of_getElem? e)
theorem open_code (l : List Int) (h : ∀ x ∈ l, (Lit.int .u8 x).wf = true) : EvP (fun _ => spec_l6Open.f l) (fun r => okB r.1 ∧ r.2 = 0) := by
  unfold spec_l6Open.f
  refine EvP.ite (fun h1 => EvP.yes (by omega) (EvP.ret ⟨⟨by simp; omega, fun x hx => byte_range (h x (List.mem_of_mem_take hx))⟩, rfl⟩)) (fun h1 => EvP.ret ⟨⟨by dsimp only; omega, fun x hx => byte_range (h x hx)⟩, rfl⟩)
theorem xor_nn {x y : Int} (hx : 0 ≤ x) (hx' : x < 4611686018427387904) (hy : 0 ≤ y) (hy' : y < 4611686018427387904) : 0 ≤ Go.bits .xor .i64 x y := by
  obtain ⟨a, rfl⟩ := Int.eq_ofNat_of_zero_le hx
  obtain ⟨b, rfl⟩ := Int.eq_ofNat_of_zero_le hy
  have ha : a < 2 ^ 62 := by omega
  have hb : b < 2 ^ 62 := by omega
  have hx : a ^^^ b < 2 ^ 62 := Nat.xor_lt_two_pow ha hb
  have ea : a % 2 ^ IntKind.i64.bits = a := Nat.mod_eq_of_lt (by simp [IntKind.bits]; omega)
  have eb : b % 2 ^ IntKind.i64.bits = b := Nat.mod_eq_of_lt (by simp [IntKind.bits]; omega)
  simp only [Go.bits, BitVec.ofInt_natCast, BitVec.toNat_xor, BitVec.toNat_ofNat, ea, eb]
  rw [IntKind.wrap_i64]
  omega
theorem mix_ok (E n : Int) (h0 : 0 ≤ E) (h1 : E < 4611686018427387904) (hn : 1 ≤ n) :
    0 ≤ Int.tmod (Go.bits .xor .i64 E (wrap64 (Int.tdiv E 64))) n ∧ Int.tmod (Go.bits .xor .i64 E (wrap64 (Int.tdiv E 64))) n < n := by
  have hd : Int.tdiv E 64 = E / 64 := tdiv_pos 64 h0
  have h2 := xor_nn h0 h1 (y := wrap64 (Int.tdiv E 64)) (by rw [hd, w64 (by omega) (by omega)]; omega) (by rw [hd, w64 (by omega) (by omega)]; omega)
  exact ⟨Int.tmod_nonneg n h2, Int.tmod_lt_of_pos _ (by omega)⟩
theorem mixE (r1 r2 p q : Int) (a1 : 0 ≤ r1 ∧ r1 ≤ 255) (a2 : 0 ≤ r2 ∧ r2 ≤ 255) (hp : 0 ≤ p ∧ p ≤ 1000000000) (hq : 0 ≤ q ∧ q ≤ 1000000000) :
    (wrap64 ((wrap64 ((wrap64 ((wrap64 ((wrap64 r1) * 131)) + (wrap64 ((wrap64 r2) * 1117)))) + (wrap64 (p * 29)))) + (wrap64 ((wrap64 q) * 53)))) = r1 * 131 + r2 * 1117 + p * 29 + q * 53 := by
  rw [w64 (i := r1) (by omega) (by omega), w64 (i := r2) (by omega) (by omega), w64 (i := q) (by omega) (by omega), w64 (i := r1 * 131) (by omega) (by omega), w64 (i := r2 * 1117) (by omega) (by omega), w64 (i := p * 29) (by omega) (by omega),
    w64 (i := q * 53) (by omega) (by omega), w64 (i := r1 * 131 + r2 * 1117) (by omega) (by omega), w64 (i := r1 * 131 + r2 * 1117 + p * 29) (by omega) (by omega), w64 (by omega) (by omega)]
theorem pick_ok {B : List Int} (hB : okB B) (p n : Int) (hp : 0 ≤ p ∧ p ≤ 100000000) (hn : 1 ≤ n ∧ n ≤ 1000000) : EvP (fun k => spec_l6Rd_pick.f k B p n) (fun r => 0 ≤ r.1 ∧ r.1 < n ∧ r.2 = p + 1) := by
  unfold spec_l6Rd_pick.f
  have e1 : wrap64 (p + 1) = p + 1 := w64 (by omega) (by omega)
  have e2 : wrap64 (p + 1 - 1) = p := by rw [w64 (by omega) (by omega)]; omega
  have hl := hB.1
  rw [e1]
  refine EvP.no (by omega) ?_
  refine EvP.succ ?_
  simp only [spec_l6Rd_pick.j0, e2]
  clear e1 e2
  refine EvP.ite (fun h0 => EvP.ret ⟨by omega, by dsimp only; omega, rfl⟩) (fun h0 => ?_)
  have hpos : 0 < (B.length : Int) := by
    rw [beq_iff_eq] at h0
    omega
  refine EvP.ite (fun h1 => ?_) (fun h1 => ?_)
  · have hr := okB_rd hB p
    refine EvP.yes (by omega) (EvP.no (by omega) (EvP.ret ⟨?_, ?_, rfl⟩))
    · rw [w64 (by omega) (by omega)]; exact Int.tmod_nonneg n hr.1
    · exact Int.tmod_lt_of_pos _ (by omega)
  · refine EvP.no (by omega) ?_
    have m1 : Int.tmod p (B.length : Int) = p % (B.length : Int) := tmod_pos _ hp.1
    have hm1 : 0 ≤ Int.tmod p (B.length : Int) ∧ Int.tmod p (B.length : Int) < (B.length : Int) := by rw [m1]; exact ⟨Int.emod_nonneg _ (by omega), Int.emod_lt_of_pos _ hpos⟩
    have e3 : wrap64 ((wrap64 (p * 7)) + 3) = p * 7 + 3 := by rw [w64 (i := p * 7) (by omega) (by omega), w64 (by omega) (by omega)]
    rw [e3]
    clear e3
    have hm2 : 0 ≤ Int.tmod (p * 7 + 3) (B.length : Int) ∧ Int.tmod (p * 7 + 3) (B.length : Int) < (B.length : Int) := by rw [tmod_pos _ (by omega)]; exact ⟨Int.emod_nonneg _ (by omega), Int.emod_lt_of_pos _ hpos⟩
    have hq : 0 ≤ Int.tdiv p (B.length : Int) ∧ Int.tdiv p (B.length : Int) ≤ 1000000000 := by
      rw [tdiv_pos _ hp.1]
      have := Int.ediv_le_self (B.length : Int) hp.1
      exact ⟨Int.ediv_nonneg hp.1 (by omega), by omega⟩
    have a1 := okB_rd hB (Int.tmod p (B.length : Int))
    have a2 := okB_rd hB (Int.tmod (p * 7 + 3) (B.length : Int))
    refine EvP.yes hm1.1 (EvP.yes hm1.2 (EvP.yes hm2.1 (EvP.yes hm2.2 (EvP.no (by omega) ?_))))
    rw [mixE _ _ p _ a1 a2 (by omega) hq]
    have := mix_ok (rd B (Int.tmod p (B.length : Int)) * 131 + rd B (Int.tmod (p * 7 + 3) (B.length : Int)) * 1117 + p * 29 + Int.tdiv p (B.length : Int) * 53) n (by omega) (by omega) hn.1
    exact EvP.ret ⟨this.1, this.2, rfl⟩
end Go.Proofs.Ythpeiboobnnfgaa.Pur
end
section
namespace Go.Proofs.Ythpeiboobnnfgaa.Pur
open Go.RowKit Go.Proofs.YthpeiboobnnfgaaW.PrintWords Go.Proofs.YthpeiboobnnfgaaW.PrintMore Go.Proofs.Ythpeiboobnnfgaa.E
theorem step_in {v : Int} : 1 ≤ mx 1 (mn 15 v) ∧ mx 1 (mn 15 v) ≤ 15 := by unfold mx mn; omega
theorem melody_loop {B : List Int} (hB : okB B) (n : Int) (hn : 0 ≤ n ∧ n ≤ 200) : ∀ (d : Nat) (i : Int) (acc : List S36) (s p : Int), 0 ≤ i → i + d = n → (acc.length : Int) = i → 1 ≤ s → s ≤ 15 → 0 ≤ p → p ≤ 1000000 - 10 * d →
    EvP (fun k => spec_l91Melody.l0 k acc n s i B p) (fun r => (r.1.length : Int) = n ∧ 0 ≤ r.2 ∧ r.2 ≤ p + 2 * d + 2) := by
  intro d
  induction d with
  | zero =>
    intro i acc s p hi hd ha hs0 hs1 hp0 hp1
    refine EvP.succ ?_
    simp only [spec_l91Melody.l0]
    refine EvP.no (by omega) ?_
    refine EvP.ite (fun hpos => ?_) (fun _ => EvP.ret ⟨by dsimp only; omega, hp0, by dsimp only; omega⟩)
    refine EvP.bind (pick_ok hB p 50 (by omega) (by omega)) (fun r hr => ?_)
    refine EvP.ite (fun _ => ?_) (fun _ => EvP.ite (fun _ => ?_) (fun _ => EvP.ret ⟨by dsimp only; omega, by dsimp only; omega, by dsimp only; omega⟩))
    · refine EvP.bind (P := (· = [(-1), 21, 20])) (EvP.con rfl rfl) (fun _ e => ?_)
      subst e
      refine EvP.bind (pick_ok hB r.2 3 (by omega) (by omega)) (fun q hq => ?_)
      have h3 : (([(-1), 21, 20] : List Int).length : Int) = 3 := rfl
      exact EvP.yes hq.1 (EvP.yes (by omega) (EvP.yes (by omega) (EvP.ret ⟨by simp; omega, by dsimp only; omega, by dsimp only; omega⟩)))
    · rw [w64 (by omega) (by omega)]
      exact EvP.yes (by omega) (EvP.yes (by omega) (EvP.ret ⟨by simp; omega, by dsimp only; omega, by dsimp only; omega⟩))
  | succ d ih =>
    intro i acc s p hi hd ha hs0 hs1 hp0 hp1
    refine EvP.succ ?_
    simp only [spec_l91Melody.l0]
    refine EvP.yes (by omega) ?_
    refine EvP.bind (P := (· = Int.tmod s 7)) (EvP.con rfl rfl) (fun _ e => ?_)
    subst e
    have ei : Hd (wrap64 (i + 1) = i + 1) := ⟨w64 (by omega) (by omega)⟩
    refine EvP.ite (fun _ => ?_) (fun _ => ?_)
    · refine EvP.bind (pick_ok hB p 3 (by omega) (by omega)) (fun r hr => ?_)
      refine EvP.yes (by omega) ?_
      refine EvP.bind (pick_ok hB r.2 5 (by omega) (by omega)) (fun q hq => ?_)
      rw [ei.out]
      have sn := step_in (v := wrap64 ((wrap64 (s + q.1)) - 2))
      refine (ih (i + 1) _ _ q.2 (by omega) (by omega) (by simp; omega) sn.1 sn.2 (by omega) (by omega)).mono (fun r' h => ⟨h.1, h.2.1, by omega⟩)
    · refine EvP.yes (by omega) ?_
      refine EvP.bind (pick_ok hB p 5 (by omega) (by omega)) (fun q hq => ?_)
      rw [ei.out]
      have sn := step_in (v := wrap64 ((wrap64 (s + q.1)) - 2))
      refine (ih (i + 1) _ _ q.2 (by omega) (by omega) (by simp; omega) sn.1 sn.2 (by omega) (by omega)).mono (fun r' h => ⟨h.1, h.2.1, by omega⟩)
theorem melody_ok {B : List Int} (hB : okB B) (p most : Int) (hp : 0 ≤ p ∧ p ≤ 100000) (hm : 0 ≤ most ∧ most ≤ 100) :
    EvP (fun k => spec_l91Melody.f k B p most) (fun r => (r.1.length : Int) ≤ most ∧ 0 ≤ r.2 ∧ r.2 ≤ p + 2 * most + 4) := by
  unfold spec_l91Melody.f
  rw [w64 (by omega) (by omega)]
  refine EvP.bind (pick_ok hB p (most + 1) (by omega) (by omega)) (fun r hr => ?_)
  refine EvP.bind (pick_ok hB r.2 5 (by omega) (by omega)) (fun q hq => ?_)
  rw [w64 (by omega) (by omega)]
  obtain ⟨d, hd⟩ := Int.eq_ofNat_of_zero_le hr.1
  refine (melody_loop hB r.1 (by omega) d 0 [] _ q.2 (by omega) (by omega) rfl (by omega) (by omega) (by omega) (by omega)).mono (fun r' h => ⟨by omega, h.2.1, by omega⟩)
end Go.Proofs.Ythpeiboobnnfgaa.Pur
end
section
namespace Go.Proofs.Ythpeiboobnnfgaa.Pur
open Go.RowKit Go.Proofs.YthpeiboobnnfgaaW.PrintWords Go.Proofs.YthpeiboobnnfgaaW.PrintMore Go.Proofs.Ythpeiboobnnfgaa.E Go.Proofs.Ythpeiboobnnfgaa.Ed
theorem strOf_snoc (l : List Int) (v : Int) : strOfNums (l ++ [v]) = strOfNums l ++ (⟨#[UInt8.ofNat v.toNat]⟩ : ByteArray) := by
  apply ByteArray.ext
  rw [ByteArray.data_append]
  simp [strOfNums]
theorem len_txt : ∀ (m : Nat) (xs ys : List Tn), (txt m xs ys).length ≤ m := by
  intro m
  induction m with
  | zero => intro xs ys; simp [txt]
  | succ m ih =>
    intro xs ys
    rw [txt]
    split
    · simp
    · rw [List.length_cons]; have := ih (xs.drop (if letterOf xs ys = 105 then 0 else 1)) (ys.drop (if letterOf xs ys = 111 then 0 else 1)); omega
section
variable (a b : List Tn) (ha : a.length ≤ 24) (hb : b.length ≤ 24) {x : List (List Int)} (F : Full costP a b x)
include ha hb F
theorem tab_at (i k : Nat) (hi : i ≤ a.length) (hk : k ≤ b.length) : (i : Int) < (x.length : Int) ∧ (k : Int) < ((rd_L4 x (i : Int)).length : Int) ∧ rd (rd_L4 x (i : Int)) (k : Int) = least costP (a.drop i) (b.drop k) ∧ 0 ≤ least costP (a.drop i) (b.drop k) ∧ least costP (a.drop i) (b.drop k) ≤ 96 := by
  have h1 := F.len
  have h2 : (rd_L4 x (i : Int)).length = b.length + 1 := F.row i hi
  have h3 := cost_bd (a.drop i) (b.drop k)
  simp only [drop_len] at h3
  exact ⟨by omega, by omega, by rw [rd_T]; exact F.told i k hi hk, h3.1, by omega⟩
omit ha hb F in
theorem passE (Q : ByteArray × Bool → Prop) (i k : Nat) (hi : i ≤ a.length) (hk : k ≤ b.length) (acc : List Int) (j : Nat) (hj : j < 4) (e : Int) (he : rd [1, 2, 3, 4] (j : Int) = e) (u : Int × Int × Int × Bool)
    (hu : EvP (fun n => impl_useOf.f n e (a.drop i) (b.drop k)) (· = u)) (ho : u.2.2.2 = false)
    (K : EvP (fun n => impl_EditText.l1 n a b x acc (i : Int) (k : Int) [1, 2, 3, 4] (([1, 2, 3, 4] : List Int).length : Int) ((j + 1 : Nat) : Int)) Q) :
    EvP (fun n => impl_EditText.l1 n a b x acc (i : Int) (k : Int) [1, 2, 3, 4] (([1, 2, 3, 4] : List Int).length : Int) (j : Int)) Q := by
  have hl : ([1, 2, 3, 4] : List Int).length = 4 := rfl
  refine EvP.succ ?_
  simp only [impl_EditText.l1]
  refine EvP.yes (by omega) (EvP.yes (by omega) (EvP.yes (by omega) (EvP.yes (by omega) (EvP.yes (by omega) (EvP.yes (by omega) (EvP.yes (by omega) ?_))))))
  rw [he]
  refine EvP.bind (P := (· = u)) hu (fun _ h => ?_)
  subst h
  refine EvP.no (by rw [ho]; simp) ?_
  rw [w64 (by omega) (by omega)]
  exact K
theorem tryE (Q : ByteArray × Bool → Prop) (i k : Nat) (hi : i ≤ a.length) (hk : k ≤ b.length) (acc : List Int) (hacc : acc.length ≤ 48) (j : Nat) (hj : j < 4) (e : Int) (he : rd [1, 2, 3, 4] (j : Int) = e) (s1 s2 : Nat) (c : Int)
    (hu : EvP (fun n => impl_useOf.f n e (a.drop i) (b.drop k)) (· = ((s1 : Int), (s2 : Int), c, true))) (h1 : i + s1 ≤ a.length) (h2 : k + s2 ≤ b.length) (hc : 0 ≤ c ∧ c ≤ 3) (v : Int) (hv : en63_letter.f e = some v)
    (Y : c + least costP (a.drop (i + s1)) (b.drop (k + s2)) = least costP (a.drop i) (b.drop k) → EvP (fun n => impl_EditText.l0 n a b x (acc ++ [v]) ((i + s1 : Nat) : Int) ((k + s2 : Nat) : Int)) Q)
    (K : ¬ c + least costP (a.drop (i + s1)) (b.drop (k + s2)) = least costP (a.drop i) (b.drop k) → EvP (fun n => impl_EditText.l1 n a b x acc (i : Int) (k : Int) [1, 2, 3, 4] (([1, 2, 3, 4] : List Int).length : Int) ((j + 1 : Nat) : Int)) Q) :
    EvP (fun n => impl_EditText.l1 n a b x acc (i : Int) (k : Int) [1, 2, 3, 4] (([1, 2, 3, 4] : List Int).length : Int) (j : Int)) Q := by
  have hl : ([1, 2, 3, 4] : List Int).length = 4 := rfl
  obtain ⟨t1, t2, t3, t4, t5⟩ := tab_at a b ha hb F i k hi hk
  obtain ⟨r1, r2, r3, r4, r5⟩ := tab_at a b ha hb F (i + s1) (k + s2) h1 h2
  refine EvP.succ ?_
  simp only [impl_EditText.l1]
  refine EvP.yes (by omega) (EvP.yes (by omega) (EvP.yes (by omega) (EvP.yes (by omega) (EvP.yes (by omega) (EvP.yes (by omega) (EvP.yes (by omega) ?_))))))
  rw [he]
  refine EvP.bind (P := (· = ((s1 : Int), (s2 : Int), c, true))) hu (fun _ h => ?_)
  subst h
  refine EvP.yes rfl ?_
  have e1 : Hd (wrap64 ((i : Int) + (s1 : Int)) = ((i + s1 : Nat) : Int)) := Hd.mk (w64 (by omega) (by omega))
  have e2 : Hd (wrap64 ((k : Int) + (s2 : Int)) = ((k + s2 : Nat) : Int)) := Hd.mk (w64 (by omega) (by omega))
  have ej : Hd (wrap64 ((j : Int) + 1) = ((j + 1 : Nat) : Int)) := Hd.mk (w64 (by omega) (by omega))
  have ev : Hd (wrap64 (c + least costP (a.drop (i + s1)) (b.drop (k + s2))) = c + least costP (a.drop (i + s1)) (b.drop (k + s2))) := Hd.mk (w64 (by omega) (by omega))
  simp only [e1.out, e2.out, ej.out]
  refine EvP.yes (by omega) (EvP.yes r1 (EvP.yes (by omega) (EvP.yes r2 (EvP.yes t1 (EvP.yes t2 ?_)))))
  rw [r3, t3, ev.out]
  refine EvP.ite (fun h => ?_) (fun h => K h)
  refine EvP.bind (P := (· = v)) (EvP.con hv rfl) (fun _ h' => ?_)
  subst h'
  exact EvP.yes (by omega) (Y h)
theorem impl_walk : ∀ (m i k : Nat) (acc : List Int), i ≤ a.length → k ≤ b.length → (a.length - i) + (b.length - k) ≤ m → acc.length + m ≤ 48 →
    EvP (fun n => impl_EditText.l0 n a b x acc (i : Int) (k : Int)) (· = (strOfNums (acc ++ txt m (a.drop i) (b.drop k)), true)) := by
  intro m
  induction m with
  | zero =>
    intro i k acc hi hk hm hacc
    refine EvP.succ ?_
    simp only [impl_EditText.l0]
    refine EvP.no (by omega) ?_
    rw [decide_eq_false (by omega)]
    refine EvP.succ ?_
    simp only [impl_EditText.j2]
    exact EvP.no (by decide) (EvP.ret (by rw [txt, List.append_nil]))
  | succ m ih =>
    intro i k acc hi hk hm hacc
    have la := drop_len (a := a) i
    have lb := drop_len (a := b) k
    by_cases h0 : i = a.length ∧ k = b.length
    · refine EvP.succ ?_
      simp only [impl_EditText.l0]
      refine EvP.no (by omega) ?_
      rw [decide_eq_false (by omega)]
      refine EvP.succ ?_
      simp only [impl_EditText.j2]
      exact EvP.no (by decide) (EvP.ret (by rw [txt_end (by omega), List.append_nil]))
    have h : ¬ ((a.drop i).length = 0 ∧ (b.drop k).length = 0) := by omega
    have W : EvP (fun n => impl_EditText.j2 n a b x acc (i : Int) (k : Int) true) (· = (strOfNums (acc ++ txt (m + 1) (a.drop i) (b.drop k)), true)) := by
      refine EvP.succ ?_
      simp only [impl_EditText.j2]
      refine EvP.yes trivial ?_
      refine EvP.bind (P := (· = [1, 2, 3, 4])) (EvP.con rfl rfl) (fun _ e => ?_)
      subst e
      obtain ⟨u1, u2, u3, u4⟩ := use_ok (a.drop i) (b.drop k)
      have fin : ∀ (v : Int) (dx dy : Nat), letterOf (a.drop i) (b.drop k) = v → (if v = 105 then 0 else 1) = dx → (if v = 111 then 0 else 1) = dy → i + dx ≤ a.length → k + dy ≤ b.length → 0 < dx + dy →
          EvP (fun n => impl_EditText.l0 n a b x (acc ++ [v]) ((i + dx : Nat) : Int) ((k + dy : Nat) : Int)) (· = (strOfNums (acc ++ txt (m + 1) (a.drop i) (b.drop k)), true)) := by
        intro v dx dy hv hx hy hix hky hpos
        have := ih (i + dx) (k + dy) (acc ++ [v]) hix hky (by omega) (by simp; omega)
        rw [txt_go h hv hx hy, List.drop_drop, List.drop_drop]
        rw [List.append_assoc] at this
        exact this
      have S4 : ¬ ((use1 (a.drop i) (b.drop k)).2.2.2 = true ∧ 2 + least costP (a.drop i) ((b.drop k).drop 1) = least costP (a.drop i) (b.drop k)) → ¬ ((use2 (a.drop i) (b.drop k)).2.2.2 = true ∧ least costP ((a.drop i).drop 1) ((b.drop k).drop 1) = least costP (a.drop i) (b.drop k)) →
          ¬ ((use3 (a.drop i) (b.drop k)).2.2.2 = true ∧ 2 + least costP ((a.drop i).drop 1) (b.drop k) = least costP (a.drop i) (b.drop k)) →
          EvP (fun n => impl_EditText.l1 n a b x acc (i : Int) (k : Int) [1, 2, 3, 4] (([1, 2, 3, 4] : List Int).length : Int) ((3 : Nat) : Int)) (· = (strOfNums (acc ++ txt (m + 1) (a.drop i) (b.drop k)), true)) := by
        intro h1 h2 h3
        obtain ⟨x', xs', y', ys', ex, ey, he, hl⟩ := last_way _ _ h h1 h2 h3
        have e4 : use4 (a.drop i) (b.drop k) = (((1 : Nat) : Int), ((1 : Nat) : Int), (if x'.f0 = y'.f0 then 1 else 3), true) := by rw [ex, ey]; exact use4_not _ _ _ _ he
        rw [e4] at u4
        have lx := congrArg List.length ex
        have ly := congrArg List.length ey
        rw [List.length_cons] at lx ly
        have hd : least costP (a.drop (i + 1)) (b.drop (k + 1)) = least costP xs' ys' := by
          rw [← List.drop_drop, ← List.drop_drop, ex, ey]; rfl
        refine tryE a b ha hb F _ i k hi hk acc (by omega) 3 (by omega) 4 rfl 1 1 _ u4 (by omega) (by omega) (by split <;> omega) 114 rfl (fun _ => ?_) (fun hn => absurd (by rw [hd]; exact hl) hn)
        exact fin 114 1 1 (by unfold letterOf; rw [if_neg h1, if_neg h2, if_neg h3]) rfl rfl (by omega) (by omega) (by omega)
      have S3 : ¬ ((use1 (a.drop i) (b.drop k)).2.2.2 = true ∧ 2 + least costP (a.drop i) ((b.drop k).drop 1) = least costP (a.drop i) (b.drop k)) → ¬ ((use2 (a.drop i) (b.drop k)).2.2.2 = true ∧ least costP ((a.drop i).drop 1) ((b.drop k).drop 1) = least costP (a.drop i) (b.drop k)) →
          EvP (fun n => impl_EditText.l1 n a b x acc (i : Int) (k : Int) [1, 2, 3, 4] (([1, 2, 3, 4] : List Int).length : Int) ((2 : Nat) : Int)) (· = (strOfNums (acc ++ txt (m + 1) (a.drop i) (b.drop k)), true)) := by
        intro h1 h2
        by_cases hx : i < a.length
        · have e3 := use3_true (a.drop i) (b.drop k) (by omega)
          rw [e3] at u3
          refine tryE a b ha hb F _ i k hi hk acc (by omega) 2 (by omega) 3 rfl 1 0 2 u3 (by omega) (by omega) (by omega) 111 rfl (fun hl => ?_) (fun hn => S4 h1 h2 (fun hh => hn (by have := hh.2; rw [List.drop_drop] at this; exact this)))
          exact fin 111 1 0 (by unfold letterOf; rw [if_neg h1, if_neg h2, if_pos ⟨by rw [e3], by rw [List.drop_drop]; exact hl⟩]) rfl rfl (by omega) (by omega) (by omega)
        · have e3 := use3_false (a.drop i) (b.drop k) (by omega)
          exact passE a b _ i k hi hk acc 2 (by omega) 3 rfl _ u3 e3 (S4 h1 h2 (fun hh => by rw [e3] at hh; exact Bool.noConfusion hh.1))
      have S2 : ¬ ((use1 (a.drop i) (b.drop k)).2.2.2 = true ∧ 2 + least costP (a.drop i) ((b.drop k).drop 1) = least costP (a.drop i) (b.drop k)) →
          EvP (fun n => impl_EditText.l1 n a b x acc (i : Int) (k : Int) [1, 2, 3, 4] (([1, 2, 3, 4] : List Int).length : Int) ((1 : Nat) : Int)) (· = (strOfNums (acc ++ txt (m + 1) (a.drop i) (b.drop k)), true)) := by
        intro h1
        by_cases hu : (use2 (a.drop i) (b.drop k)).2.2.2 = true
        · obtain ⟨hx, hy, e2⟩ : i < a.length ∧ k < b.length ∧ use2 (a.drop i) (b.drop k) = (((1 : Nat) : Int), ((1 : Nat) : Int), 0, true) := by
            by_cases hz : i < a.length ∧ k < b.length
            · refine ⟨hz.1, hz.2, ?_⟩
              rw [drop_cons hz.1, drop_cons hz.2] at hu ⊢
              by_cases he : eqT a[i] b[k] = true
              · exact use2_same _ _ _ _ he
              · rw [use2_not _ _ _ _ he] at hu; exact absurd hu (by decide)
            · rw [use2_nil _ _ (by omega)] at hu; exact absurd hu (by decide)
          rw [e2] at u2
          refine tryE a b ha hb F _ i k hi hk acc (by omega) 1 (by omega) 2 rfl 1 1 0 u2 (by omega) (by omega) (by omega) 107 rfl (fun hl => ?_) (fun hn => S3 h1 (fun hh => hn (by have := hh.2; rw [List.drop_drop, List.drop_drop] at this; rw [Int.zero_add]; exact this)))
          exact fin 107 1 1 (by unfold letterOf; rw [if_neg h1, if_pos ⟨hu, by rw [List.drop_drop, List.drop_drop]; rw [Int.zero_add] at hl; exact hl⟩]) rfl rfl (by omega) (by omega) (by omega)
        · exact passE a b _ i k hi hk acc 1 (by omega) 2 rfl _ u2 (Bool.eq_false_iff.mpr hu) (S3 h1 (fun hh => hu hh.1))
      show EvP (fun n => impl_EditText.l1 n a b x acc (i : Int) (k : Int) [1, 2, 3, 4] (([1, 2, 3, 4] : List Int).length : Int) ((0 : Nat) : Int)) _
      by_cases hy : k < b.length
      · have e1 := use1_true (a.drop i) (b.drop k) (by omega)
        rw [e1] at u1
        refine tryE a b ha hb F _ i k hi hk acc (by omega) 0 (by omega) 1 rfl 0 1 2 u1 (by omega) (by omega) (by omega) 105 rfl (fun hl => ?_) (fun hn => S2 (fun hh => hn (by have := hh.2; rw [List.drop_drop] at this; exact this)))
        exact fin 105 0 1 (by unfold letterOf; rw [if_pos ⟨by rw [e1], by rw [List.drop_drop]; exact hl⟩]) rfl rfl (by omega) (by omega) (by omega)
      · have e1 := use1_false (a.drop i) (b.drop k) (by omega)
        exact passE a b _ i k hi hk acc 0 (by omega) 1 rfl _ u1 e1 (S2 (fun hh => by rw [e1] at hh; exact Bool.noConfusion hh.1))
    refine EvP.succ ?_
    simp only [impl_EditText.l0]
    refine EvP.ite (fun _ => W) (fun h => ?_)
    rw [decide_eq_true (by omega)]
    exact W
theorem spec_walk : ∀ (m i k : Nat) (acc : List Int), i ≤ a.length → k ≤ b.length → (a.length - i) + (b.length - k) ≤ m → acc.length + m ≤ 48 →
    EvP (fun n => spec_EditText.l0 n a b x (strOfNums acc) (i : Int) (k : Int)) (· = (strOfNums (acc ++ txt m (a.drop i) (b.drop k)), true)) := by
  intro m
  induction m with
  | zero =>
    intro i k acc hi hk hm hacc
    refine EvP.succ ?_
    simp only [spec_EditText.l0]
    refine EvP.no (by omega) ?_
    rw [decide_eq_false (by omega)]
    refine EvP.succ ?_
    simp only [spec_EditText.j2]
    exact EvP.no (by decide) (EvP.ret (by rw [txt, List.append_nil]))
  | succ m ih =>
    intro i k acc hi hk hm hacc
    have la := drop_len (a := a) i
    have lb := drop_len (a := b) k
    have ls := strOfNums_size acc
    by_cases h0 : i = a.length ∧ k = b.length
    · refine EvP.succ ?_
      simp only [spec_EditText.l0]
      refine EvP.no (by omega) ?_
      rw [decide_eq_false (by omega)]
      refine EvP.succ ?_
      simp only [spec_EditText.j2]
      exact EvP.no (by decide) (EvP.ret (by rw [txt_end (by omega), List.append_nil]))
    have h : ¬ ((a.drop i).length = 0 ∧ (b.drop k).length = 0) := by omega
    obtain ⟨t1, t2, t3, t4, t5⟩ := tab_at a b ha hb F i k hi hk
    have ei : Hd (wrap64 ((i : Int) + 1) = ((i + 1 : Nat) : Int)) := Hd.mk (w64 (by omega) (by omega))
    have ek : Hd (wrap64 ((k : Int) + 1) = ((k + 1 : Nat) : Int)) := Hd.mk (w64 (by omega) (by omega))
    have fin : ∀ (v : Int) (dx dy : Nat), letterOf (a.drop i) (b.drop k) = v → (if v = 105 then 0 else 1) = dx → (if v = 111 then 0 else 1) = dy → i + dx ≤ a.length → k + dy ≤ b.length → 0 < dx + dy →
        EvP (fun n => spec_EditText.l0 n a b x (strOfNums acc ++ (⟨#[UInt8.ofNat v.toNat]⟩ : ByteArray)) ((i + dx : Nat) : Int) ((k + dy : Nat) : Int)) (· = (strOfNums (acc ++ txt (m + 1) (a.drop i) (b.drop k)), true)) := by
      intro v dx dy hv hx hy hix hky hpos
      have := ih (i + dx) (k + dy) (acc ++ [v]) hix hky (by omega) (by simp; omega)
      rw [txt_go h hv hx hy, List.drop_drop, List.drop_drop]
      rw [List.append_assoc, strOf_snoc] at this
      exact this
    have room : (strOfNums acc).size + 1 ≤ 9223372036854775807 := by omega
    have S4 : ∀ B : Bool, ¬ ((use1 (a.drop i) (b.drop k)).2.2.2 = true ∧ 2 + least costP (a.drop i) ((b.drop k).drop 1) = least costP (a.drop i) (b.drop k)) → (B = true ↔ ((use2 (a.drop i) (b.drop k)).2.2.2 = true ∧ least costP ((a.drop i).drop 1) ((b.drop k).drop 1) = least costP (a.drop i) (b.drop k))) →
        EvP (fun n => spec_EditText.j4 n a b x (strOfNums acc) (i : Int) (k : Int) (least costP (a.drop i) (b.drop k)) B) (· = (strOfNums (acc ++ txt (m + 1) (a.drop i) (b.drop k)), true)) := by
      intro B h1 hB
      refine EvP.succ ?_
      simp only [spec_EditText.j4]
      refine EvP.ite (fun hb1 => ?_) (fun hb0 => ?_)
      · have h2 := hB.mp hb1
        refine EvP.yes room ?_
        rw [ei.out, ek.out]
        have hz : i < a.length ∧ k < b.length := by
          by_cases hz : i < a.length ∧ k < b.length
          · exact hz
          · have := h2.1; rw [use2_nil _ _ (by omega)] at this; exact absurd this (by decide)
        exact fin 107 1 1 (by unfold letterOf; rw [if_neg h1, if_pos h2]) rfl rfl (by omega) (by omega) (by omega)
      · have h2 : ¬ _ := fun hh => hb0 (hB.mpr hh)
        have last : ¬ ((use3 (a.drop i) (b.drop k)).2.2.2 = true ∧ 2 + least costP ((a.drop i).drop 1) (b.drop k) = least costP (a.drop i) (b.drop k)) →
            EvP (fun n => if (strOfNums acc).size + 1 ≤ 9223372036854775807 then spec_EditText.l0 n a b x (strOfNums acc ++ (⟨#[114]⟩ : ByteArray)) (wrap64 ((i : Int) + 1)) (wrap64 ((k : Int) + 1)) else none) (· = (strOfNums (acc ++ txt (m + 1) (a.drop i) (b.drop k)), true)) := by
          intro h3
          obtain ⟨x', xs', y', ys', ex, ey, he, hl⟩ := last_way _ _ h h1 h2 h3
          have lx := congrArg List.length ex
          have ly := congrArg List.length ey
          rw [List.length_cons] at lx ly
          refine EvP.yes room ?_
          rw [ei.out, ek.out]
          exact fin 114 1 1 (by unfold letterOf; rw [if_neg h1, if_neg h2, if_neg h3]) rfl rfl (by omega) (by omega) (by omega)
        refine EvP.ite (fun hx => ?_) (fun hx => ?_)
        · have hx' : i < a.length := by omega
          obtain ⟨r1, r2, r3, r4, r5⟩ := tab_at a b ha hb F (i + 1) k (by omega) hk
          have ev : Hd (wrap64 (least costP (a.drop (i + 1)) (b.drop k) + 2) = least costP (a.drop (i + 1)) (b.drop k) + 2) := Hd.mk (w64 (by omega) (by omega))
          have e3 := use3_true (a.drop i) (b.drop k) (by omega)
          have hd : (a.drop i).drop 1 = a.drop (i + 1) := by rw [List.drop_drop]
          simp only [ei.out] at last ⊢
          refine EvP.yes (by omega) (EvP.yes r1 (EvP.yes (by omega) (EvP.yes r2 ?_)))
          rw [r3, ev.out]
          refine EvP.ite (fun hl => ?_) (fun hl => last (fun hh => hl (by have := hh.2; rw [hd] at this; omega)))
          refine EvP.yes room ?_
          exact fin 111 1 0 (by unfold letterOf; rw [if_neg h1, if_neg h2, if_pos ⟨by rw [e3], by rw [hd]; omega⟩]) rfl rfl (by omega) (by omega) (by omega)
        · have e3 := use3_false (a.drop i) (b.drop k) (by omega)
          exact last (fun hh => by rw [e3] at hh; exact Bool.noConfusion hh.1)
    have S3 : ∀ B : Bool, (B = true ↔ ((use1 (a.drop i) (b.drop k)).2.2.2 = true ∧ 2 + least costP (a.drop i) ((b.drop k).drop 1) = least costP (a.drop i) (b.drop k))) →
        EvP (fun n => spec_EditText.j3 n a b x (strOfNums acc) (i : Int) (k : Int) (least costP (a.drop i) (b.drop k)) B) (· = (strOfNums (acc ++ txt (m + 1) (a.drop i) (b.drop k)), true)) := by
      intro B hB
      refine EvP.succ ?_
      simp only [spec_EditText.j3]
      refine EvP.ite (fun hb1 => ?_) (fun hb0 => ?_)
      · have h1 := hB.mp hb1
        have hy : k < b.length := by
          by_cases hy : k < b.length
          · exact hy
          · have := h1.1; rw [use1_false _ _ (by omega)] at this; exact absurd this (by decide)
        refine EvP.yes room ?_
        rw [ek.out]
        exact fin 105 0 1 (by unfold letterOf; rw [if_pos h1]) rfl rfl (by omega) (by omega) (by omega)
      · have h1 : ¬ _ := fun hh => hb0 (hB.mpr hh)
        have no2 : (use2 (a.drop i) (b.drop k)).2.2.2 = false → EvP (fun n => spec_EditText.j4 n a b x (strOfNums acc) (i : Int) (k : Int) (least costP (a.drop i) (b.drop k)) false) (· = (strOfNums (acc ++ txt (m + 1) (a.drop i) (b.drop k)), true)) := by
          intro e2
          exact S4 false h1 ⟨fun hh => Bool.noConfusion hh, fun hh => by rw [e2] at hh; exact hh.1⟩
        refine EvP.ite (fun hx => EvP.ite (fun hy => ?_) (fun hy => no2 (use2_nil _ _ (by omega)))) (fun hx => no2 (use2_nil _ _ (by omega)))
        have hx' : i < a.length := by omega
        have hy' : k < b.length := by omega
        refine EvP.yes (by omega) (EvP.yes (by omega) ?_)
        rw [rdT_lt hx', rdT_lt hy']
        show EvP (fun n => if eqT a[i] b[k] = true then _ else _) _
        refine EvP.ite (fun he => ?_) (fun he => no2 (by rw [drop_cons hx', drop_cons hy']; exact use2_not _ _ _ _ he))
        obtain ⟨r1, r2, r3, r4, r5⟩ := tab_at a b ha hb F (i + 1) (k + 1) (by omega) (by omega)
        simp only [ei.out, ek.out]
        refine EvP.yes (by omega) (EvP.yes r1 (EvP.yes (by omega) (EvP.yes r2 ?_)))
        rw [r3]
        refine S4 _ h1 ?_
        rw [beq_iff_eq, List.drop_drop, List.drop_drop]
        refine ⟨fun hh => ⟨?_, hh⟩, fun hh => hh.2⟩
        rw [drop_cons hx', drop_cons hy', use2_same _ _ _ _ he]
    have W : EvP (fun n => spec_EditText.j2 n a b x (strOfNums acc) (i : Int) (k : Int) true) (· = (strOfNums (acc ++ txt (m + 1) (a.drop i) (b.drop k)), true)) := by
      refine EvP.succ ?_
      simp only [spec_EditText.j2]
      refine EvP.yes trivial (EvP.yes (by omega) (EvP.yes t1 (EvP.yes (by omega) (EvP.yes t2 ?_))))
      rw [t3]
      refine EvP.ite (fun hy => ?_) (fun hy => S3 false ⟨fun hh => Bool.noConfusion hh, fun hh => by have := hh.1; rw [use1_false _ _ (by omega)] at this; exact this⟩)
      obtain ⟨r1, r2, r3, r4, r5⟩ := tab_at a b ha hb F i (k + 1) hi (by omega)
      have ev : Hd (wrap64 (least costP (a.drop i) (b.drop (k + 1)) + 2) = least costP (a.drop i) (b.drop (k + 1)) + 2) := Hd.mk (w64 (by omega) (by omega))
      simp only [ek.out]
      refine EvP.yes (by omega) (EvP.yes r2 ?_)
      rw [r3, ev.out]
      refine S3 _ ?_
      rw [beq_iff_eq, List.drop_drop]
      refine ⟨fun hh => ⟨by rw [use1_true _ _ (by omega)], by omega⟩, fun hh => by have := hh.2; omega⟩
    refine EvP.succ ?_
    simp only [spec_EditText.l0]
    refine EvP.ite (fun _ => W) (fun h => ?_)
    rw [decide_eq_true (by omega)]
    exact W
end
def txtOf (a b : List Tn) : ByteArray × Bool := if okM a = true ∧ okM b = true then (strOfNums (txt 48 a b), true) else (⟨#[]⟩, false)
theorem okM_24t {a : List Tn} (h : okM a = true) : a.length ≤ 24 := by
  unfold okM at h
  rw [Bool.and_eq_true] at h
  exact of_decide_eq_true h.2
theorem spec_txt (a b : List Tn) (ha : a.length < 9223372036854775807) (hb : b.length < 9223372036854775807) : EvP (fun k => spec_EditText.f k a b) (· = txtOf a b) := by
  unfold spec_EditText.f txtOf
  have jt : ∀ v, v = ((⟨#[]⟩ : ByteArray), false) → EvP (fun k => spec_EditText.j0 k a b true) (· = v) := by
    intro v hv
    refine EvP.succ ?_
    simp only [spec_EditText.j0]
    exact EvP.yes trivial (EvP.ret hv.symm)
  refine EvP.bind (P := (· = okM a)) (spec_melody a ha) (fun _ e => ?_)
  subst e
  refine EvP.ite (fun h1 => ?_) (fun h1 => jt _ (by rw [if_neg (fun h => h1 h.1)]))
  refine EvP.bind (P := (· = okM b)) (spec_melody b hb) (fun _ e => ?_)
  subst e
  by_cases h2 : okM b = true
  · rw [if_pos ⟨h1, h2⟩, h2]
    have la := okM_24t h1
    have lb := okM_24t h2
    refine EvP.succ ?_
    simp only [spec_EditText.j0, Bool.not_true]
    refine EvP.no (by decide) ?_
    refine EvP.bind (spec_costs a b la lb) (fun x F => ?_)
    exact spec_walk a b la lb F 48 0 0 [] (Nat.zero_le _) (Nat.zero_le _) (by omega) (by simp)
  · rw [Bool.eq_false_iff.mpr h2]
    exact jt _ (by rw [if_neg (fun h => Bool.noConfusion h.2)])
theorem impl_txt (a b : List Tn) : EvP (fun k => impl_EditText.f k a b) (· = txtOf a b) := by
  unfold impl_EditText.f txtOf
  have jt : ∀ v, v = ((⟨#[]⟩ : ByteArray), false) → EvP (fun k => impl_EditText.j0 k a b true) (· = v) := by
    intro v hv
    refine EvP.succ ?_
    simp only [impl_EditText.j0]
    exact EvP.yes trivial (EvP.ret hv.symm)
  refine EvP.bind (P := (· = okM a)) (impl_melody a) (fun _ e => ?_)
  subst e
  refine EvP.ite (fun h1 => ?_) (fun h1 => jt _ (by rw [if_neg (fun h => h1 h.1)]))
  refine EvP.bind (P := (· = okM b)) (impl_melody b) (fun _ e => ?_)
  subst e
  by_cases h2 : okM b = true
  · rw [if_pos ⟨h1, h2⟩, h2]
    have la := okM_24t h1
    have lb := okM_24t h2
    refine EvP.succ ?_
    simp only [impl_EditText.j0, Bool.not_true]
    refine EvP.no (by decide) ?_
    refine EvP.bind (impl_sums_costOf a b la lb) (fun x F => ?_)
    exact impl_walk a b la lb F 48 0 0 [] (Nat.zero_le _) (Nat.zero_le _) (by omega) (by simp)
  · rw [Bool.eq_false_iff.mpr h2]
    exact jt _ (by rw [if_neg (fun h => Bool.noConfusion h.2)])
end Go.Proofs.Ythpeiboobnnfgaa.Pur
end
section
namespace Go.Proofs.Ythpeiboobnnfgaa.E
open Go.RowKit Go.Proofs.YthpeiboobnnfgaaW.PrintWords Go.Proofs.YthpeiboobnnfgaaW.PrintLast Go.Proofs.YthpeiboobnnfgaaW.PrintMore
attribute [local go_sem] max2_int min2_int max_two min_two max_three min_three max_four min_four
set_option linter.unusedVariables false
set_option linter.unusedSimpArgs false
attribute [local go_sem] en63_mk1 en63_mk2 en63_mk3 en63_mk4
attribute [local go_sem] str_leq_ str_gtr_ str_geq_
def spec_l6Rd_of.f (k : Nat) (s0_0 : List Int) (s0_1 : Int) (l1 : List ByteArray) : Option (ByteArray × Int) := (spec_l6Rd_pick.f k s0_0 s0_1 (l1.length : Int)).bind fun bt441 => (if 0 ≤ bt441.1 then (if bt441.1 < (l1.length : Int) then (some (rdOf ByteArray.empty l1 bt441.1, bt441.2)) else (none)) else (none))
end Go.Proofs.Ythpeiboobnnfgaa.E
end
section
namespace Go.Proofs.Ythpeiboobnnfgaa.E
open Go.RowKit Go.Proofs.YthpeiboobnnfgaaW.PrintWords Go.Proofs.YthpeiboobnnfgaaW.PrintLast Go.Proofs.YthpeiboobnnfgaaW.PrintMore
attribute [local go_sem] max2_int min2_int max_two min_two max_three min_three max_four min_four
set_option linter.unusedVariables false
set_option linter.unusedSimpArgs false
attribute [local go_sem high] eqA36
attribute [local go_sem] en63_mk1 en63_mk2 en63_mk3 en63_mk4
attribute [local go_sem] str_leq_ str_gtr_ str_geq_
mutual
def spec_l92Aligned.l0 : Nat → List (S36) → List (S36) → ByteArray → Int → Int → List Int → Int → Option ((List (S36)) × (List (S36)) × ByteArray × Int)
 | 0, _, _, _, _, _, _, _ => none
 | k + 1, x5, x6, x9, x10, x11, x1000, x1001 => if x10 < (x5.length : Int) then (spec_l92Aligned.j1 k x5 x6 x9 x10 x11 true x1000 x1001) else (spec_l92Aligned.j1 k x5 x6 x9 x10 x11 (decide (x11 < (x6.length : Int))) x1000 x1001)
def spec_l92Aligned.j1 : Nat → List (S36) → List (S36) → ByteArray → Int → Int → Bool → List Int → Int → Option ((List (S36)) × (List (S36)) × ByteArray × Int)
 | 0, _, _, _, _, _, _, _, _ => none
 | k + 1, x5, x6, x9, x10, x11, x46, x1000, x1001 => if x46 = true then (if x11 = (x6.length : Int) then (spec_l92Aligned.j2 k x5 x6 x9 x10 x11 true x1000 x1001) else (if x10 < (x5.length : Int) then ((spec_l6Rd_pick.f k x1000 x1001 3).bind fun bt462 => (spec_l92Aligned.j2 k x5 x6 x9 x10 x11 (bt462.1 == 0) x1000 bt462.2)) else (spec_l92Aligned.j2 k x5 x6 x9 x10 x11 false x1000 x1001))) else (some (x5, x6, x9, x1001))
def spec_l92Aligned.j2 : Nat → List (S36) → List (S36) → ByteArray → Int → Int → Bool → List Int → Int → Option ((List (S36)) × (List (S36)) × ByteArray × Int)
 | 0, _, _, _, _, _, _, _, _ => none
 | k + 1, x5, x6, x9, x10, x11, x53, x1000, x1001 => if x53 = true then (if x9.size + 1 ≤ 9223372036854775807 then (spec_l92Aligned.l0 k x5 x6 (x9 ++ (⟨#[111]⟩ : ByteArray)) (wrap64 (x10 + 1)) x11 x1000 x1001) else (none)) else (if x10 = (x5.length : Int) then (spec_l92Aligned.j3 k x5 x6 x9 x10 x11 true x1000 x1001) else ((spec_l6Rd_pick.f k x1000 x1001 2).bind fun bt464 => (spec_l92Aligned.j3 k x5 x6 x9 x10 x11 (bt464.1 == 0) x1000 bt464.2)))
def spec_l92Aligned.j3 : Nat → List (S36) → List (S36) → ByteArray → Int → Int → Bool → List Int → Int → Option ((List (S36)) × (List (S36)) × ByteArray × Int)
 | 0, _, _, _, _, _, _, _, _ => none
 | k + 1, x5, x6, x9, x10, x11, x73, x1000, x1001 => if x73 = true then (if x9.size + 1 ≤ 9223372036854775807 then (spec_l92Aligned.l0 k x5 x6 (x9 ++ (⟨#[105]⟩ : ByteArray)) x10 (wrap64 (x11 + 1)) x1000 x1001) else (none)) else (if 0 ≤ x10 then (if x10 < (x5.length : Int) then (if 0 ≤ x11 then (if x11 < (x6.length : Int) then (if (((rd_T36 x5 x10).f0) == ((rd_T36 x6 x11).f0) && (((rd_T36 x5 x10).f1) == ((rd_T36 x6 x11).f1))) = true then (if x9.size + 1 ≤ 9223372036854775807 then (spec_l92Aligned.l0 k x5 x6 (x9 ++ (⟨#[107]⟩ : ByteArray)) (wrap64 (x10 + 1)) (wrap64 (x11 + 1)) x1000 x1001) else (none)) else (if x9.size + 1 ≤ 9223372036854775807 then (spec_l92Aligned.l0 k x5 x6 (x9 ++ (⟨#[114]⟩ : ByteArray)) (wrap64 (x10 + 1)) (wrap64 (x11 + 1)) x1000 x1001) else (none))) else (none)) else (none)) else (none)) else (none))
end
def spec_l92Aligned.f (k : Nat) (s0_0 : List Int) (s0_1 : Int) : Option ((List (S36)) × (List (S36)) × ByteArray × Int) := (spec_l92Edited.f k s0_0 s0_1).bind fun bt444 => ((spec_l6Rd_pick.f k s0_0 bt444.2.2 2).bind fun bt451 => (if bt451.1 = 0 then ((spec_EditText.f k bt444.1 bt444.2.1).bind fun bt453 => ((spec_l6Rd_pick.f k s0_0 bt451.2 6).bind fun bt455 => (if bt455.1 = 0 then ((spec_l6Rd_of.f k s0_0 bt455.2 (([(⟨#[107]⟩ : ByteArray), (⟨#[105]⟩ : ByteArray), (⟨#[120]⟩ : ByteArray)] : List ByteArray))).bind fun bt460 => (if bt453.1.size + bt460.1.size ≤ 9223372036854775807 then (some (bt444.1, bt444.2.1, bt453.1 ++ bt460.1, bt460.2)) else (none))) else (some (bt444.1, bt444.2.1, bt453.1, bt455.2))))) else (spec_l92Aligned.l0 k bt444.1 bt444.2.1 (⟨#[]⟩ : ByteArray) 0 0 s0_0 bt451.2)))
end Go.Proofs.Ythpeiboobnnfgaa.E
end
section
namespace Go.Proofs.Ythpeiboobnnfgaa.E
open Go.RowKit Go.Proofs.YthpeiboobnnfgaaW.PrintWords Go.Proofs.YthpeiboobnnfgaaW.PrintLast Go.Proofs.YthpeiboobnnfgaaW.PrintMore
attribute [local go_sem] max2_int min2_int max_two min_two max_three min_three max_four min_four
set_option linter.unusedVariables false
set_option linter.unusedSimpArgs false
attribute [local go_sem] en63_mk1 en63_mk2 en63_mk3 en63_mk4
attribute [local go_sem] str_leq_ str_gtr_ str_geq_
def spec_DrawEditSum.f (k : Nat) (l0 : List Int) : Option ((List (S36)) × (List (S36)) × ByteArray) := (spec_l6Open.f l0).bind fun bt468 => ((spec_l92Aligned.f k bt468.1 bt468.2).bind fun bt471 => (some (bt471.1, bt471.2.1, bt471.2.2.1)))
end Go.Proofs.Ythpeiboobnnfgaa.E
end
section
namespace Go.Proofs.Ythpeiboobnnfgaa.E
open Go.RowKit Go.Proofs.YthpeiboobnnfgaaW.PrintWords Go.Proofs.YthpeiboobnnfgaaW.PrintLast Go.Proofs.YthpeiboobnnfgaaW.PrintMore
attribute [local go_sem] max2_int min2_int max_two min_two max_three min_three max_four min_four
set_option linter.unusedVariables false
set_option linter.unusedSimpArgs false
attribute [local go_sem] en63_mk1 en63_mk2 en63_mk3 en63_mk4
attribute [local go_sem] str_leq_ str_gtr_ str_geq_
def spec_DrawEditCost.f (k : Nat) (l0 : List Int) : Option ((List (S36)) × (List (S36))) := (spec_l6Open.f l0).bind fun bt525 => ((spec_l92Edited.f k bt525.1 bt525.2).bind fun bt528 => (some (bt528.1, bt528.2.1)))
end Go.Proofs.Ythpeiboobnnfgaa.E
end
section
namespace Go.Proofs.Ythpeiboobnnfgaa.E
open Go.RowKit Go.Proofs.YthpeiboobnnfgaaW.PrintWords Go.Proofs.YthpeiboobnnfgaaW.PrintLast Go.Proofs.YthpeiboobnnfgaaW.PrintMore
attribute [local go_sem] max2_int min2_int max_two min_two max_three min_three max_four min_four
set_option linter.unusedVariables false
set_option linter.unusedSimpArgs false
attribute [local go_sem] en63_mk1 en63_mk2 en63_mk3 en63_mk4
attribute [local go_sem] str_leq_ str_gtr_ str_geq_
def spec_DrawEditCommon.f (k : Nat) (l0 : List Int) : Option ((List (S36)) × (List (S36))) := (spec_l6Open.f l0).bind fun bt575 => ((spec_l92Edited.f k bt575.1 bt575.2).bind fun bt578 => (some (bt578.1, bt578.2.1)))
end Go.Proofs.Ythpeiboobnnfgaa.E
end
section
namespace Go.Proofs.Ythpeiboobnnfgaa.Pur
open Go.RowKit Go.Proofs.YthpeiboobnnfgaaW.PrintWords Go.Proofs.YthpeiboobnnfgaaW.PrintMore Go.Proofs.Ythpeiboobnnfgaa.E Go.Proofs.Ythpeiboobnnfgaa.Ed
theorem edited_loop {B : List Int} (hB : okB B) (a : List Tn) (ha : a.length ≤ 12) : ∀ (d i : Nat) (acc : List Tn) (p : Int), i + d = a.length → acc.length ≤ 2 * i → 0 ≤ p → p ≤ 100000 + (i : Int) →
    EvP (fun k => spec_l92Edited.l0 k a acc (i : Int) B p) (fun r => r.1 = a ∧ r.2.1.length ≤ 24 ∧ 0 ≤ r.2.2 ∧ r.2.2 ≤ p + d) := by
  intro d
  induction d with
  | zero =>
    intro i acc p hi hacc hp0 hp1
    refine EvP.succ ?_
    simp only [spec_l92Edited.l0]
    exact EvP.no (by omega) (EvP.ret ⟨rfl, by dsimp only; omega, hp0, by dsimp only; omega⟩)
  | succ d ih =>
    intro i acc p hi hacc hp0 hp1
    refine EvP.succ ?_
    simp only [spec_l92Edited.l0]
    have ei : Hd (wrap64 ((i : Int) + 1) = ((i + 1 : Nat) : Int)) := ⟨w64 (by omega) (by omega)⟩
    refine EvP.yes (by omega) ?_
    refine EvP.bind (pick_ok hB p 8 (by omega) (by omega)) (fun r hr => ?_)
    rw [ei.out]
    have go : ∀ acc' : List Tn, acc'.length ≤ acc.length + 2 → EvP (fun k => spec_l92Edited.l0 k a acc' ((i + 1 : Nat) : Int) B r.2) (fun r => r.1 = a ∧ r.2.1.length ≤ 24 ∧ 0 ≤ r.2.2 ∧ r.2.2 ≤ p + (d + 1 : Nat)) := by
      intro acc' h
      exact (ih (i + 1) acc' r.2 (by omega) (by omega) (by omega) (by omega)).mono (fun r' h' => ⟨h'.1, h'.2.1, h'.2.2.1, by omega⟩)
    have i0 : (0 : Int) ≤ (i : Int) := by omega
    have room : acc.length < 8796093022208 := by omega
    refine EvP.ite (fun _ => go _ (by omega)) (fun _ => EvP.ite (fun _ => EvP.yes i0 ?_) (fun _ => EvP.ite (fun _ => EvP.yes i0 (EvP.yes room (go _ (by simp)))) (fun _ => EvP.ite (fun _ => EvP.yes i0 ?_) (fun _ => EvP.yes i0 (EvP.yes room (go _ (by simp)))))))
    · refine EvP.bind (P := fun y => y.length = 2) (EvP.con rfl rfl) (fun y hy => ?_)
      exact EvP.yes (by omega) (go _ (by simp; omega))
    · refine EvP.bind (P := fun _ => True) (EvP.con rfl trivial) (fun y _ => ?_)
      exact EvP.ite (fun _ => EvP.yes room (go _ (by simp))) (fun _ => EvP.yes room (go _ (by simp)))
theorem edited_ok {B : List Int} (hB : okB B) (p : Int) (hp : 0 ≤ p ∧ p ≤ 1000) : EvP (fun k => spec_l92Edited.f k B p) (fun r => r.1.length ≤ 24 ∧ r.2.1.length ≤ 24 ∧ 0 ≤ r.2.2 ∧ r.2.2 ≤ p + 100) := by
  unfold spec_l92Edited.f
  refine EvP.bind (melody_ok hB p 6 (by omega) (by omega)) (fun r hr => ?_)
  refine EvP.bind (pick_ok hB r.2 4 (by omega) (by omega)) (fun q hq => ?_)
  refine EvP.ite (fun _ => ?_) (fun _ => ?_)
  · refine EvP.bind (melody_ok hB q.2 6 (by omega) (by omega)) (fun s hs => ?_)
    exact EvP.ret ⟨by dsimp only; omega, by dsimp only; omega, hs.2.1, by dsimp only; omega⟩
  · refine (edited_loop hB r.1 (by omega) r.1.length 0 [] q.2 (by omega) (by simp) (by omega) (by omega)).mono (fun r' h => ⟨by rw [h.1]; omega, h.2.1, h.2.2.1, by omega⟩)
theorem draw_text (l : List Int) (h : ∀ x ∈ l, (Lit.int .u8 x).wf = true) : EvP (fun k => spec_DrawEditText.f k l) (fun r => r.1.length ≤ 24 ∧ r.2.length ≤ 24) := by
  unfold spec_DrawEditText.f
  refine EvP.bind (open_code l h) (fun r hr => ?_)
  refine EvP.bind (edited_ok hr.1 r.2 (by omega)) (fun q hq => EvP.ret ⟨hq.1, hq.2.1⟩)
end Go.Proofs.Ythpeiboobnnfgaa.Pur
end
section
namespace Go.Proofs.Ythpeiboobnnfgaa.E
open Go.RowKit Go.Proofs.YthpeiboobnnfgaaW.PrintWords Go.Proofs.YthpeiboobnnfgaaW.PrintLast Go.Proofs.YthpeiboobnnfgaaW.PrintMore
attribute [local go_sem] max2_int min2_int max_two min_two max_three min_three max_four min_four
set_option linter.unusedVariables false
set_option linter.unusedSimpArgs false
attribute [local go_sem] en63_mk1 en63_mk2 en63_mk3 en63_mk4
attribute [local go_sem] str_leq_ str_gtr_ str_geq_
def laws_szToneS.f (l0 : List (S48)) (a1 : Int) : Option (Int) := if (wrap64 (a1 - (l0.length : Int))) < 0 then (some (-1)) else (some (wrap64 (a1 - (l0.length : Int))))
end Go.Proofs.Ythpeiboobnnfgaa.E
end
section
namespace Go.Proofs.Ythpeiboobnnfgaa.E
open Go.RowKit Go.Proofs.YthpeiboobnnfgaaW.PrintWords Go.Proofs.YthpeiboobnnfgaaW.PrintLast Go.Proofs.YthpeiboobnnfgaaW.PrintMore
attribute [local go_sem] max2_int min2_int max_two min_two max_three min_three max_four min_four
set_option linter.unusedVariables false
set_option linter.unusedSimpArgs false
attribute [local go_sem] en63_mk1 en63_mk2 en63_mk3 en63_mk4
attribute [local go_sem] str_leq_ str_gtr_ str_geq_
def laws_toTone.f (a0_0 : Int) (a0_1 : Bool) : Option (Int × Bool) := some (a0_0, a0_1)
end Go.Proofs.Ythpeiboobnnfgaa.E
end
section
namespace Go.Proofs.Ythpeiboobnnfgaa.E
open Go.RowKit Go.Proofs.YthpeiboobnnfgaaW.PrintWords Go.Proofs.YthpeiboobnnfgaaW.PrintLast Go.Proofs.YthpeiboobnnfgaaW.PrintMore
attribute [local go_sem] max2_int min2_int max_two min_two max_three min_three max_four min_four
set_option linter.unusedVariables false
set_option linter.unusedSimpArgs false
attribute [local go_sem] en63_mk1 en63_mk2 en63_mk3 en63_mk4
attribute [local go_sem] str_leq_ str_gtr_ str_geq_
def laws_toToneS.l0 : Nat → List (S48) → List (S36) → Int → Option ((List (S36)))
 | 0, _, _, _ => none
 | k + 1, x0, x3, x4 => if x4 < (x0.length : Int) then (if 0 ≤ x4 then ((laws_toTone.f ((rd_T48 x0 x4).f0) ((rd_T48 x0 x4).f1)).bind fun bt108 => (if x4 < (x3.length : Int) then (laws_toToneS.l0 k x0 (x3.set (x4 : Int).toNat (⟨bt108.1, bt108.2⟩ : S36)) (wrap64 (x4 + 1))) else (none))) else (none)) else (some x3)
def laws_toToneS.f (k : Nat) (l0 : List (S48)) : Option ((List (S36))) := if 0 ≤ (l0.length : Int) then (if ((l0.length : Int) : Int).toNat ≤ 17592186044416 then (laws_toToneS.l0 k l0 (List.replicate ((l0.length : Int) : Int).toNat z36) 0) else (none)) else (none)
end Go.Proofs.Ythpeiboobnnfgaa.E
end
section
namespace Go.Proofs.Ythpeiboobnnfgaa.E
open Go.RowKit Go.Proofs.YthpeiboobnnfgaaW.PrintWords Go.Proofs.YthpeiboobnnfgaaW.PrintLast Go.Proofs.YthpeiboobnnfgaaW.PrintMore
attribute [local go_sem] max2_int min2_int max_two min_two max_three min_three max_four min_four
set_option linter.unusedVariables false
set_option linter.unusedSimpArgs false
attribute [local go_sem] en63_mk1 en63_mk2 en63_mk3 en63_mk4
attribute [local go_sem] str_leq_ str_gtr_ str_geq_
def laws_eqTone.f (a0_0 : Int) (a0_1 : Bool) (a1_0 : Int) (a1_1 : Bool) : Option (Bool) := if a0_0 = a1_0 then (if (a0_1 != a1_1) = true then (some false) else (some true)) else (some false)
end Go.Proofs.Ythpeiboobnnfgaa.E
end
section
namespace Go.Proofs.Ythpeiboobnnfgaa.E
open Go.RowKit Go.Proofs.YthpeiboobnnfgaaW.PrintWords Go.Proofs.YthpeiboobnnfgaaW.PrintLast Go.Proofs.YthpeiboobnnfgaaW.PrintMore
attribute [local go_sem] max2_int min2_int max_two min_two max_three min_three max_four min_four
set_option linter.unusedVariables false
set_option linter.unusedSimpArgs false
attribute [local go_sem] en63_mk1 en63_mk2 en63_mk3 en63_mk4
attribute [local go_sem] str_leq_ str_gtr_ str_geq_
def laws_eqToneS.l0 : Nat → List (S36) → List (S36) → Int → Option (Bool)
 | 0, _, _, _ => none
 | k + 1, x0, x1, x5 => if x5 < (x0.length : Int) then (if 0 ≤ x5 then (if x5 < (x1.length : Int) then ((laws_eqTone.f ((rd_T36 x0 x5).f0) ((rd_T36 x0 x5).f1) ((rd_T36 x1 x5).f0) ((rd_T36 x1 x5).f1)).bind fun t115 => (if t115 = true then (laws_eqToneS.l0 k x0 x1 (wrap64 (x5 + 1))) else (some false))) else (none)) else (none)) else (some true)
def laws_eqToneS.f (k : Nat) (l0 : List (S36)) (l1 : List (S36)) : Option (Bool) := if (l0.length : Int) = (l1.length : Int) then (laws_eqToneS.l0 k l0 l1 0) else (some false)
def laws_eqToneS.T6 : Bool × List (List Nat × List Nat) := (true, [([], []), ([], []), ([0, 1], [0, 1]), ([2], [2]), ([], []), ([], []), ([4, 5], [4, 5]), ([6], [6]), ([3, 7], [3, 7]), ([8], [8])])
def laws_eqToneS.B6 : List Nat := [0, 0, 3, 7, 0, 0, 48, 112, 255, 511]
end Go.Proofs.Ythpeiboobnnfgaa.E
end
section
namespace Go.Proofs.Ythpeiboobnnfgaa.Pur
open Go.RowKit Go.Proofs.YthpeiboobnnfgaaW.PrintWords Go.Proofs.Ythpeiboobnnfgaa.E
abbrev Tn' := S36
def cv (t : S48) : S36 := ⟨t.f0, t.f1⟩
end Go.Proofs.Ythpeiboobnnfgaa.Pur
end
section
namespace Go.Proofs.Ythpeiboobnnfgaa.E
open Go.RowKit Go.Proofs.YthpeiboobnnfgaaW.PrintWords Go.Proofs.YthpeiboobnnfgaaW.PrintLast Go.Proofs.YthpeiboobnnfgaaW.PrintMore
attribute [local go_sem] max2_int min2_int max_two min_two max_three min_three max_four min_four
set_option linter.unusedVariables false
set_option linter.unusedSimpArgs false
attribute [local go_sem] en63_mk1 en63_mk2 en63_mk3 en63_mk4
attribute [local go_sem] str_leq_ str_gtr_ str_geq_
def spec_EditCost.f (k : Nat) (l0 : List (S36)) (l1 : List (S36)) : Option (Int) := (spec_MelodyValid.f k l0).bind fun t518 => (if t518 = true then ((spec_MelodyValid.f k l1).bind fun t519 => (if t519 = true then ((spec_l7Costs.f k l0 l1).bind fun t520 => (if 0 < (t520.length : Int) then (if 0 < ((rd_L4 t520 0).length : Int) then (some (rd (rd_L4 t520 0) 0)) else (none)) else (none))) else (some (-1)))) else (some (-1)))
end Go.Proofs.Ythpeiboobnnfgaa.E
end
section
namespace Go.Proofs.Ythpeiboobnnfgaa.E
open Go.RowKit Go.Proofs.YthpeiboobnnfgaaW.PrintWords Go.Proofs.YthpeiboobnnfgaaW.PrintLast Go.Proofs.YthpeiboobnnfgaaW.PrintMore
attribute [local go_sem] max2_int min2_int max_two min_two max_three min_three max_four min_four
set_option linter.unusedVariables false
set_option linter.unusedSimpArgs false
attribute [local go_sem] en63_mk1 en63_mk2 en63_mk3 en63_mk4
attribute [local go_sem] str_leq_ str_gtr_ str_geq_
def laws_FnExactEditCost.f (k : Nat) (l0 : List (S48)) (l1 : List (S48)) : Option (Bool) := (laws_szToneS.f l0 1048576).bind fun t663 => (if t663 < 0 then (some true) else ((laws_szToneS.f l1 t663).bind fun t664 => (if t664 < 0 then (some true) else ((laws_toToneS.f k l0).bind fun t665 => ((laws_toToneS.f k l1).bind fun t668 => ((spec_EditCost.f k t665 t668).bind fun t671 => ((laws_toToneS.f k l0).bind fun t672 => ((laws_toToneS.f k l1).bind fun t675 => ((impl_EditCost.f k t672 t675).bind fun t678 => (if t678 = t671 then ((laws_toToneS.f k l0).bind fun t679 => ((laws_eqToneS.f k t672 t679).bind fun t682 => (if t682 = true then ((laws_toToneS.f k l1).bind fun t683 => ((laws_eqToneS.f k t675 t683).bind fun t686 => (if t686 = true then (some true) else (some false)))) else (some false)))) else (some false)))))))))))
end Go.Proofs.Ythpeiboobnnfgaa.E
end
section
namespace Go.Proofs.Ythpeiboobnnfgaa.Pur
open Go.RowKit Go.Proofs.YthpeiboobnnfgaaW.PrintWords Go.Proofs.Ythpeiboobnnfgaa.E Go.Proofs.Ythpeiboobnnfgaa.Ed
def costOf (a b : List Tn) : Int := if okM a = true ∧ okM b = true then least costP a b else -1
theorem okM_len {a : List Tn} (h : okM a = true) : a.length ≤ 24 := by
  unfold okM at h
  rw [Bool.and_eq_true] at h
  exact of_decide_eq_true h.2
theorem full_first {p : Pr Tn} {a b : List Tn} {x : List (List Int)} (F : Full p a b x) : 0 < (x.length : Int) ∧ 0 < ((rd_L4 x 0).length : Int) ∧ rd (rd_L4 x 0) 0 = least p a b := by
  have h1 := F.len
  have h2 : (rd_L4 x 0).length = b.length + 1 := F.row 0 (Nat.zero_le _)
  have h3 := F.told 0 0 (Nat.zero_le _) (Nat.zero_le _)
  exact ⟨by omega, by omega, h3⟩
theorem impl_cost (a b : List Tn) : EvP (fun k => impl_EditCost.f k a b) (· = costOf a b) := by
  unfold impl_EditCost.f costOf
  refine EvP.bind (P := (· = okM a)) (impl_melody a) (fun _ e => ?_)
  subst e
  refine EvP.ite (fun h1 => ?_) (fun h1 => EvP.ret (by rw [if_neg (fun h => h1 h.1)]))
  refine EvP.bind (P := (· = okM b)) (impl_melody b) (fun _ e => ?_)
  subst e
  refine EvP.ite (fun h2 => ?_) (fun h2 => EvP.ret (by rw [if_neg (fun h => h2 h.2)]))
  rw [if_pos ⟨h1, h2⟩]
  refine EvP.bind (impl_sums_costOf a b (okM_len h1) (okM_len h2)) (fun x F => ?_)
  obtain ⟨f1, f2, f3⟩ := full_first F
  exact EvP.yes f1 (EvP.yes f2 (EvP.ret f3))
end Go.Proofs.Ythpeiboobnnfgaa.Pur
end
section
namespace Go.Proofs.Ythpeiboobnnfgaa.E
open Go.RowKit Go.Proofs.YthpeiboobnnfgaaW.PrintWords Go.Proofs.YthpeiboobnnfgaaW.PrintLast Go.Proofs.YthpeiboobnnfgaaW.PrintMore
attribute [local go_sem] max2_int min2_int max_two min_two max_three min_three max_four min_four
set_option linter.unusedVariables false
set_option linter.unusedSimpArgs false
attribute [local go_sem] en63_mk1 en63_mk2 en63_mk3 en63_mk4
attribute [local go_sem] str_leq_ str_gtr_ str_geq_
def impl_lessKept.f (a0 a1_0 a1_1 a1_2 : Int) : Option Int := if a0 = 2 then some (-1) else some 0
end Go.Proofs.Ythpeiboobnnfgaa.E
end
section
namespace Go.Proofs.Ythpeiboobnnfgaa.E
open Go.RowKit Go.Proofs.YthpeiboobnnfgaaW.PrintWords Go.Proofs.YthpeiboobnnfgaaW.PrintLast Go.Proofs.YthpeiboobnnfgaaW.PrintMore
attribute [local go_sem] max2_int min2_int max_two min_two max_three min_three max_four min_four
set_option linter.unusedVariables false
set_option linter.unusedSimpArgs false
attribute [local go_sem] en63_mk1 en63_mk2 en63_mk3 en63_mk4
attribute [local go_sem] str_leq_ str_gtr_ str_geq_
mutual
def impl_leastSums_lessKept.l0 : Nat → List (S36) → List (S36) → List (List Int) → Int → Option ((List (List Int)))
 | 0, _, _, _, _ => none
 | k + 1, x0, x1, x7, x8 => if x8 ≥ 0 then (if 0 ≤ (wrap64 ((x1.length : Int) + 1)) then (if (wrap64 ((x1.length : Int) + 1) : Int).toNat ≤ 35184372088832 then (if 0 ≤ x8 then (if x8 < (x7.length : Int) then (impl_leastSums_lessKept.l1 k x0 x1 (x7.set (x8 : Int).toNat (List.replicate (wrap64 ((x1.length : Int) + 1) : Int).toNat 0)) x8 (x1.length : Int)) else (none)) else (none)) else (none)) else (none)) else (some x7)
def impl_leastSums_lessKept.l1 : Nat → List (S36) → List (S36) → List (List Int) → Int → Int → Option ((List (List Int)))
 | 0, _, _, _, _, _ => none
 | k + 1, x0, x1, x7, x8, x9 => if x9 ≥ 0 then ((impl_allEdits.f).bind fun t286 => (impl_leastSums_lessKept.l2 k x0 x1 x7 x8 x9 false t286 (t286.length : Int) 0)) else (impl_leastSums_lessKept.l0 k x0 x1 x7 (wrap64 (x8 - 1)))
def impl_leastSums_lessKept.l2 : Nat → List (S36) → List (S36) → List (List Int) → Int → Int → Bool → List Int → Int → Int → Option ((List (List Int)))
 | 0, _, _, _, _, _, _, _, _, _ => none
 | k + 1, x0, x1, x7, x8, x9, x10, x39, x40, x41 => if x41 < x40 then (if 0 ≤ x41 then (if x41 < (x39.length : Int) then (if 0 ≤ x8 then (if x8 ≤ (x0.length : Int) then (if 0 ≤ x9 then (if x9 ≤ (x1.length : Int) then ((impl_useOf.f k (rd x39 x41) (x0.drop (x8 : Int).toNat) (x1.drop (x9 : Int).toNat)).bind fun bt298 => (if bt298.2.2.2 = true then ((impl_lessKept.f (rd x39 x41) bt298.1 bt298.2.1 bt298.2.2.1).bind fun t303 => (if 0 ≤ (wrap64 (x8 + bt298.1)) then (if (wrap64 (x8 + bt298.1)) < (x7.length : Int) then (if 0 ≤ (wrap64 (x9 + bt298.2.1)) then (if (wrap64 (x9 + bt298.2.1)) < ((rd_L4 x7 (wrap64 (x8 + bt298.1))).length : Int) then (if x10 = true then (if x8 < (x7.length : Int) then (if x9 < ((rd_L4 x7 x8).length : Int) then (if (wrap64 (t303 + (rd (rd_L4 x7 (wrap64 (x8 + bt298.1))) (wrap64 (x9 + bt298.2.1))))) < (rd (rd_L4 x7 x8) x9) then (impl_leastSums_lessKept.l2 k x0 x1 (x7.set (x8 : Int).toNat ((rd_L4 x7 x8).set (x9 : Int).toNat (wrap64 (t303 + (rd (rd_L4 x7 (wrap64 (x8 + bt298.1))) (wrap64 (x9 + bt298.2.1))))))) x8 x9 true x39 x40 (wrap64 (x41 + 1))) else (impl_leastSums_lessKept.l2 k x0 x1 x7 x8 x9 x10 x39 x40 (wrap64 (x41 + 1)))) else (none)) else (none)) else (if x8 < (x7.length : Int) then (if x9 < ((rd_L4 x7 x8).length : Int) then (impl_leastSums_lessKept.l2 k x0 x1 (x7.set (x8 : Int).toNat ((rd_L4 x7 x8).set (x9 : Int).toNat (wrap64 (t303 + (rd (rd_L4 x7 (wrap64 (x8 + bt298.1))) (wrap64 (x9 + bt298.2.1))))))) x8 x9 true x39 x40 (wrap64 (x41 + 1))) else (none)) else (none))) else (none)) else (none)) else (none)) else (none))) else (impl_leastSums_lessKept.l2 k x0 x1 x7 x8 x9 x10 x39 x40 (wrap64 (x41 + 1))))) else (none)) else (none)) else (none)) else (none)) else (none)) else (none)) else (impl_leastSums_lessKept.l1 k x0 x1 x7 x8 (wrap64 (x9 - 1)))
end
def impl_leastSums_lessKept.f (k : Nat) (l0 : List (S36)) (l1 : List (S36))  : Option ((List (List Int))) := if 0 ≤ (wrap64 ((l0.length : Int) + 1)) then (if (wrap64 ((l0.length : Int) + 1) : Int).toNat ≤ 11728124029610 then (impl_leastSums_lessKept.l0 k l0 l1 (List.replicate (wrap64 ((l0.length : Int) + 1) : Int).toNat []) (l0.length : Int)) else (none)) else (none)
def impl_leastSums_lessKept.T13 : Bool × List (List Nat × List Nat) := (true, [([], []), ([], []), ([], []), ([1, 2], [1, 2]), ([], []), ([], []), ([4, 5], [4, 5]), ([0, 3, 6], [0, 3, 6]), ([7], [7]), ([8], [8]), ([8], [8]), ([], []), ([11, 9, 7, 0, 1, 2, 3, 4, 5, 6, 7, 8, 9, 11], [9, 11]), ([10, 12, 0, 1, 2, 3, 4, 5, 6, 7, 8, 9, 10, 11, 12], [10])])
def impl_leastSums_lessKept.B13 : List Nat := [0, 0, 0, 6, 0, 0, 48, 127, 255, 511, 511, 0, 3071, 8191]
def impl_leastSums_lessKept.T15 : Bool × List (List Nat × List Nat) := (true, [([], []), ([], []), ([], []), ([0, 1, 2], [0, 1, 2]), ([], []), ([], []), ([], []), ([6], [6]), ([5, 7], [5, 7]), ([4, 8], [4, 8]), ([9], [9]), ([], []), ([], []), ([12], [12]), ([11, 13], [11, 13]), ([10, 14], [10, 14]), ([15], [15]), ([3, 16], [3, 16]), ([17, 3, 0, 1, 2, 3, 4, 5, 6, 7, 8, 9, 10, 11, 12, 13, 14, 15, 16, 17], [17])])
def impl_leastSums_lessKept.B15 : List Nat := [0, 0, 0, 7, 0, 0, 0, 64, 224, 496, 1008, 0, 0, 4096, 14336, 32752, 65520, 131071, 262143]
end Go.Proofs.Ythpeiboobnnfgaa.E
end
section
namespace Go.Proofs.Ythpeiboobnnfgaa.Pur
open Go.RowKit Go.Proofs.YthpeiboobnnfgaaW.PrintWords Go.Proofs.YthpeiboobnnfgaaW.PrintMore Go.Proofs.Ythpeiboobnnfgaa.E Go.Proofs.Ythpeiboobnnfgaa.Ed
namespace LlessKept
def st (x : List (List Int)) (i k : Nat) : Option Int → List (List Int)
  | none => x
  | some u => putT x i k u
def comb : Option Int → Int → Int
  | none, v => v
  | some u, v => if v < u then v else u
section
variable (a b : List Tn) (ha : a.length ≤ 24) (hb : b.length ≤ 24) (Q : List (List Int) → Prop)
variable {x : List (List Int)} {i k : Nat} (D : Done commonP a b x i (k + 1)) (hi : i ≤ a.length) (hk : k ≤ b.length)
include ha hb D hi hk
end
section
variable (a b : List Tn) (ha : a.length ≤ 24) (hb : b.length ≤ 24) (Q : List (List Int) → Prop)
include ha hb
end
end LlessKept
end Go.Proofs.Ythpeiboobnnfgaa.Pur
end
section
namespace Go.Proofs.Ythpeiboobnnfgaa.E
open Go.RowKit Go.Proofs.YthpeiboobnnfgaaW.PrintWords Go.Proofs.YthpeiboobnnfgaaW.PrintLast Go.Proofs.YthpeiboobnnfgaaW.PrintMore
attribute [local go_sem] max2_int min2_int max_two min_two max_three min_three max_four min_four
set_option linter.unusedVariables false
set_option linter.unusedSimpArgs false
attribute [local go_sem] en63_mk1 en63_mk2 en63_mk3 en63_mk4
attribute [local go_sem] str_leq_ str_gtr_ str_geq_
def impl_EditCommon.f (k : Nat) (l0 : List (S36)) (l1 : List (S36)) : Option (Int) := (impl_MelodyValid.f k l0).bind fun t317 => (if t317 = true then ((impl_MelodyValid.f k l1).bind fun t318 => (if t318 = true then ((impl_leastSums_lessKept.f k l0 l1).bind fun t319 => (if 0 < (t319.length : Int) then (if 0 < ((rd_L4 t319 0).length : Int) then (some (wrap64 (-(rd (rd_L4 t319 0) 0)))) else (none)) else (none))) else (some (-1)))) else (some (-1)))
end Go.Proofs.Ythpeiboobnnfgaa.E
end
section
namespace Go.Proofs.Ythpeiboobnnfgaa.E
open Go.RowKit Go.Proofs.YthpeiboobnnfgaaW.PrintWords Go.Proofs.YthpeiboobnnfgaaW.PrintLast Go.Proofs.YthpeiboobnnfgaaW.PrintMore
attribute [local go_sem] max2_int min2_int max_two min_two max_three min_three max_four min_four
set_option linter.unusedVariables false
set_option linter.unusedSimpArgs false
attribute [local go_sem high] eqA36
attribute [local go_sem] en63_mk1 en63_mk2 en63_mk3 en63_mk4
attribute [local go_sem] str_leq_ str_gtr_ str_geq_
mutual
def spec_EditCommon.j0 : Nat → List (S36) → List (S36) → Bool → Option (Int)
 | 0, _, _, _ => none
 | k + 1, x0, x1, x16 => if x16 = true then (some (-1)) else (if 0 ≤ (wrap64 ((x1.length : Int) + 1)) then (if (wrap64 ((x1.length : Int) + 1) : Int).toNat ≤ 35184372088832 then (spec_EditCommon.l0 k x0 x1 (List.replicate (wrap64 ((x1.length : Int) + 1) : Int).toNat 0) 0) else (none)) else (none))
def spec_EditCommon.l0 : Nat → List (S36) → List (S36) → List Int → Int → Option (Int)
 | 0, _, _, _, _ => none
 | k + 1, x0, x1, x5, x6 => if x6 < (x0.length : Int) then (if 0 ≤ (wrap64 ((x1.length : Int) + 1)) then (if (wrap64 ((x1.length : Int) + 1) : Int).toNat ≤ 35184372088832 then (spec_EditCommon.l1 k x0 x1 x5 x6 (List.replicate (wrap64 ((x1.length : Int) + 1) : Int).toNat 0) 0) else (none)) else (none)) else (if 0 ≤ (x1.length : Int) then (if (x1.length : Int) < (x5.length : Int) then (some (rd x5 (x1.length : Int))) else (none)) else (none))
def spec_EditCommon.l1 : Nat → List (S36) → List (S36) → List Int → Int → List Int → Int → Option (Int)
 | 0, _, _, _, _, _, _ => none
 | k + 1, x0, x1, x5, x6, x7, x8 => if x8 < (x1.length : Int) then (if 0 ≤ x8 then (if x8 < (x7.length : Int) then (if 0 ≤ (wrap64 (x8 + 1)) then (if (wrap64 (x8 + 1)) < (x5.length : Int) then (if (wrap64 (x8 + 1)) < (x7.length : Int) then ((some (x7.set ((wrap64 (x8 + 1)) : Int).toNat (mx (rd x7 x8) (rd x5 (wrap64 (x8 + 1)))) : List Int)).bind fun y569 => (if 0 ≤ x6 then (if x6 < (x0.length : Int) then (if (((rd_T36 x0 x6).f0) == ((rd_T36 x1 x8).f0) && (((rd_T36 x0 x6).f1) == ((rd_T36 x1 x8).f1))) = true then (if x8 < (x5.length : Int) then (spec_EditCommon.l1 k x0 x1 x5 x6 (y569.set ((wrap64 (x8 + 1)) : Int).toNat (mx (rd y569 (wrap64 (x8 + 1))) (wrap64 ((rd x5 x8) + 1)))) (wrap64 (x8 + 1))) else (none)) else (spec_EditCommon.l1 k x0 x1 x5 x6 y569 (wrap64 (x8 + 1)))) else (none)) else (none))) else (none)) else (none)) else (none)) else (none)) else (none)) else (spec_EditCommon.l0 k x0 x1 x7 (wrap64 (x6 + 1)))
end
def spec_EditCommon.f (k : Nat) (l0 : List (S36)) (l1 : List (S36)) : Option (Int) := (spec_MelodyValid.f k l0).bind fun t558 => (if t558 = true then ((spec_MelodyValid.f k l1).bind fun t559 => (spec_EditCommon.j0 k l0 l1 (!t559))) else (spec_EditCommon.j0 k l0 l1 true))
def spec_EditCommon.T11 : Bool × List (List Nat × List Nat) := (true, [([], []), ([], []), ([1], [1]), ([], []), ([], []), ([3, 4], [3, 4]), ([5], [5]), ([], []), ([], []), ([8], [8]), ([7, 9], [7, 9]), ([10], [10]), ([6, 11], [6, 11]), ([0, 2, 0, 1, 2, 3, 4, 5, 6, 7, 8, 9, 10, 11, 12], [0, 2]), ([13, 12, 0, 1, 2, 3, 4, 5, 6, 7, 8, 9, 10, 11, 12], [12, 13])])
def spec_EditCommon.B11 : List Nat := [0, 0, 2, 0, 0, 24, 56, 0, 0, 256, 896, 1920, 4088, 8191, 16383]
def spec_EditCommon.T12 : Bool × List (List Nat × List Nat) := (true, [([], []), ([], []), ([0, 1], [0, 1]), ([2], [2]), ([], []), ([], []), ([4, 5], [4, 5]), ([6], [6]), ([3, 7], [3, 7])])
def spec_EditCommon.B12 : List Nat := [0, 0, 3, 7, 0, 0, 48, 112, 255]
def spec_EditCommon.T13 : Bool × List (List Nat × List Nat) := (true, [([], []), ([], []), ([1], [1]), ([], []), ([], []), ([4], [4]), ([3, 5], [3, 5]), ([6], [6]), ([], []), ([], []), ([8, 9], [8, 9]), ([10], [10]), ([11], [11]), ([7, 12], [7, 12]), ([0, 2, 0, 1, 2, 3, 4, 5, 6, 7, 8, 9, 10, 11, 12, 13], [0, 2]), ([14, 13, 0, 1, 2, 3, 4, 5, 6, 7, 8, 9, 10, 11, 12, 13], [13, 14])])
def spec_EditCommon.B13 : List Nat := [0, 0, 2, 0, 0, 16, 56, 120, 0, 0, 768, 1792, 3840, 8184, 16383, 32767]
end Go.Proofs.Ythpeiboobnnfgaa.E
end
section
namespace Go.Proofs.Ythpeiboobnnfgaa.E
open Go.RowKit Go.Proofs.YthpeiboobnnfgaaW.PrintWords Go.Proofs.YthpeiboobnnfgaaW.PrintLast Go.Proofs.YthpeiboobnnfgaaW.PrintMore
attribute [local go_sem] max2_int min2_int max_two min_two max_three min_three max_four min_four
set_option linter.unusedVariables false
set_option linter.unusedSimpArgs false
attribute [local go_sem] en63_mk1 en63_mk2 en63_mk3 en63_mk4
attribute [local go_sem] str_leq_ str_gtr_ str_geq_
def laws_FnExactEditCommon.f (k : Nat) (l0 : List (S48)) (l1 : List (S48)) : Option (Bool) := (laws_szToneS.f l0 1048576).bind fun t639 => (if t639 < 0 then (some true) else ((laws_szToneS.f l1 t639).bind fun t640 => (if t640 < 0 then (some true) else ((laws_toToneS.f k l0).bind fun t641 => ((laws_toToneS.f k l1).bind fun t644 => ((spec_EditCommon.f k t641 t644).bind fun t647 => ((laws_toToneS.f k l0).bind fun t648 => ((laws_toToneS.f k l1).bind fun t651 => ((impl_EditCommon.f k t648 t651).bind fun t654 => (if t654 = t647 then ((laws_toToneS.f k l0).bind fun t655 => ((laws_eqToneS.f k t648 t655).bind fun t658 => (if t658 = true then ((laws_toToneS.f k l1).bind fun t659 => ((laws_eqToneS.f k t651 t659).bind fun t662 => (if t662 = true then (some true) else (some false)))) else (some false)))) else (some false)))))))))))
end Go.Proofs.Ythpeiboobnnfgaa.E
end
section
namespace Go.Proofs.Ythpeiboobnnfgaa.Pur
open Go.RowKit Go.Proofs.YthpeiboobnnfgaaW.PrintWords Go.Proofs.YthpeiboobnnfgaaW.PrintMore Go.Proofs.Ythpeiboobnnfgaa.E Go.Proofs.Ythpeiboobnnfgaa.Ed
def com (a b : List Tn) : Int := -least commonP a b
structure RowTo (a b : List Tn) (i m : Nat) (xs : List Int) : Prop where
  len : xs.length = b.length + 1
  told : ∀ j, j ≤ m → xs.getD j 0 = com (a.take i) (b.take j)
section
variable (a b : List Tn) (ha : a.length ≤ 24) (hb : b.length ≤ 24) (Q : Int → Prop)
include ha hb
end
def commonOf (a b : List Tn) : Int := if okM a = true ∧ okM b = true then com a b else -1
end Go.Proofs.Ythpeiboobnnfgaa.Pur
end
section
namespace Go.Proofs.Ythpeiboobnnfgaa.E
open Go.RowKit Go.Proofs.YthpeiboobnnfgaaW.PrintWords Go.Proofs.YthpeiboobnnfgaaW.PrintLast Go.Proofs.YthpeiboobnnfgaaW.PrintMore
attribute [local go_sem] max2_int min2_int max_two min_two max_three min_three max_four min_four
set_option linter.unusedVariables false
set_option linter.unusedSimpArgs false
attribute [local go_sem] en63_mk1 en63_mk2 en63_mk3 en63_mk4
attribute [local go_sem] str_leq_ str_gtr_ str_geq_
def impl_MelodyBack.l0 : Nat → List (S36) → List (S36) → List (S36) → Int → Int → Option ((List (S36)) × Bool)
 | 0, _, _, _, _, _ => none
 | k + 1, x0, x4, x13, x14, x15 => if x15 < x14 then (if 0 ≤ x15 then (if x15 < (x13.length : Int) then (if 0 ≤ (wrap64 ((wrap64 ((x0.length : Int) - 1)) - x15)) then (if (wrap64 ((wrap64 ((x0.length : Int) - 1)) - x15)) < (x4.length : Int) then (impl_MelodyBack.l0 k x0 (x4.set ((wrap64 ((wrap64 ((x0.length : Int) - 1)) - x15)) : Int).toNat (⟨(rd_T36 x13 x15).f0, (rd_T36 x13 x15).f1⟩ : S36)) x13 x14 (wrap64 (x15 + 1))) else (none)) else (none)) else (none)) else (none)) else (some (x4, true))
def impl_MelodyBack.f (k : Nat) (l0 : List (S36)) : Option ((List (S36)) × Bool) := (impl_MelodyValid.f k l0).bind fun t585 => (if t585 = true then (if 0 ≤ (l0.length : Int) then (if ((l0.length : Int) : Int).toNat ≤ 17592186044416 then (impl_MelodyBack.l0 k l0 (List.replicate ((l0.length : Int) : Int).toNat z36) l0 (l0.length : Int) 0) else (none)) else (none)) else (some (([] : List (S36)), false)))
end Go.Proofs.Ythpeiboobnnfgaa.E
end
section
namespace Go.Proofs.Ythpeiboobnnfgaa.Pur
open Go.RowKit Go.Proofs.YthpeiboobnnfgaaW.PrintWords Go.Proofs.YthpeiboobnnfgaaW.PrintMore Go.Proofs.Ythpeiboobnnfgaa.E Go.Proofs.Ythpeiboobnnfgaa.Ed
instance : DecidableEq Tn := fun a b => decidable_of_iff (eqT a b = true) (eqT_iff a b)
theorem cost_ok {a b : List Tn} (h : okM a = true) (h' : okM b = true) : costOf a b = least costP a b := by unfold costOf; rw [if_pos ⟨h, h'⟩]
end Go.Proofs.Ythpeiboobnnfgaa.Pur
end
section
namespace Go.Proofs.Ythpeiboobnnfgaa.E
open Go.RowKit Go.Proofs.YthpeiboobnnfgaaW.PrintWords Go.Proofs.YthpeiboobnnfgaaW.PrintLast Go.Proofs.YthpeiboobnnfgaaW.PrintMore
attribute [local go_sem] max2_int min2_int max_two min_two max_three min_three max_four min_four
set_option linter.unusedVariables false
set_option linter.unusedSimpArgs false
attribute [local go_sem] en63_mk1 en63_mk2 en63_mk3 en63_mk4
attribute [local go_sem] str_leq_ str_gtr_ str_geq_
def laws_FnExactEditSum.f (k : Nat) (l0 : List (S48)) (l1 : List (S48)) (a2 : ByteArray) : Option (Bool) := if (a2.size : Int) > 1048576 then (some true) else ((laws_szToneS.f l0 1048576).bind fun t687 => (if t687 < 0 then (some true) else ((laws_szToneS.f l1 t687).bind fun t688 => (if t688 < 0 then (some true) else ((laws_toToneS.f k l0).bind fun t689 => ((laws_toToneS.f k l1).bind fun t692 => ((spec_EditSum.f k t689 t692 a2).bind fun t695 => ((laws_toToneS.f k l0).bind fun t696 => ((laws_toToneS.f k l1).bind fun t699 => ((impl_EditSum.f k t696 t699 a2).bind fun t702 => (if t702 = t695 then ((laws_toToneS.f k l0).bind fun t703 => ((laws_eqToneS.f k t696 t703).bind fun t706 => (if t706 = true then ((laws_toToneS.f k l1).bind fun t707 => ((laws_eqToneS.f k t699 t707).bind fun t710 => (if t710 = true then (some true) else (some false)))) else (some false)))) else (some false))))))))))))
end Go.Proofs.Ythpeiboobnnfgaa.E
end
section
namespace Go.Proofs.Ythpeiboobnnfgaa.Pur
open Go.RowKit Go.Proofs.YthpeiboobnnfgaaW.PrintWords Go.Proofs.YthpeiboobnnfgaaW.PrintMore Go.Proofs.Ythpeiboobnnfgaa.E Go.Proofs.Ythpeiboobnnfgaa.Ed
theorem impl_sum (a b : List Tn) (t : ByteArray) (ht : t.size ≤ 1048576) : EvP (fun k => impl_EditSum.f k a b t) (· = ans (sumOf a b t)) := by
  unfold impl_EditSum.f ans
  refine EvP.bind (impl_asum a b t ht) (fun _ e => ?_)
  subst e
  exact EvP.ite (fun h => EvP.ret (by rw [if_pos h])) (fun h => EvP.ret (by rw [if_neg h]))
end Go.Proofs.Ythpeiboobnnfgaa.Pur
end
section
namespace Go.Proofs.Ythpeiboobnnfgaa.E
open Go.RowKit Go.Proofs.YthpeiboobnnfgaaW.PrintWords Go.Proofs.YthpeiboobnnfgaaW.PrintLast Go.Proofs.YthpeiboobnnfgaaW.PrintMore
attribute [local go_sem] max2_int min2_int max_two min_two max_three min_three max_four min_four
set_option linter.unusedVariables false
set_option linter.unusedSimpArgs false
attribute [local go_sem] en63_mk1 en63_mk2 en63_mk3 en63_mk4
attribute [local go_sem] str_leq_ str_gtr_ str_geq_
def spec_EditOk.f (k : Nat) (l0 : List (S36)) (l1 : List (S36)) (a2 : ByteArray) : Option (Bool) := (spec_EditSum.f k l0 l1 a2).bind fun t711 => (some (decide (t711 ≥ 0)))
end Go.Proofs.Ythpeiboobnnfgaa.E
end
section
namespace Go.Proofs.Ythpeiboobnnfgaa.E
open Go.RowKit Go.Proofs.YthpeiboobnnfgaaW.PrintWords Go.Proofs.YthpeiboobnnfgaaW.PrintLast Go.Proofs.YthpeiboobnnfgaaW.PrintMore
attribute [local go_sem] max2_int min2_int max_two min_two max_three min_three max_four min_four
set_option linter.unusedVariables false
set_option linter.unusedSimpArgs false
attribute [local go_sem] en63_mk1 en63_mk2 en63_mk3 en63_mk4
attribute [local go_sem] str_leq_ str_gtr_ str_geq_
def laws_FnExactEditOk.f (k : Nat) (l0 : List (S48)) (l1 : List (S48)) (a2 : ByteArray) : Option (Bool) := if (a2.size : Int) > 1048576 then (some true) else ((laws_szToneS.f l0 1048576).bind fun t712 => (if t712 < 0 then (some true) else ((laws_szToneS.f l1 t712).bind fun t713 => (if t713 < 0 then (some true) else ((laws_toToneS.f k l0).bind fun t714 => ((laws_toToneS.f k l1).bind fun t717 => ((spec_EditOk.f k t714 t717 a2).bind fun t720 => ((laws_toToneS.f k l0).bind fun t721 => ((laws_toToneS.f k l1).bind fun t724 => ((impl_EditOk.f k t721 t724 a2).bind fun t727 => (if (t727 != t720) = true then (some false) else ((laws_toToneS.f k l0).bind fun t728 => ((laws_eqToneS.f k t721 t728).bind fun t731 => (if t731 = true then ((laws_toToneS.f k l1).bind fun t732 => ((laws_eqToneS.f k t724 t732).bind fun t735 => (if t735 = true then (some true) else (some false)))) else (some false)))))))))))))))
end Go.Proofs.Ythpeiboobnnfgaa.E
end
section
namespace Go.Proofs.Ythpeiboobnnfgaa.Pur
open Go.RowKit Go.Proofs.YthpeiboobnnfgaaW.PrintWords Go.Proofs.YthpeiboobnnfgaaW.PrintMore Go.Proofs.Ythpeiboobnnfgaa.E Go.Proofs.Ythpeiboobnnfgaa.Ed
theorem impl_ok (a b : List Tn) (t : ByteArray) (ht : t.size ≤ 1048576) : EvP (fun k => impl_EditOk.f k a b t) (· = (sumOf a b t).2) := by
  unfold impl_EditOk.f
  refine EvP.bind (impl_asum a b t ht) (fun _ e => ?_)
  subst e
  exact EvP.ret rfl
end Go.Proofs.Ythpeiboobnnfgaa.Pur
end
section
namespace Go.Proofs.Ythpeiboobnnfgaa.Pur
open Go.RowKit Go.Proofs.YthpeiboobnnfgaaW.PrintWords Go.Proofs.YthpeiboobnnfgaaW.PrintMore Go.Proofs.Ythpeiboobnnfgaa.E Go.Proofs.Ythpeiboobnnfgaa.Ed
def letsOf (t : ByteArray) : List Int := lets t 0 t.size
theorem letsOf_length (t : ByteArray) : (letsOf t).length = t.size := by unfold letsOf lets; rw [List.length_map, List.length_range']
theorem bt_data (t : ByteArray) (i : Nat) (h : i < t.size) : bt t (i : Int) = ((t.data[i]'h).toNat : Int) := by
  unfold bt
  rw [toNat_nat, dif_pos h]
  rfl
theorem letsOf_eq (t : ByteArray) : letsOf t = t.data.toList.map (fun b => (b.toNat : Int)) := by
  refine List.ext_getElem (by rw [letsOf_length, List.length_map, Array.length_toList]; rfl) (fun i h1 h2 => ?_)
  have hi : i < t.size := by rw [letsOf_length] at h1; exact h1
  simp only [letsOf, lets, List.getElem_map, List.getElem_range', Nat.zero_add, Nat.one_mul]
  rw [bt_data t i hi, Array.getElem_toList]
theorem letsOf_str (l : List Int) (h : ∀ c ∈ l, 0 ≤ c ∧ c ≤ 255) : letsOf (strOfNums l) = l := by
  rw [letsOf_eq, strOfNums_data, List.map_map]
  refine (List.map_congr_left (fun c hc => ?_)).trans (List.map_id l)
  have := h c hc
  simp only [Function.comp, id]
  rw [UInt8.toNat_ofNat_of_lt' (by show c.toNat < 256; omega)]
  omega
theorem sumOf_letters {a b : List Tn} (oa : okM a = true) (ob : okM b = true) (t : ByteArray) : sumOf a b t = goL (letsOf t) a b 0 := by
  unfold sumOf
  rw [if_pos ⟨oa, ob⟩, sumT_goL]
  rfl
theorem al_sum {a b : List Tn} (oa : okM a = true) (ob : okM b = true) {t : ByteArray} {n : Int} (h : AlL (letsOf t) a b n) : sumOf a b t = (n, true) := by
  rw [sumOf_letters oa ob, al_goL h]
  simp
theorem AlL.bytes {cs : List Int} {xs ys : List Tn} {n : Int} (h : AlL cs xs ys n) : ∀ c ∈ cs, 0 ≤ c ∧ c ≤ 255 := by
  induction h with
  | nil => intro c hc; cases hc
  | ins y _ ih => intro c hc; rcases List.mem_cons.mp hc with rfl | hc; omega; exact ih c hc
  | keep x y he _ ih => intro c hc; rcases List.mem_cons.mp hc with rfl | hc; omega; exact ih c hc
  | om x _ ih => intro c hc; rcases List.mem_cons.mp hc with rfl | hc; omega; exact ih c hc
  | repl x y he _ ih => intro c hc; rcases List.mem_cons.mp hc with rfl | hc; omega; exact ih c hc
theorem others_cons (v c : Int) (l : List Int) : others v (c :: l) = (if c = v then others v l else others v l + 1) := by
  unfold others
  by_cases h : c = v
  · rw [if_pos h]; simp [h]
  · rw [if_neg h, List.filter_cons_of_pos (by simpa using h), List.length_cons]
end Go.Proofs.Ythpeiboobnnfgaa.Pur
end
section
namespace Go.Proofs.Ythpeiboobnnfgaa.Pure
open Go.RowKit Go.Proofs.Ythpeiboobnnfgaa.E Go.Proofs.YthpeiboobnnfgaaW.PrintWords Go.Proofs.YthpeiboobnnfgaaW.PrintLast Go.Proofs.Ythpeiboobnnfgaa.Pur Go.Proofs.Ythpeiboobnnfgaa.Ed
theorem count_loop (a b : List Tn) (t : ByteArray) (ht : t.size ≤ 1048576) (Q : Bool → Prop) (next : ∀ n0 n1 : Nat, n0 = others 105 (letsOf t) → n1 = others 111 (letsOf t) → EvP (fun k => (impl_EditSum.f k a b t).bind fun t515 => ((impl_EditCost.f k a b).bind fun t516 => (if t515 = t516 then ((impl_EditOk.f k a b t).bind fun t517 => (if t517 = true then (if (n0 : Int) = (a.length : Int) then (some ((n1 : Int) == (b.length : Int))) else (some false)) else (some false))) else (some false)))) Q) :
    ∀ (d i n0 n1 : Nat), i + d = t.size → n0 ≤ i → n1 ≤ i → n0 + others 105 (lets t i d) = others 105 (letsOf t) → n1 + others 111 (lets t i d) = others 111 (letsOf t) → EvP (fun k => laws_FnEditText.l0 k a b t (n0 : Int) (n1 : Int) (i : Int)) Q := by
  intro d
  induction d with
  | zero =>
    intro i n0 n1 hi h0 h1 e0 e1
    refine EvP.succ ?_
    simp only [laws_FnEditText.l0]
    refine EvP.no (by omega) ?_
    exact next n0 n1 (by simpa [others, lets] using e0) (by simpa [others, lets] using e1)
  | succ d ih =>
    intro i n0 n1 hi h0 h1 e0 e1
    rw [show lets t i (d + 1) = bt t (i : Int) :: lets t (i + 1) d from rfl, others_cons] at e0 e1
    have w1 : Hd (wrap64 ((i : Int) + 1) = ((i + 1 : Nat) : Int)) := ⟨w64 (by omega) (by omega)⟩
    have w2 : Hd (wrap64 ((n0 : Int) + 1) = ((n0 + 1 : Nat) : Int)) := ⟨w64 (by omega) (by omega)⟩
    have w3 : Hd (wrap64 ((n1 : Int) + 1) = ((n1 + 1 : Nat) : Int)) := ⟨w64 (by omega) (by omega)⟩
    refine EvP.succ ?_
    simp only [laws_FnEditText.l0]
    refine EvP.yes (by omega) (EvP.yes (by omega) ?_)
    rw [w1.out, w2.out, w3.out]
    refine EvP.ite (fun h5 => ?_) (fun h5 => ?_)
    · rw [if_pos h5] at e0
      refine EvP.no (by omega) ?_
      rw [if_neg (by omega)] at e1
      exact ih (i + 1) n0 (n1 + 1) (by omega) (by omega) (by omega) (by omega) (by omega)
    · rw [if_neg h5] at e0
      refine EvP.ite (fun h6 => ?_) (fun h6 => ?_)
      · rw [if_pos h6] at e1
        exact ih (i + 1) (n0 + 1) n1 (by omega) (by omega) (by omega) (by omega) (by omega)
      · rw [if_neg h6] at e1
        exact ih (i + 1) (n0 + 1) (n1 + 1) (by omega) (by omega) (by omega) (by omega) (by omega)
theorem FnEditText : laws_FnEditText.Pure := by
  intro l0 _ _ hw
  refine EvP.rounds (?_ : EvP (fun k => laws_FnEditText.f k l0) (· = true))
  unfold laws_FnEditText.f
  refine EvP.ite (fun _ => EvP.ret rfl) (fun h0 => ?_)
  refine EvP.bind (draw_text l0 hw) (fun r hr => ?_)
  obtain ⟨a, b⟩ := r
  obtain ⟨la, lb⟩ := hr
  dsimp only at la lb ⊢
  refine EvP.bind (impl_txt a b) (fun _ e => ?_)
  subst e
  refine EvP.bind (spec_txt a b (by omega) (by omega)) (fun _ e => ?_)
  subst e
  rw [bne_self_eq_false]
  refine EvP.no (by decide) (EvP.yes rfl ?_)
  refine EvP.succ ?_
  simp only [laws_FnEditText.j0]
  refine EvP.ite (fun _ => EvP.yes (by simp) (EvP.ret (by simp))) (fun hn => ?_)
  have hok : okM a = true ∧ okM b = true := by
    by_cases hok : okM a = true ∧ okM b = true
    · exact hok
    · unfold txtOf at hn
      rw [if_neg hok] at hn
      exact absurd rfl hn
  have ht : (txtOf a b).1 = strOfNums (txt 48 a b) := by unfold txtOf; rw [if_pos hok]
  rw [ht]
  have A := txt_al 48 a b (by omega)
  have hl := letsOf_str (txt 48 a b) A.bytes
  have hsz : (strOfNums (txt 48 a b)).size ≤ 48 := by rw [strOfNums_size]; exact len_txt 48 a b
  rw [← hl] at A
  generalize strOfNums (txt 48 a b) = t at *
  have hs := al_sum hok.1 hok.2 A
  have hans : ans (sumOf a b t) = least costP a b := by rw [hs]; rfl
  refine count_loop a b t (by omega) _ (fun n0 n1 e0 e1 => ?_) t.size 0 0 0 (by omega) (by omega) (by omega) (by rw [Nat.zero_add]; rfl) (by rw [Nat.zero_add]; rfl)
  rw [A.first] at e0
  rw [A.second] at e1
  refine EvP.bind (impl_sum a b t (by omega)) (fun _ e => ?_)
  subst e
  refine EvP.bind (impl_cost a b) (fun _ e => ?_)
  subst e
  refine EvP.yes (by rw [hans, cost_ok hok.1 hok.2]) ?_
  refine EvP.bind (impl_ok a b t (by omega)) (fun _ e => ?_)
  subst e
  exact EvP.yes (by rw [hs]) (EvP.yes (by omega) (EvP.ret (by rw [beq_iff_eq]; omega)))
end Go.Proofs.Ythpeiboobnnfgaa.Pure
end
section
namespace Go.Proofs.YthpeiboobnnfgaaW.PrintWords
open Go.ChangeShapes Go.WideShapes
theorem sized_ints {H : Type} {enc : TypeId × Value → H} {P : Program} {W : World} {base : Nat} {spare : Nat → Bool} {held : Bool} {t e : TypeId} {k : IntKind} {a : Option Addr} {len cap : Nat} {d : DataW H} {ps : List MemPlace} {ts : List TypeId} {ds : List (DataW H)} {j : Nat}
    (hsz : (DataW.weightsEach P ts ds).all (· ≤ reachBytes) = true) (ht : ts[j]? = some t) (hd : ds[j]? = some d) (hu : P.underlying t = some (.slice e)) (he : P.underlying e = some (.int k)) (hc : P.cellsOf e = 1) {B : Nat} (hB : P.bytesOf e = B)
    (h : DataW.Trod enc P W base spare held t (.slice a len cap) d ps) : len * B ≤ 140737488351232 := by
  obtain ⟨fuel, hf⟩ := h
  rcases open_ints hu he hc hf with ⟨hcs, _⟩ | ⟨x, l, c, zs, hcs, _, hl, _, hz, hx, _, _⟩
  · simp [Value.cells] at hcs
    obtain ⟨rfl, rfl, rfl⟩ := hcs
    simp
  · simp [Value.cells] at hcs
    obtain ⟨rfl, rfl, rfl⟩ := hcs
    obtain ⟨hx, _⟩ := Prod.mk.inj hx
    subst hx
    have z := sized_slice hsz ht hd hu
    rw [hB] at z
    have hl2 : len ≤ zs.length := by
      rw [hz]
      split
      · exact hl
      · exact Nat.le_refl _
    have h1 : (lits (H := H) k (zs.take len)).length + (lits (H := H) k (zs.drop len)).length = zs.length := by
      simp [lits]
      omega
    rw [h1] at z
    exact Nat.le_trans (Nat.mul_le_mul_right _ hl2) z
end Go.Proofs.YthpeiboobnnfgaaW.PrintWords
end
section
namespace Go.Proofs.Ythpeiboobnnfgaa.fnEditText
open Go.ChangeShapes Go.WideShapes Go.ChangeAt Go.RowKit
open Go.ChangeMaps (open_string shut_string)
set_option linter.unusedVariables false
theorem own : ownKnob Try.prog.godebug = none := by kernel_rfl
theorem laidOut : laidOutB Try.prog = true := by kernel_rfl
def IsRow (k : IntKind) (w : World) (a : Option Addr) (len cap : Nat) (zs : List Int) : Prop :=
  (a = none ∧ len = 0 ∧ cap = 0 ∧ zs = []) ∨
  ∃ x, a = some x ∧ len ≤ cap ∧ cap ≤ maxLen ∧ zs.length = cap ∧ (∀ i, i < zs.length → w.cell? (x.add i) = some (.int k (zs.getD i 0))) ∧ ∀ n ∈ zs, (Lit.int k n).wf = true
set_option maxRecDepth 100000 in
theorem lifted (os : Os) (started : os.Started) (H : Type) (enc : TypeId × Value → H) :
    ReturnsInHanded {} Try.checked os 11 .any (Rows.fnEditTextSpec.pre6 enc Try.prog Try.f11 Rows.fnEditTextRow.domain false) (Rows.fnEditTextSpec.post enc Try.prog Try.f11 false true false false) := by
  refine returnsInHanded_of_change_sized (C := Try.checked) own started (by kernel_rfl) Try.func11
    (ChangeSpec.witness6 (enc := enc) (C := Try.checked) false ⟨#[], #[.slice none 0 0], []⟩ 8 (by kernel_rfl) (by kernel_rfl) (by kernel_rfl) (by kernel_rfl)) ?_
  intro W base args ds gs before hval0 hW hcnd hsz0 _
  have hsz : (DataW.weightsEach Try.prog (Try.f11.params.toList ++ Rows.fnEditTextSpec.plain.varTypes Try.prog) (ds ++ gs)).all (· ≤ reachBytes) = true := hsz0
  have hval : ∀ (j : Nat) t v, Try.f11.params[j]? = some t → args[j]? = some v → Value.okWide Try.prog W .any base t v := hval0
  have hW' := hW
  obtain ⟨p, q, hA0, hV, rfl, hfz, hnd⟩ := hW
  have hA : DataW.TrodAll enc Try.prog W 0 (fun _ => true) true Try.f11.params.toList args.toList ds p := hA0
  rw [Try.params11] at hA hval hsz
  obtain ⟨v0, vs0, d0, ds0, p0, q0, hargs, rfl, rfl, h0, r0⟩ := trodAll_cons hA
  obtain ⟨rfl, rfl, rfl⟩ := trodAll_nil r0
  obtain rfl : args = #[v0] := by cases args; simp_all
  obtain ⟨rfl, rfl⟩ := trodVars_none hV
  obtain ⟨a0, len0, cap0, rfl⟩ := okWide_slice Try.underlying32 (hval 0 32 v0 rfl rfl)
  have k0 := h0
  have lt0 : ∀ x ∈ p0, x.block < W.heap.size := by obtain ⟨m, hm⟩ := k0; exact DataW.trod_lt m _ _ _ hm
  obtain ⟨z0, w0⟩ : ∃ zs, IsRow .u8 W a0 len0 cap0 zs := by
    obtain ⟨fuel, hf⟩ := h0
    rcases open_ints Try.underlying32 Try.underlying5 (by kernel_rfl) hf with ⟨hcs, _⟩ | ⟨x, l, c, zs, hcs, _, hl, hm, hz, _, hcell, hwz⟩
    · simp [Value.cells] at hcs
      obtain ⟨rfl, rfl, rfl⟩ := hcs
      exact ⟨[], .inl ⟨rfl, rfl, rfl, rfl⟩⟩
    · simp [Value.cells] at hcs
      obtain ⟨rfl, rfl, rfl⟩ := hcs
      exact ⟨zs, .inr ⟨_, rfl, hl, hm, by simpa using hz, hcell, hwz⟩⟩
  have y0 : len0 * 1 ≤ 140737488351232 := Go.Proofs.YthpeiboobnnfgaaW.PrintWords.sized_ints hsz (j := 0) (t := 32) rfl rfl Try.underlying32 Try.underlying5 (by kernel_rfl) (by kernel_rfl) h0
  clear hA0 hval0 hsz0 hsz
  refine (E.laws_FnEditText.walk Pure.FnEditText a0 len0 cap0 z0 W w0 y0).mono fun e W' ⟨he, bel⟩ => ?_
  subst he
  exact ⟨_, rfl, _, _, _, [], _, [], hW', trodAll_mk1 (shut_bool Try.underlying4 _), (trodAll_cons_mk (Below.trod laidOut (by kernel_rfl) (of_decide_eq_true (by kernel_rfl)) k0 bel lt0) trodAll_mk0), rfl, bel.frame _, fun h => by cases h⟩
theorem over : Rows.fnEditTextRow.holds Try.pinned (OpenSpec.ofChange Rows.fnEditTextSpec) :=
  OpenClaim.holds_of_wide 11 Try.f11 rfl rfl rfl rfl rfl rfl rfl ⟨rfl, rfl, rfl, rfl, rfl⟩ rfl rfl rfl rfl rfl (by kernel_rfl) Try.func11 (by kernel_rfl)
    (of_decide_eq_true (by kernel_rfl)) (by unfold Func.isWrapper; first | (rw [if_pos (by decide +kernel)]; kernel_rfl) | (rw [if_neg (by decide +kernel)]; exact ⟨rfl, rfl⟩))
    (fun os started H enc _ => lifted os started H enc)
theorem proved : Rows.FnEditTextSaid := over
#print axioms proved
end Go.Proofs.Ythpeiboobnnfgaa.fnEditText
namespace Go.Proofs.Ythpeiboobnnfgaa
theorem fnEditText_holds : Rows.FnEditTextSaid := fnEditText.proved
end Go.Proofs.Ythpeiboobnnfgaa
end
