/- Texts of this claim, joined by a program of this session's (wip/tools/pack.py). -/
import Derived.Test.YtdgmkfbmeaalpaaDoorRowFnPsalmMoveK3
section
namespace Go.Proofs.YtdgmkfbmeaalpaaDoor.E
open Go.RowKit Go.Proofs.YtdgmkfbmeaalpaaDoorW.PrintWords Go.Proofs.YtdgmkfbmeaalpaaDoorW.PrintLast Go.Proofs.YtdgmkfbmeaalpaaDoorW.PrintMore
attribute [local go_sem] max2_int min2_int max_two min_two max_three min_three max_four min_four
set_option linter.unusedVariables false
set_option linter.unusedSimpArgs false
attribute [local go_sem] str_leq_ str_gtr_ str_geq_
def impl_MelodySame.f (k : Nat) (l0 : List (S25)) (l1 : List (S25)) : Option (Bool) := (impl_MelodyValid.f k l0).bind fun t1157 => (if t1157 = true then ((impl_MelodyValid.f k l1).bind fun t1158 => (if t1158 = true then (if (l0.length : Int) = (l1.length : Int) then ((impl_MelodySemis.f k l0).bind fun t1159 => ((impl_MelodySemis.f k l1).bind fun t1162 => ((impl_equalNumbers.f k t1159 t1162).bind fun t1165 => (if t1165 = true then ((impl_MelodySteps.f k l0).bind fun t1166 => ((impl_MelodySteps.f k l1).bind fun t1169 => ((impl_equalNumbers.f k t1166 t1169).bind fun t1172 => (some t1172)))) else (some false))))) else (some false)) else (some false))) else (some false))
set_option maxHeartbeats 8000000 in
set_option maxRecDepth 100000 in
theorem impl_MelodySame.calls (k : Nat) (A0 : Option Addr) (c0 : Nat) (l0 : List (S25)) (A1 : Option Addr) (c1 : Nat) (l1 : List (S25)) (r : Bool) (w : World) (hr0 : Kd.C k25 w A0 l0.length l0) (hc0 : l0.length ≤ c0) (hr1 : Kd.C k25 w A1 l1.length l1) (hc1 : l1.length ≤ c1) (hG : GOk [1] w) (h : impl_MelodySame.f k l0 l1 = some r) :
  Calls Tryd.prog 55 #[.slice A0 l0.length c0, .slice A1 l1.length c1] w fun e w' => e = .returned (.bool r) ∧ Below w.heap.size w w' := by
 have HR0 := Aside0.mk hr0
 have HC0 := Aside0.mk hc0
 clear hr0 hc0
 have HR1 := Aside0.mk hr1
 have HC1 := Aside0.mk hc1
 clear hr1 hc1
 have HB := Q0_ (Below.refl w.heap.size w)
 have HG := Aside0.mk hG
 clear hG
 have H : ((impl_MelodyValid.f k l0).bind fun t1157 => (if t1157 = true then ((impl_MelodyValid.f k l1).bind fun t1158 => (if t1158 = true then (if (l0.length : Int) = (l1.length : Int) then ((impl_MelodySemis.f k l0).bind fun t1159 => ((impl_MelodySemis.f k l1).bind fun t1162 => ((impl_equalNumbers.f k t1159 t1162).bind fun t1165 => (if t1165 = true then ((impl_MelodySteps.f k l0).bind fun t1166 => ((impl_MelodySteps.f k l1).bind fun t1169 => ((impl_equalNumbers.f k t1166 t1169).bind fun t1172 => (some t1172)))) else (some false))))) else (some false)) else (some false))) else (some false))) = some r := h
 clear h
 obtain ⟨t1157, A30, H⟩ := Option.bind_eq_some_iff.mp H
 try dsimp only at H
 have A3 := Aside0.mk A30
 clear A30
 by_cases c4 : t1157 = true
 rotate_left
 ·replace c4 := Bool.eq_false_iff.mpr c4
  subst c4
  replace H := ifN ((show ¬ (false = true) by decide)) H
  obtain rfl := Option.some.inj H
  go_enter Tryd.func55, Tryd.ntmps55
  go_wp2_with (first | ((with_reducible refine gate_callee (f := 75) rfl ?_); refine goesL_ (some 6) rfl rfl Tryd.func75 (by kernel_rfl) rfl #[.slice A0 l0.length c0] rfl hM ?_; (with_reducible refine (impl_MelodyValid.calls k _ _ l0 false _ ?side1 ?side2 A3.out).mono ?_); (case side1 => repeat (first | exact HR0.out | refine C_q ?_)); (case side2 => exact HC0.out); rintro e w35 ⟨rfl, hb⟩; refine ⟨_, rfl, ?_⟩; have n0_ := Q0_ (below_step (upB HB) hb); clear HB; revert n0_; intro HB; (try clear hb); (try clear hb2); (try clear hk); (try clear hi)))
  go_ret
  exact ⟨by first | rfl | (simp [errW_none, errW_some] <;> rfl) | (simp [*, errW_none, errW_some] <;> rfl), by repeat (first | (with_reducible first | exact HB.out | apply below_alloc | apply pw_below_drewN | apply below_drew1) | exact HB.out)⟩
 subst c4
 replace H := ifP (rfl) H
 obtain ⟨t1158, A50, H⟩ := Option.bind_eq_some_iff.mp H
 try dsimp only at H
 have A5 := Aside0.mk A50
 clear A50
 by_cases c6 : t1158 = true
 rotate_left
 ·replace c6 := Bool.eq_false_iff.mpr c6
  subst c6
  replace H := ifN ((show ¬ (false = true) by decide)) H
  obtain rfl := Option.some.inj H
  go_enter Tryd.func55, Tryd.ntmps55
  go_wp2_with (first | ((with_reducible refine gate_callee (f := 75) rfl ?_); refine goesL_ (some 6) rfl rfl Tryd.func75 (by kernel_rfl) rfl #[.slice A0 l0.length c0] rfl hM ?_; (with_reducible refine (impl_MelodyValid.calls k _ _ l0 true _ ?side1 ?side2 A3.out).mono ?_); (case side1 => repeat (first | exact HR0.out | refine C_q ?_)); (case side2 => exact HC0.out); rintro e w33 ⟨rfl, hb⟩; refine ⟨_, rfl, ?_⟩; have n0_ := Q0_ (below_step (upB HB) hb); clear HB; revert n0_; intro HB; (try clear hb); (try clear hb2); (try clear hk); (try clear hi)) | (go_at_call 75; (with_reducible refine (impl_MelodyValid.calls k _ _ l1 false _ ?side1 ?side2 A5.out).mono ?_); (case side1 => repeat (first | exact (Kd.C_below HR1.out HB.out) | refine C_q ?_)); (case side2 => exact HC1.out); rintro e w34 ⟨rfl, hb⟩; have n0_ := Q0_ (below_step (upB HB) hb); clear HB; revert n0_; intro HB; (try clear hb); (try clear hb2); (try clear hk); (try clear hi)))
  go_ret
  exact ⟨by first | rfl | (simp [errW_none, errW_some] <;> rfl) | (simp [*, errW_none, errW_some] <;> rfl), by repeat (first | (with_reducible first | exact HB.out | apply below_alloc | apply pw_below_drewN | apply below_drew1) | exact HB.out)⟩
 subst c6
 replace H := ifP (rfl) H
 by_cases c7 : (l0.length : Int) = (l1.length : Int)
 rotate_left
 ·rw [if_neg c7] at H
  have c7b0 : ((l0.length : Int) == (l1.length : Int)) = false := beq_eq_false_iff_ne.mpr c7
  have c7b1 : ((l0.length : Int) != (l1.length : Int)) = true := bne_iff_ne.mpr c7
  have c7b2 : (l0.length == l1.length) = false := by first | simpa using c7 | (simp at c7 ⊢; omega)
  obtain rfl := Option.some.inj H
  go_enter Tryd.func55, Tryd.ntmps55
  go_wp2_with (first | ((with_reducible refine gate_callee (f := 75) rfl ?_); refine goesL_ (some 6) rfl rfl Tryd.func75 (by kernel_rfl) rfl #[.slice A0 l0.length c0] rfl hM ?_; (with_reducible refine (impl_MelodyValid.calls k _ _ l0 true _ ?side1 ?side2 A3.out).mono ?_); (case side1 => repeat (first | exact HR0.out | refine C_q ?_)); (case side2 => exact HC0.out); rintro e w31 ⟨rfl, hb⟩; refine ⟨_, rfl, ?_⟩; have n0_ := Q0_ (below_step (upB HB) hb); clear HB; revert n0_; intro HB; (try clear hb); (try clear hb2); (try clear hk); (try clear hi)) | (go_at_call 75; (with_reducible refine (impl_MelodyValid.calls k _ _ l1 true _ ?side1 ?side2 A5.out).mono ?_); (case side1 => repeat (first | exact (Kd.C_below HR1.out HB.out) | refine C_q ?_)); (case side2 => exact HC1.out); rintro e w32 ⟨rfl, hb⟩; have n0_ := Q0_ (below_step (upB HB) hb); clear HB; revert n0_; intro HB; (try clear hb); (try clear hb2); (try clear hk); (try clear hi)))
  go_ret
  exact ⟨by first | rfl | (simp [errW_none, errW_some] <;> rfl) | (simp [*, errW_none, errW_some] <;> rfl), by repeat (first | (with_reducible first | exact HB.out | apply below_alloc | apply pw_below_drewN | apply below_drew1) | exact HB.out)⟩
 rw [if_pos c7] at H
 have c7b0 : ((l0.length : Int) == (l1.length : Int)) = true := beq_iff_eq.mpr c7
 have c7b1 : ((l0.length : Int) != (l1.length : Int)) = false := bne_eq_false_iff_eq.mpr c7
 have c7b2 : (l0.length == l1.length) = true := by first | simpa using c7 | (simp at c7 ⊢; omega)
 clear c7
 obtain ⟨t1159, A80, H⟩ := Option.bind_eq_some_iff.mp H
 try dsimp only at H
 have A8 := Aside0.mk A80
 clear A80
 obtain ⟨t1162, A90, H⟩ := Option.bind_eq_some_iff.mp H
 try dsimp only at H
 have A9 := Aside0.mk A90
 clear A90
 obtain ⟨t1165, A100, H⟩ := Option.bind_eq_some_iff.mp H
 try dsimp only at H
 have A10 := Aside0.mk A100
 clear A100
 by_cases c11 : t1165 = true
 rotate_left
 ·replace c11 := Bool.eq_false_iff.mpr c11
  subst c11
  replace H := ifN ((show ¬ (false = true) by decide)) H
  obtain rfl := Option.some.inj H
  go_enter Tryd.func55, Tryd.ntmps55
  go_wp2_with (first | ((with_reducible refine gate_callee (f := 75) rfl ?_); refine goesL_ (some 6) rfl rfl Tryd.func75 (by kernel_rfl) rfl #[.slice A0 l0.length c0] rfl hM ?_; (with_reducible refine (impl_MelodyValid.calls k _ _ l0 true _ ?side1 ?side2 A3.out).mono ?_); (case side1 => repeat (first | exact HR0.out | refine C_q ?_)); (case side2 => exact HC0.out); rintro e w25 ⟨rfl, hb⟩; refine ⟨_, rfl, ?_⟩; have n0_ := Q0_ (below_step (upB HB) hb); clear HB; revert n0_; intro HB; (try clear hb); (try clear hb2); (try clear hk); (try clear hi)) | (go_at_call 75; (with_reducible refine (impl_MelodyValid.calls k _ _ l1 true _ ?side1 ?side2 A5.out).mono ?_); (case side1 => repeat (first | exact (Kd.C_below HR1.out HB.out) | refine C_q ?_)); (case side2 => exact HC1.out); rintro e w26 ⟨rfl, hb⟩; have n0_ := Q0_ (below_step (upB HB) hb); clear HB; revert n0_; intro HB; (try clear hb); (try clear hb2); (try clear hk); (try clear hi)) | (go_at_call 85; (with_reducible refine (impl_MelodySemis.calls k _ _ l0 t1159 _ ?side1 ?side2 ?side3 A8.out).mono ?_); (case side1 => repeat (first | exact (Kd.C_below HR0.out HB.out) | refine C_q ?_)); (case side2 => exact HC0.out); (case side3 => exact GOk.sub (GOk.below HG.out (upB HB)) (by decide)); rintro e w27 ⟨v1160, rfl, ho0, hb⟩; have n0_ := Q0_ (Kd.R_lower ho0 (below_size (upB HB))); have n1_ := Q0_ (below_step (upB HB) hb); clear HB; revert n0_ n1_; intro HO1161 HB; (try clear hb); (try clear hb2); (try clear hk); (try clear hi); (try clear ho0)) | (go_at_call 85; (with_reducible refine (impl_MelodySemis.calls k _ _ l1 t1162 _ ?side1 ?side2 ?side3 A9.out).mono ?_); (case side1 => repeat (first | exact (Kd.C_below HR1.out HB.out) | refine C_q ?_)); (case side2 => exact HC1.out); (case side3 => exact GOk.sub (GOk.below HG.out (upB HB)) (by decide)); rintro e w28 ⟨v1163, rfl, ho0, hb⟩; have n0_ := Q0_ (Kd.R_elder' (upR HO1161) (Kd.R_base ho0) hb); have n1_ := Q0_ (Kd.R_lower (Kd.R_new' ho0 (Kd.R_lt (upR HO1161))) (below_size (upB HB))); have n2_ := Q0_ (below_step (upB HB) hb); clear HO1161 HB; revert n0_ n1_ n2_; intro HO1161 HO1164 HB; (try clear hb); (try clear hb2); (try clear hk); (try clear hi); (try clear ho0); obtain ⟨Ao29, co29, eo29⟩ := Kd.R_slice HO1161.out; subst eo29; obtain ⟨Ao30, co30, eo30⟩ := Kd.R_slice HO1164.out; subst eo30) | (go_at_call 84; (with_reducible refine (impl_equalNumbers.calls k _ _ t1159 _ _ t1162 false _ ?side1 ?side2 ?side3 ?side4 A10.out).mono ?_); (case side1 => repeat (first | exact (Kd.R_reads' HO1161.out).2.2 | refine C_q ?_)); (case side2 => exact (Kd.R_reads' HO1161.out).2.1); (case side3 => repeat (first | exact (Kd.R_reads' HO1164.out).2.2 | refine C_q ?_)); (case side4 => exact (Kd.R_reads' HO1164.out).2.1); rintro e w' ⟨rfl, ⟨nd, rfl⟩⟩))
  go_ret
  exact ⟨by first | rfl | (simp [errW_none, errW_some] <;> rfl) | (simp [*, errW_none, errW_some] <;> rfl), by repeat (first | (with_reducible first | exact HB.out | apply below_alloc | apply pw_below_drewN | apply below_drew1) | exact HB.out)⟩
 subst c11
 replace H := ifP (rfl) H
 obtain ⟨t1166, A120, H⟩ := Option.bind_eq_some_iff.mp H
 try dsimp only at H
 have A12 := Aside0.mk A120
 clear A120
 obtain ⟨t1169, A130, H⟩ := Option.bind_eq_some_iff.mp H
 try dsimp only at H
 have A13 := Aside0.mk A130
 clear A130
 obtain ⟨t1172, A140, H⟩ := Option.bind_eq_some_iff.mp H
 try dsimp only at H
 have A14 := Aside0.mk A140
 clear A140
 obtain rfl := Option.some.inj H
 go_enter Tryd.func55, Tryd.ntmps55
 go_wp2_with (first | ((with_reducible refine gate_callee (f := 75) rfl ?_); refine goesL_ (some 6) rfl rfl Tryd.func75 (by kernel_rfl) rfl #[.slice A0 l0.length c0] rfl hM ?_; (with_reducible refine (impl_MelodyValid.calls k _ _ l0 true _ ?side1 ?side2 A3.out).mono ?_); (case side1 => repeat (first | exact HR0.out | refine C_q ?_)); (case side2 => exact HC0.out); rintro e w15 ⟨rfl, hb⟩; refine ⟨_, rfl, ?_⟩; have n0_ := Q0_ (below_step (upB HB) hb); clear HB; revert n0_; intro HB; (try clear hb); (try clear hb2); (try clear hk); (try clear hi)) | (go_at_call 75; (with_reducible refine (impl_MelodyValid.calls k _ _ l1 true _ ?side1 ?side2 A5.out).mono ?_); (case side1 => repeat (first | exact (Kd.C_below HR1.out HB.out) | refine C_q ?_)); (case side2 => exact HC1.out); rintro e w16 ⟨rfl, hb⟩; have n0_ := Q0_ (below_step (upB HB) hb); clear HB; revert n0_; intro HB; (try clear hb); (try clear hb2); (try clear hk); (try clear hi)) | (go_at_call 85; (with_reducible refine (impl_MelodySemis.calls k _ _ l0 t1159 _ ?side1 ?side2 ?side3 A8.out).mono ?_); (case side1 => repeat (first | exact (Kd.C_below HR0.out HB.out) | refine C_q ?_)); (case side2 => exact HC0.out); (case side3 => exact GOk.sub (GOk.below HG.out (upB HB)) (by decide)); rintro e w17 ⟨v1160, rfl, ho0, hb⟩; have n0_ := Q0_ (Kd.R_lower ho0 (below_size (upB HB))); have n1_ := Q0_ (below_step (upB HB) hb); clear HB; revert n0_ n1_; intro HO1161 HB; (try clear hb); (try clear hb2); (try clear hk); (try clear hi); (try clear ho0)) | (go_at_call 85; (with_reducible refine (impl_MelodySemis.calls k _ _ l1 t1162 _ ?side1 ?side2 ?side3 A9.out).mono ?_); (case side1 => repeat (first | exact (Kd.C_below HR1.out HB.out) | refine C_q ?_)); (case side2 => exact HC1.out); (case side3 => exact GOk.sub (GOk.below HG.out (upB HB)) (by decide)); rintro e w18 ⟨v1163, rfl, ho0, hb⟩; have n0_ := Q0_ (Kd.R_elder' (upR HO1161) (Kd.R_base ho0) hb); have n1_ := Q0_ (Kd.R_lower (Kd.R_new' ho0 (Kd.R_lt (upR HO1161))) (below_size (upB HB))); have n2_ := Q0_ (below_step (upB HB) hb); clear HO1161 HB; revert n0_ n1_ n2_; intro HO1161 HO1164 HB; (try clear hb); (try clear hb2); (try clear hk); (try clear hi); (try clear ho0); obtain ⟨Ao19, co19, eo19⟩ := Kd.R_slice HO1161.out; subst eo19; obtain ⟨Ao20, co20, eo20⟩ := Kd.R_slice HO1164.out; subst eo20) | (go_at_call 84; (with_reducible refine (impl_equalNumbers.calls k _ _ t1159 _ _ t1162 true _ ?side1 ?side2 ?side3 ?side4 A10.out).mono ?_); (case side1 => repeat (first | exact (Kd.R_reads' HO1161.out).2.2 | refine C_q ?_)); (case side2 => exact (Kd.R_reads' HO1161.out).2.1); (case side3 => repeat (first | exact (Kd.R_reads' HO1164.out).2.2 | refine C_q ?_)); (case side4 => exact (Kd.R_reads' HO1164.out).2.1); rintro e w' ⟨rfl, ⟨nd, rfl⟩⟩) | (go_at_call 86; (with_reducible refine (impl_MelodySteps.calls k _ _ l0 t1166 _ ?side1 ?side2 ?side3 A12.out).mono ?_); (case side1 => repeat (first | exact (Kd.C_below HR0.out (upB HB)) | refine C_q ?_)); (case side2 => exact HC0.out); (case side3 => exact GOk.sub (GOk.below HG.out (upB HB)) (by decide)); rintro e w21 ⟨v1167, rfl, ho0, hb⟩; have n0_ := Q0_ (Kd.R_elder' (upR HO1161) (Kd.R_base ho0) hb); have n1_ := Q0_ (Kd.R_elder' (upR HO1164) (Kd.R_base ho0) hb); have n2_ := Q0_ (Kd.R_lower (Kd.R_new' (Kd.R_new' ho0 (Kd.R_lt (upR HO1161))) (Kd.R_lt (upR HO1164))) (below_size (upB HB))); have n3_ := Q0_ (below_step (upB HB) hb); clear HO1161 HO1164 HB; revert n0_ n1_ n2_ n3_; intro HO1161 HO1164 HO1168 HB; (try clear hb); (try clear hb2); (try clear hk); (try clear hi); (try clear ho0)) | (go_at_call 86; (with_reducible refine (impl_MelodySteps.calls k _ _ l1 t1169 _ ?side1 ?side2 ?side3 A13.out).mono ?_); (case side1 => repeat (first | exact (Kd.C_below HR1.out HB.out) | refine C_q ?_)); (case side2 => exact HC1.out); (case side3 => exact GOk.sub (GOk.below HG.out (upB HB)) (by decide)); rintro e w22 ⟨v1170, rfl, ho0, hb⟩; have n0_ := Q0_ (Kd.R_elder' (upR HO1161) (Kd.R_base ho0) hb); have n1_ := Q0_ (Kd.R_elder' (upR HO1164) (Kd.R_base ho0) hb); have n2_ := Q0_ (Kd.R_elder' (upR HO1168) (Kd.R_base ho0) hb); have n3_ := Q0_ (Kd.R_lower (Kd.R_new' (Kd.R_new' (Kd.R_new' ho0 (Kd.R_lt (upR HO1161))) (Kd.R_lt (upR HO1164))) (Kd.R_lt (upR HO1168))) (below_size (upB HB))); have n4_ := Q0_ (below_step (upB HB) hb); clear HO1161 HO1164 HO1168 HB; revert n0_ n1_ n2_ n3_ n4_; intro HO1161 HO1164 HO1168 HO1171 HB; (try clear hb); (try clear hb2); (try clear hk); (try clear hi); (try clear ho0); obtain ⟨Ao23, co23, eo23⟩ := Kd.R_slice HO1168.out; subst eo23; obtain ⟨Ao24, co24, eo24⟩ := Kd.R_slice HO1171.out; subst eo24) | (go_at_call 84; (with_reducible refine (impl_equalNumbers.calls k _ _ t1166 _ _ t1169 t1172 _ ?side1 ?side2 ?side3 ?side4 A14.out).mono ?_); (case side1 => repeat (first | exact (Kd.R_reads' HO1168.out).2.2 | refine C_q ?_)); (case side2 => exact (Kd.R_reads' HO1168.out).2.1); (case side3 => repeat (first | exact (Kd.R_reads' HO1171.out).2.2 | refine C_q ?_)); (case side4 => exact (Kd.R_reads' HO1171.out).2.1); rintro e w' ⟨rfl, ⟨nd, rfl⟩⟩))
 go_ret
 exact ⟨by first | rfl | (simp [errW_none, errW_some] <;> rfl) | (simp [*, errW_none, errW_some] <;> rfl), by repeat (first | (with_reducible first | exact HB.out | apply below_alloc | apply pw_below_drewN | apply below_drew1) | exact HB.out)⟩
mutual
def laws_FnPsalmMove.j0 : Nat → List Int → List Int → Bool → Option (Bool)
 | 0, _, _, _ => none
 | k + 1, x0, x1, x23 => if x23 = true then (some true) else ((spec_DrawPsalmMove.f k x0).bind fun bt1173 => ((impl_PsalmMove.f k bt1173.1 bt1173.2.1 bt1173.2.2.1 bt1173.2.2.2.1 bt1173.2.2.2.2.1 bt1173.2.2.2.2.2).bind fun bt1186 => ((spec_PsalmMove.f k bt1173.1 bt1173.2.1 bt1173.2.2.1 bt1173.2.2.2.1 bt1173.2.2.2.2.1 bt1173.2.2.2.2.2).bind fun bt1199 => (if (bt1186.2.2.2.2.2 != bt1199.2.2.2.2.2) = true then (laws_FnPsalmMove.j1 k x1 bt1186.2.2.2.2.2 bt1199.2.2.2.2.2 true bt1173.1 bt1173.2.1 bt1173.2.2.1 bt1173.2.2.2.1 bt1173.2.2.2.2.1 bt1186.1 bt1186.2.1 bt1186.2.2.1 bt1186.2.2.2.1 bt1186.2.2.2.2.1 bt1199.1 bt1199.2.1 bt1199.2.2.1 bt1199.2.2.2.1 bt1199.2.2.2.2.1) else ((laws_samePsalm.f k bt1186.1 bt1186.2.1 bt1186.2.2.1 bt1186.2.2.2.1 bt1186.2.2.2.2.1 bt1199.1 bt1199.2.1 bt1199.2.2.1 bt1199.2.2.2.1 bt1199.2.2.2.2.1).bind fun t1212 => (if t1212 = true then (laws_FnPsalmMove.j1 k x1 bt1186.2.2.2.2.2 bt1199.2.2.2.2.2 (!bt1186.2.2.2.2.2) bt1173.1 bt1173.2.1 bt1173.2.2.1 bt1173.2.2.2.1 bt1173.2.2.2.2.1 bt1186.1 bt1186.2.1 bt1186.2.2.1 bt1186.2.2.2.1 bt1186.2.2.2.2.1 bt1199.1 bt1199.2.1 bt1199.2.2.1 bt1199.2.2.2.1 bt1199.2.2.2.2.1) else (laws_FnPsalmMove.j1 k x1 bt1186.2.2.2.2.2 bt1199.2.2.2.2.2 true bt1173.1 bt1173.2.1 bt1173.2.2.1 bt1173.2.2.2.1 bt1173.2.2.2.2.1 bt1186.1 bt1186.2.1 bt1186.2.2.1 bt1186.2.2.2.1 bt1186.2.2.2.2.1 bt1199.1 bt1199.2.1 bt1199.2.2.1 bt1199.2.2.2.1 bt1199.2.2.2.2.1)))))))
def laws_FnPsalmMove.j1 : Nat → List Int → Bool → Bool → Bool → List (S25) → Int → Bool → List (S25) → List (S25) → List (S25) → Int → Bool → List (S25) → List (S25) → List (S25) → Int → Bool → List (S25) → List (S25) → Option (Bool)
 | 0, _, _, _, _, _, _, _, _, _, _, _, _, _, _, _, _, _, _, _ => none
 | k + 1, x1, x8, x10, x53, x1186000, x1186001, x1186002, x1186003, x1186004, x1199000, x1199001, x1199002, x1199003, x1199004, x1212000, x1212001, x1212002, x1212003, x1212004 => if x53 = true then (if (x8 == x10) = true then ((laws_samePsalm.f k x1199000 x1199001 x1199002 x1199003 x1199004 x1212000 x1212001 x1212002 x1212003 x1212004).bind fun t1213 => (some t1213)) else (none)) else ((some (([(⟨#[120, 120, 47, 120, 124, 120, 47, 120]⟩ : ByteArray), (⟨#[120, 47, 120, 120, 47, 120, 120, 124, 120, 120, 47, 120, 47, 120, 120]⟩ : ByteArray), (⟨#[120, 124, 120]⟩ : ByteArray), (⟨#[47, 47, 47, 47, 47, 47, 124, 47, 47, 47, 47]⟩ : ByteArray)] : List ByteArray) : List ByteArray)).bind fun y1214 => (if 0 ≤ ((x1.length : Int) % 4) then (if ((x1.length : Int) % 4) < (y1214.length : Int) then ((impl_PsalmSing.f k x1186000 x1186001 x1186002 x1186003 x1186004 (rdOf ByteArray.empty y1214 ((x1.length : Int) % 4))).bind fun bt1218 => ((impl_PsalmSing.f k x1199000 x1199001 x1199002 x1199003 x1199004 (rdOf ByteArray.empty y1214 ((x1.length : Int) % 4))).bind fun bt1222 => ((impl_PsalmFits.f k x1199000 x1199001 x1199002 x1199003 x1199004 (rdOf ByteArray.empty y1214 ((x1.length : Int) % 4))).bind fun t1226 => ((impl_PsalmFits.f k x1186000 x1186001 x1186002 x1186003 x1186004 (rdOf ByteArray.empty y1214 ((x1.length : Int) % 4))).bind fun t1227 => (if (t1226 == t1227) = true then (if (bt1218.2 == bt1222.2) = true then (if bt1218.2 = true then ((impl_MelodySame.f k bt1218.1 bt1222.1).bind fun t1228 => (if t1228 = true then ((impl_PsalmValid.f k x1199000 x1199001 x1199002 x1199003 x1199004).bind fun t1229 => (some t1229)) else (none))) else ((impl_PsalmValid.f k x1199000 x1199001 x1199002 x1199003 x1199004).bind fun t1230 => (some t1230))) else (none)) else (none)))))) else (none)) else (none)))
end
def laws_FnPsalmMove.f (k : Nat) (l0 : List Int) (l1 : List Int) : Option (Bool) := if (l0.length : Int) > 1048576 then (laws_FnPsalmMove.j0 k l0 l1 true) else (laws_FnPsalmMove.j0 k l0 l1 (decide ((l1.length : Int) > 1048576)))
def laws_FnPsalmMove.T11 : Bool × List (List Nat × List Nat) := (true, [([], []), ([], []), ([0, 1], [0, 1]), ([], []), ([], []), ([3, 4, 2], [3, 4]), ([2, 5], [2, 5]), ([6, 5], [6]), ([7], [7]), ([7], [7]), ([8, 9, 7], [7, 8, 9]), ([7, 10], [7, 10]), ([11, 7], [11]), ([12], [12]), ([13, 12], [12, 13]), ([14, 12, 12], [12, 14]), ([15], [15]), ([15], [15]), ([16, 17, 15, 15], [15, 16, 17]), ([15, 18, 12], [12, 15, 18]), ([12, 19], [12, 19]), ([20, 18], [20]), ([21], [21]), ([22, 21, 21], [21, 22]), ([21, 23], [21, 23]), ([24, 23, 0, 1, 2, 3, 4, 5, 6, 7, 8, 9, 10, 11, 12, 13, 14, 15, 16, 17, 18, 19, 20, 21, 22, 23, 24], [24])])
def laws_FnPsalmMove.B11 : List Nat := [0, 0, 3, 0, 0, 31, 63, 127, 255, 255, 1023, 2047, 4095, 8191, 16383, 32767, 65535, 65535, 262143, 524287, 1048575, 2097151, 4194303, 8388607, 16777215, 33554431]
theorem laws_FnPsalmMove.tab11 : rtab .any (opsOf Tryd.f14 11) = laws_FnPsalmMove.T11 := by kernel_rfl
theorem laws_FnPsalmMove.bits11 : waitsOk laws_FnPsalmMove.T11.2 laws_FnPsalmMove.B11 = true := by kernel_rfl
set_option maxHeartbeats 8000000 in
set_option maxRecDepth 100000 in
theorem laws_FnPsalmMove.calls (k : Nat) (A0 : Option Addr) (c0 : Nat) (l0 : List Int) (A1 : Option Addr) (c1 : Nat) (l1 : List Int) (r : Bool) (w : World) (hr0 : Kd.C (Kd.int .u8) w A0 l0.length l0) (hc0 : l0.length ≤ c0) (hr1 : Kd.C (Kd.int .u8) w A1 l1.length l1) (hc1 : l1.length ≤ c1) (hG : GOk [0, 1] w) (h : laws_FnPsalmMove.f k l0 l1 = some r) :
  Calls Tryd.prog 14 #[.slice A0 l0.length c0, .slice A1 l1.length c1] w fun e w' => e = .returned (.bool r) ∧ Below w.heap.size w w' := by
 have hu27 := Tryd.underlying27
 have HR0 := Aside0.mk hr0
 have HC0 := Aside0.mk hc0
 clear hr0 hc0
 have HR1 := Aside0.mk hr1
 have HC1 := Aside0.mk hc1
 clear hr1 hc1
 have HB := Q0_ (Below.refl w.heap.size w)
 have HG := Aside0.mk hG
 clear hG
 have H : (if (l0.length : Int) > 1048576 then (laws_FnPsalmMove.j0 k l0 l1 true) else (laws_FnPsalmMove.j0 k l0 l1 (decide ((l1.length : Int) > 1048576)))) = some r := h
 clear h
 have HC3 := Aside0.mk H
 clear H
 go_enter Tryd.func14, Tryd.ntmps14
 go_upto_region 1 with (fail)
 go_cut [23] (fun v23 wc => ∃ (kq : Nat) (x23_2 : Bool), v23 = .bool x23_2 ∧ Aside0 (laws_FnPsalmMove.j0 kq l0 l1 x23_2 = some r) ∧ Aside0 (kq ≤ k) ∧ Aside0 (Below w.heap.size w wc))
 case first =>
  have H := HC3.out
  clear HC3
  by_cases c4 : (l0.length : Int) > 1048576
  rotate_left
  ·rw [if_neg c4] at H
   have c4b0 : decide (1048576 < (l0.length : Int)) = false := decide_eq_false c4
   have c4b1 : decide (1048576 < l0.length) = false := decide_eq_false (by omega)
   clear c4
   (first | rw [c4b0] | (simp only [i64_w, i32_w]; rw [c4b0]) | skip)
   have H' := Aside0.mk H
   clear H
   go_wp2
   go_meet
   case rel => exact ⟨_, (decide ((l1.length : Int) > 1048576)), eX, H', ⟨by first | omega | exact Nat.le_refl _⟩, ⟨by repeat (first | (with_reducible first | exact HB.out | apply below_alloc | apply pw_below_drewN | apply below_drew1) | exact HB.out)⟩⟩
  rw [if_pos c4] at H
  have c4b0 : decide (1048576 < (l0.length : Int)) = true := decide_eq_true c4
  have c4b1 : decide (1048576 < l0.length) = true := decide_eq_true (by omega)
  clear c4
  (first | rw [c4b0] | (simp only [i64_w, i32_w]; rw [c4b0]) | skip)
  have H' := Aside0.mk H
  clear H
  go_wp2
  go_meet
  case rel => exact ⟨_, (true), eX, H', ⟨by first | omega | exact Nat.le_refl _⟩, ⟨by repeat (first | (with_reducible first | exact HB.out | apply below_alloc | apply pw_below_drewN | apply below_drew1) | exact HB.out)⟩⟩
 case rest =>
  clear HC3
  try clear c1
  try clear p2
  try clear c4
  try clear c4b0
  try clear c4b1
  obtain ⟨kq, x23_2, rfl, HA, HJ2, HB⟩ := hcut
  cases kq with
  | zero => exact absurd HA.out (by simp [laws_FnPsalmMove.j0])
  | succ kj2 =>
   have H := HA.out
   clear HA
   simp only [laws_FnPsalmMove.j0] at H
   by_cases c5 : x23_2 = true
   ·subst c5
    replace H := ifP (rfl) H
    obtain rfl := Option.some.inj H
    go_wp2
    go_ret
    exact ⟨by first | rfl | (simp [errW_none, errW_some] <;> rfl) | (simp [*, errW_none, errW_some] <;> rfl), by repeat (first | (with_reducible first | exact HB.out | apply below_alloc | apply pw_below_drewN | apply below_drew1) | exact HB.out)⟩
   replace c5 := Bool.eq_false_iff.mpr c5
   subst c5
   replace H := ifN ((show ¬ (false = true) by decide)) H
   obtain ⟨⟨t1173, t1176, t1177, t1178, t1181, t1184⟩, A60, H⟩ := Option.bind_eq_some_iff.mp H
   try dsimp only at H
   have A6 := Aside0.mk A60
   clear A60
   obtain ⟨⟨t1186, t1189, t1190, t1191, t1194, t1197⟩, A70, H⟩ := Option.bind_eq_some_iff.mp H
   try dsimp only at H
   have A7 := Aside0.mk A70
   clear A70
   obtain ⟨⟨t1199, t1202, t1203, t1204, t1207, t1210⟩, A80, H⟩ := Option.bind_eq_some_iff.mp H
   try dsimp only at H
   have A8 := Aside0.mk A80
   clear A80
   have HC9 := Aside0.mk H
   clear H
   go_upto_region 6 with (first | ((with_reducible refine gate_callee (f := 51) rfl ?_); refine goesL_ (some 26) rfl rfl Tryd.func51 (by kernel_rfl) rfl #[.slice A0 l0.length c0] rfl hM ?_; (with_reducible refine (spec_DrawPsalmMove.calls kj2 _ _ l0 t1173 t1176 t1177 t1178 t1181 t1184 _ ?side1 ?side2 A6.out).mono ?_); (case side1 => repeat (first | exact (Kd.C_below HR0.out HB.out) | refine C_q ?_)); (case side2 => exact HC0.out); rintro e w10 ⟨v1174, v1179, v1182, rfl, ho0, ho1, ho2, hb⟩; refine ⟨_, rfl, ?_⟩; have n0_ := Q0_ (Kd.R_lower ho0 (below_size (upB HB))); have n1_ := Q0_ (Kd.R_lower ho1 (below_size (upB HB))); have n2_ := Q0_ (Kd.R_lower ho2 (below_size (upB HB))); have n3_ := Q0_ (below_step (upB HB) hb); clear HB; revert n0_ n1_ n2_ n3_; intro HO1175 HO1180 HO1183 HB; (try clear hb); (try clear hb2); (try clear hk); (try clear hi); (try clear ho0); (try clear ho1); (try clear ho2)) | ((with_reducible refine gate_dst (N := 5) rfl ?_); (try (refine gate_guard (by rfl) ?_; dsimp only)); refine box_event ?hg (N := 5) ?hd (cs := #[.slice none 0 0, .int .i64 0, .bool false, .slice none 0 0, .slice none 0 0]) (t := 27) ?hr ?_; (case hd => rfl); (case hg => rfl); (case hr => first | (go_simp; done) | (go_simp; rfl)); intro gb1185 hg w11 hbox hb; have n0_ := Q0_ (Kd.R_below (upR HO1175) hb); have n1_ := Q0_ (Kd.R_below (upR HO1180) hb); have n2_ := Q0_ (Kd.R_below (upR HO1183) hb); have n3_ := Q0_ (below_step (upB HB) hb); have n4_ := Q0_ (hbox); have n5_ := Q0_ ((by rw [hg]; exact (below_size (upB HB)) : w.heap.size ≤ gb1185)); have n6_ := Q0_ ((by rw [hg]; exact (below_size (upB HB)) : w.heap.size ≤ gb1185)); clear HO1175 HO1180 HO1183 HB; revert n0_ n1_ n2_ n3_ n4_ n5_ n6_; intro HO1175 HO1180 HO1183 HB BK1185 GW1185 GE1185; clear hb hbox hg; obtain ⟨Ao12, co12, eo12⟩ := Kd.R_slice HO1175.out; subst eo12; have hcz13_0 : w11.cell? ⟨gb1185, 0, none⟩ = some (.slice none 0 0) := (blk_cell BK1185.out 0).trans rfl; have hcz13_1 : w11.cell? ⟨gb1185, 1, none⟩ = some (.int .i64 0) := (blk_cell BK1185.out 1).trans rfl; have hcz13_2 : w11.cell? ⟨gb1185, 2, none⟩ = some (.bool false) := (blk_cell BK1185.out 2).trans rfl; have hcz13_3 : w11.cell? ⟨gb1185, 3, none⟩ = some (.slice none 0 0) := (blk_cell BK1185.out 3).trans rfl; have hcz13_4 : w11.cell? ⟨gb1185, 4, none⟩ = some (.slice none 0 0) := (blk_cell BK1185.out 4).trans rfl; have hfz13_0 := blk_frozen BK1185.out 0; have hfz13_1 := blk_frozen BK1185.out 1; have hfz13_2 := blk_frozen BK1185.out 2; have hfz13_3 := blk_frozen BK1185.out 3; have hfz13_4 := blk_frozen BK1185.out 4; obtain ⟨Ao14, co14, eo14⟩ := Kd.R_slice HO1180.out; subst eo14; obtain ⟨Ao15, co15, eo15⟩ := Kd.R_slice HO1183.out; subst eo15) | ((with_reducible refine gate_callee (f := 52) rfl ?_); refine goesL_ (some 32) rfl rfl Tryd.func52 (by kernel_rfl) rfl #[.agg #[.slice Ao12 t1173.length co12, .int .i64 t1176, .bool t1177, .slice Ao14 t1178.length co14, .slice Ao15 t1181.length co15], .int .i64 t1184] rfl hM ?_; (with_reducible refine (impl_PsalmMove.calls kj2 _ _ t1173 t1176 t1177 _ _ t1178 _ _ t1181 t1184 t1186 t1189 t1190 t1191 t1194 t1197 _ ?side1 ?side2 ?side3 ?side4 ?side5 ?side6 ?side7 A7.out).mono ?_); (case side1 => refine (Kd.R_reads' (e := 25) (base := w.heap.size) (ok := fun k_ => (nb k_ (.slice Ao14 t1178.length co14) ∧ nb k_ (.slice Ao15 t1181.length co15))) (n := t1173.length) (c := co12) ?_).2.2; exact (upR' ((Kd.R_mono (Kd.R_far (p := ⟨gb1185, 4, none⟩) (Kd.R_far (p := ⟨gb1185, 3, none⟩) (Kd.R_far (p := ⟨gb1185, 2, none⟩) (Kd.R_far (p := ⟨gb1185, 1, none⟩) (Kd.R_far (p := ⟨gb1185, 0, none⟩) (Kd.R_types HO1175.out BK1185.out (by decide)) (fun _ hk => hk.2) (.slice Ao12 t1173.length co12)) (fun _ hk => hk.2) (.int .i64 t1176)) (fun _ hk => hk.2) (.bool t1177)) (fun _ hk => hk.2) (.slice Ao14 t1178.length co14)) (fun _ hk => hk.2) (.slice Ao15 t1181.length co15)) (fun _ h_ => h_.1))))); (case side2 => exact (Kd.R_reads' HO1175.out).2.1); (case side3 => refine (Kd.R_reads' (e := 25) (base := w.heap.size) (ok := fun k_ => (nb k_ (.slice Ao12 t1173.length co12) ∧ nb k_ (.slice Ao15 t1181.length co15))) (n := t1178.length) (c := co14) ?_).2.2; exact (upR' ((Kd.R_mono (Kd.R_far (p := ⟨gb1185, 4, none⟩) (Kd.R_far (p := ⟨gb1185, 3, none⟩) (Kd.R_far (p := ⟨gb1185, 2, none⟩) (Kd.R_far (p := ⟨gb1185, 1, none⟩) (Kd.R_far (p := ⟨gb1185, 0, none⟩) (Kd.R_types HO1180.out BK1185.out (by decide)) (fun _ hk => hk.2) (.slice Ao12 t1173.length co12)) (fun _ hk => hk.2) (.int .i64 t1176)) (fun _ hk => hk.2) (.bool t1177)) (fun _ hk => hk.2) (.slice Ao14 t1178.length co14)) (fun _ hk => hk.2) (.slice Ao15 t1181.length co15)) (fun _ h_ => h_.1))))); (case side4 => exact (Kd.R_reads' HO1180.out).2.1); (case side5 => refine (Kd.R_reads' (e := 25) (base := w.heap.size) (ok := fun k_ => (nb k_ (.slice Ao12 t1173.length co12) ∧ nb k_ (.slice Ao14 t1178.length co14))) (n := t1181.length) (c := co15) ?_).2.2; exact (upR' ((Kd.R_mono (Kd.R_far (p := ⟨gb1185, 4, none⟩) (Kd.R_far (p := ⟨gb1185, 3, none⟩) (Kd.R_far (p := ⟨gb1185, 2, none⟩) (Kd.R_far (p := ⟨gb1185, 1, none⟩) (Kd.R_far (p := ⟨gb1185, 0, none⟩) (Kd.R_types HO1183.out BK1185.out (by decide)) (fun _ hk => hk.2) (.slice Ao12 t1173.length co12)) (fun _ hk => hk.2) (.int .i64 t1176)) (fun _ hk => hk.2) (.bool t1177)) (fun _ hk => hk.2) (.slice Ao14 t1178.length co14)) (fun _ hk => hk.2) (.slice Ao15 t1181.length co15)) (fun _ h_ => h_.1))))); (case side6 => exact (Kd.R_reads' HO1183.out).2.1); (case side7 => exact GOk.sub (GOk.below HG.out upH) (by decide)); rintro e w16 ⟨v1187, v1192, v1195, rfl, ho0, ho1, ho2, hb⟩; refine ⟨_, rfl, ?_⟩; have n0_ := Q0_ (Kd.R_mono (Kd.R_told (Kd.R_told (Kd.R_told (Kd.R_old (upR' ((Kd.R_mono (Kd.R_far (p := ⟨gb1185, 4, none⟩) (Kd.R_far (p := ⟨gb1185, 3, none⟩) (Kd.R_far (p := ⟨gb1185, 2, none⟩) (Kd.R_far (p := ⟨gb1185, 1, none⟩) (Kd.R_far (p := ⟨gb1185, 0, none⟩) (Kd.R_types HO1175.out BK1185.out (by decide)) (fun _ hk => hk.2) (.slice Ao12 t1173.length co12)) (fun _ hk => hk.2) (.int .i64 t1176)) (fun _ hk => hk.2) (.bool t1177)) (fun _ hk => hk.2) (.slice Ao14 t1178.length co14)) (fun _ hk => hk.2) (.slice Ao15 t1181.length co15)) (fun _ h_ => h_.1)))) hb) (Kd.R_base ho0)) (Kd.R_base ho1)) (Kd.R_base ho2)) (fun _ h_ => h_.1)); have n1_ := Q0_ (Kd.R_mono (Kd.R_told (Kd.R_told (Kd.R_told (Kd.R_old (upR' ((Kd.R_mono (Kd.R_far (p := ⟨gb1185, 4, none⟩) (Kd.R_far (p := ⟨gb1185, 3, none⟩) (Kd.R_far (p := ⟨gb1185, 2, none⟩) (Kd.R_far (p := ⟨gb1185, 1, none⟩) (Kd.R_far (p := ⟨gb1185, 0, none⟩) (Kd.R_types HO1180.out BK1185.out (by decide)) (fun _ hk => hk.2) (.slice Ao12 t1173.length co12)) (fun _ hk => hk.2) (.int .i64 t1176)) (fun _ hk => hk.2) (.bool t1177)) (fun _ hk => hk.2) (.slice Ao14 t1178.length co14)) (fun _ hk => hk.2) (.slice Ao15 t1181.length co15)) (fun _ h_ => h_.1)))) hb) (Kd.R_base ho0)) (Kd.R_base ho1)) (Kd.R_base ho2)) (fun _ h_ => h_.1)); have n2_ := Q0_ (Kd.R_mono (Kd.R_told (Kd.R_told (Kd.R_told (Kd.R_old (upR' ((Kd.R_mono (Kd.R_far (p := ⟨gb1185, 4, none⟩) (Kd.R_far (p := ⟨gb1185, 3, none⟩) (Kd.R_far (p := ⟨gb1185, 2, none⟩) (Kd.R_far (p := ⟨gb1185, 1, none⟩) (Kd.R_far (p := ⟨gb1185, 0, none⟩) (Kd.R_types HO1183.out BK1185.out (by decide)) (fun _ hk => hk.2) (.slice Ao12 t1173.length co12)) (fun _ hk => hk.2) (.int .i64 t1176)) (fun _ hk => hk.2) (.bool t1177)) (fun _ hk => hk.2) (.slice Ao14 t1178.length co14)) (fun _ hk => hk.2) (.slice Ao15 t1181.length co15)) (fun _ h_ => h_.1)))) hb) (Kd.R_base ho0)) (Kd.R_base ho1)) (Kd.R_base ho2)) (fun _ h_ => h_.1)); have n3_ := Q0_ (Kd.R_lower (Kd.R_new' (Kd.R_new' (Kd.R_new' ho0 (Kd.R_lt (upR' ((Kd.R_mono (Kd.R_far (p := ⟨gb1185, 4, none⟩) (Kd.R_far (p := ⟨gb1185, 3, none⟩) (Kd.R_far (p := ⟨gb1185, 2, none⟩) (Kd.R_far (p := ⟨gb1185, 1, none⟩) (Kd.R_far (p := ⟨gb1185, 0, none⟩) (Kd.R_types HO1175.out BK1185.out (by decide)) (fun _ hk => hk.2) (.slice Ao12 t1173.length co12)) (fun _ hk => hk.2) (.int .i64 t1176)) (fun _ hk => hk.2) (.bool t1177)) (fun _ hk => hk.2) (.slice Ao14 t1178.length co14)) (fun _ hk => hk.2) (.slice Ao15 t1181.length co15)) (fun _ h_ => h_.1)))))) (Kd.R_lt (upR' ((Kd.R_mono (Kd.R_far (p := ⟨gb1185, 4, none⟩) (Kd.R_far (p := ⟨gb1185, 3, none⟩) (Kd.R_far (p := ⟨gb1185, 2, none⟩) (Kd.R_far (p := ⟨gb1185, 1, none⟩) (Kd.R_far (p := ⟨gb1185, 0, none⟩) (Kd.R_types HO1180.out BK1185.out (by decide)) (fun _ hk => hk.2) (.slice Ao12 t1173.length co12)) (fun _ hk => hk.2) (.int .i64 t1176)) (fun _ hk => hk.2) (.bool t1177)) (fun _ hk => hk.2) (.slice Ao14 t1178.length co14)) (fun _ hk => hk.2) (.slice Ao15 t1181.length co15)) (fun _ h_ => h_.1)))))) (Kd.R_lt (upR' ((Kd.R_mono (Kd.R_far (p := ⟨gb1185, 4, none⟩) (Kd.R_far (p := ⟨gb1185, 3, none⟩) (Kd.R_far (p := ⟨gb1185, 2, none⟩) (Kd.R_far (p := ⟨gb1185, 1, none⟩) (Kd.R_far (p := ⟨gb1185, 0, none⟩) (Kd.R_types HO1183.out BK1185.out (by decide)) (fun _ hk => hk.2) (.slice Ao12 t1173.length co12)) (fun _ hk => hk.2) (.int .i64 t1176)) (fun _ hk => hk.2) (.bool t1177)) (fun _ hk => hk.2) (.slice Ao14 t1178.length co14)) (fun _ hk => hk.2) (.slice Ao15 t1181.length co15)) (fun _ h_ => h_.1)))))) (below_size upH)); have n4_ := Q0_ (Kd.R_lower (Kd.R_new' (Kd.R_new' (Kd.R_new' ho1 (Kd.R_lt (upR' ((Kd.R_mono (Kd.R_far (p := ⟨gb1185, 4, none⟩) (Kd.R_far (p := ⟨gb1185, 3, none⟩) (Kd.R_far (p := ⟨gb1185, 2, none⟩) (Kd.R_far (p := ⟨gb1185, 1, none⟩) (Kd.R_far (p := ⟨gb1185, 0, none⟩) (Kd.R_types HO1175.out BK1185.out (by decide)) (fun _ hk => hk.2) (.slice Ao12 t1173.length co12)) (fun _ hk => hk.2) (.int .i64 t1176)) (fun _ hk => hk.2) (.bool t1177)) (fun _ hk => hk.2) (.slice Ao14 t1178.length co14)) (fun _ hk => hk.2) (.slice Ao15 t1181.length co15)) (fun _ h_ => h_.1)))))) (Kd.R_lt (upR' ((Kd.R_mono (Kd.R_far (p := ⟨gb1185, 4, none⟩) (Kd.R_far (p := ⟨gb1185, 3, none⟩) (Kd.R_far (p := ⟨gb1185, 2, none⟩) (Kd.R_far (p := ⟨gb1185, 1, none⟩) (Kd.R_far (p := ⟨gb1185, 0, none⟩) (Kd.R_types HO1180.out BK1185.out (by decide)) (fun _ hk => hk.2) (.slice Ao12 t1173.length co12)) (fun _ hk => hk.2) (.int .i64 t1176)) (fun _ hk => hk.2) (.bool t1177)) (fun _ hk => hk.2) (.slice Ao14 t1178.length co14)) (fun _ hk => hk.2) (.slice Ao15 t1181.length co15)) (fun _ h_ => h_.1)))))) (Kd.R_lt (upR' ((Kd.R_mono (Kd.R_far (p := ⟨gb1185, 4, none⟩) (Kd.R_far (p := ⟨gb1185, 3, none⟩) (Kd.R_far (p := ⟨gb1185, 2, none⟩) (Kd.R_far (p := ⟨gb1185, 1, none⟩) (Kd.R_far (p := ⟨gb1185, 0, none⟩) (Kd.R_types HO1183.out BK1185.out (by decide)) (fun _ hk => hk.2) (.slice Ao12 t1173.length co12)) (fun _ hk => hk.2) (.int .i64 t1176)) (fun _ hk => hk.2) (.bool t1177)) (fun _ hk => hk.2) (.slice Ao14 t1178.length co14)) (fun _ hk => hk.2) (.slice Ao15 t1181.length co15)) (fun _ h_ => h_.1)))))) (below_size upH)); have n5_ := Q0_ (Kd.R_lower (Kd.R_new' (Kd.R_new' (Kd.R_new' ho2 (Kd.R_lt (upR' ((Kd.R_mono (Kd.R_far (p := ⟨gb1185, 4, none⟩) (Kd.R_far (p := ⟨gb1185, 3, none⟩) (Kd.R_far (p := ⟨gb1185, 2, none⟩) (Kd.R_far (p := ⟨gb1185, 1, none⟩) (Kd.R_far (p := ⟨gb1185, 0, none⟩) (Kd.R_types HO1175.out BK1185.out (by decide)) (fun _ hk => hk.2) (.slice Ao12 t1173.length co12)) (fun _ hk => hk.2) (.int .i64 t1176)) (fun _ hk => hk.2) (.bool t1177)) (fun _ hk => hk.2) (.slice Ao14 t1178.length co14)) (fun _ hk => hk.2) (.slice Ao15 t1181.length co15)) (fun _ h_ => h_.1)))))) (Kd.R_lt (upR' ((Kd.R_mono (Kd.R_far (p := ⟨gb1185, 4, none⟩) (Kd.R_far (p := ⟨gb1185, 3, none⟩) (Kd.R_far (p := ⟨gb1185, 2, none⟩) (Kd.R_far (p := ⟨gb1185, 1, none⟩) (Kd.R_far (p := ⟨gb1185, 0, none⟩) (Kd.R_types HO1180.out BK1185.out (by decide)) (fun _ hk => hk.2) (.slice Ao12 t1173.length co12)) (fun _ hk => hk.2) (.int .i64 t1176)) (fun _ hk => hk.2) (.bool t1177)) (fun _ hk => hk.2) (.slice Ao14 t1178.length co14)) (fun _ hk => hk.2) (.slice Ao15 t1181.length co15)) (fun _ h_ => h_.1)))))) (Kd.R_lt (upR' ((Kd.R_mono (Kd.R_far (p := ⟨gb1185, 4, none⟩) (Kd.R_far (p := ⟨gb1185, 3, none⟩) (Kd.R_far (p := ⟨gb1185, 2, none⟩) (Kd.R_far (p := ⟨gb1185, 1, none⟩) (Kd.R_far (p := ⟨gb1185, 0, none⟩) (Kd.R_types HO1183.out BK1185.out (by decide)) (fun _ hk => hk.2) (.slice Ao12 t1173.length co12)) (fun _ hk => hk.2) (.int .i64 t1176)) (fun _ hk => hk.2) (.bool t1177)) (fun _ hk => hk.2) (.slice Ao14 t1178.length co14)) (fun _ hk => hk.2) (.slice Ao15 t1181.length co15)) (fun _ h_ => h_.1)))))) (below_size upH)); have n6_ := Q0_ (blk_below (g := gb1185) (o := .cells #[.slice Ao12 t1173.length co12, .int .i64 t1176, .bool t1177, .slice Ao14 t1178.length co14, .slice Ao15 t1181.length co15] 27 (0, 0)) (by (repeat refine blk_q ?_); refine blk_put (cs := #[.slice Ao12 t1173.length co12, .int .i64 t1176, .bool t1177, .slice Ao14 t1178.length co14, .slice none 0 0]) ?_ 4 _ rfl; (repeat refine blk_q ?_); refine blk_put (cs := #[.slice Ao12 t1173.length co12, .int .i64 t1176, .bool t1177, .slice none 0 0, .slice none 0 0]) ?_ 3 _ rfl; (repeat refine blk_q ?_); refine blk_put (cs := #[.slice Ao12 t1173.length co12, .int .i64 t1176, .bool false, .slice none 0 0, .slice none 0 0]) ?_ 2 _ rfl; (repeat refine blk_q ?_); refine blk_put (cs := #[.slice Ao12 t1173.length co12, .int .i64 0, .bool false, .slice none 0 0, .slice none 0 0]) ?_ 1 _ rfl; (repeat refine blk_q ?_); refine blk_put (cs := #[.slice none 0 0, .int .i64 0, .bool false, .slice none 0 0, .slice none 0 0]) ?_ 0 _ rfl; (repeat refine blk_q ?_); exact BK1185.out) hb); have n7_ := Q0_ (below_step upH hb); clear HO1175 HO1180 HO1183 BK1185 HB; revert n0_ n1_ n2_ n3_ n4_ n5_ n6_ n7_; intro HO1175 HO1180 HO1183 HO1188 HO1193 HO1196 BK1185 HB; (try clear hb); (try clear hb2); (try clear hk); (try clear hi); (try clear ho0); (try clear ho1); (try clear ho2)) | ((with_reducible refine gate_dst (N := 7) rfl ?_); (try (refine gate_guard (by rfl) ?_; dsimp only)); refine box_event ?hg (N := 7) ?hd (cs := #[.slice none 0 0, .int .i64 0, .bool false, .slice none 0 0, .slice none 0 0]) (t := 27) ?hr ?_; (case hd => rfl); (case hg => rfl); (case hr => first | (go_simp; done) | (go_simp; rfl)); intro gb1198 hg w17 hbox hb; have n0_ := Q0_ (Kd.R_below (upR HO1175) hb); have n1_ := Q0_ (Kd.R_below (upR HO1180) hb); have n2_ := Q0_ (Kd.R_below (upR HO1183) hb); have n3_ := Q0_ (Kd.R_below (upR HO1188) hb); have n4_ := Q0_ (Kd.R_below (upR HO1193) hb); have n5_ := Q0_ (Kd.R_below (upR HO1196) hb); have n6_ := Q0_ (blk_below (upK BK1185) hb); have n7_ := Q0_ (below_step upH hb); have n8_ := Q0_ (hbox); have n9_ := Q0_ ((by rw [hg]; exact (below_size upH) : w.heap.size ≤ gb1198)); have n10_ := Q0_ ((by rw [hg]; exact (below_size upH) : w.heap.size ≤ gb1198)); have n11_ := Q0_ ((by rw [hg]; exact Nat.ne_of_lt (blk_lt (upK BK1185)) : gb1185 ≠ gb1198)); have n12_ := Q0_ ((by rw [hg]; exact Nat.ne_of_gt (blk_lt (upK BK1185)) : gb1198 ≠ gb1185)); clear HO1175 HO1180 HO1183 HO1188 HO1193 HO1196 BK1185 HB; revert n0_ n1_ n2_ n3_ n4_ n5_ n6_ n7_ n8_ n9_ n10_ n11_ n12_; intro HO1175 HO1180 HO1183 HO1188 HO1193 HO1196 BK1185 HB BK1198 GW1198 GE1198 NB1185_1198 NB1198_1185; clear hb hbox hg; obtain ⟨Ao18, co18, eo18⟩ := Kd.R_slice HO1188.out; subst eo18; have hnb19 := NB1198_1185.out; have hnc19 := NB1185_1198.out; have hcz20_0 : w17.cell? ⟨gb1198, 0, none⟩ = some (.slice none 0 0) := (blk_cell BK1198.out 0).trans rfl; have hcz20_1 : w17.cell? ⟨gb1198, 1, none⟩ = some (.int .i64 0) := (blk_cell BK1198.out 1).trans rfl; have hcz20_2 : w17.cell? ⟨gb1198, 2, none⟩ = some (.bool false) := (blk_cell BK1198.out 2).trans rfl; have hcz20_3 : w17.cell? ⟨gb1198, 3, none⟩ = some (.slice none 0 0) := (blk_cell BK1198.out 3).trans rfl; have hcz20_4 : w17.cell? ⟨gb1198, 4, none⟩ = some (.slice none 0 0) := (blk_cell BK1198.out 4).trans rfl; have hfz20_0 := blk_frozen BK1198.out 0; have hfz20_1 := blk_frozen BK1198.out 1; have hfz20_2 := blk_frozen BK1198.out 2; have hfz20_3 := blk_frozen BK1198.out 3; have hfz20_4 := blk_frozen BK1198.out 4; obtain ⟨Ao21, co21, eo21⟩ := Kd.R_slice HO1193.out; subst eo21; obtain ⟨Ao22, co22, eo22⟩ := Kd.R_slice HO1196.out; subst eo22; have hcz23_0 : w17.cell? ⟨gb1185, 0, none⟩ = some (.slice Ao12 t1173.length co12) := (blk_cell BK1185.out 0).trans rfl; have hcz23_1 : w17.cell? ⟨gb1185, 1, none⟩ = some (.int .i64 t1176) := (blk_cell BK1185.out 1).trans rfl; have hcz23_2 : w17.cell? ⟨gb1185, 2, none⟩ = some (.bool t1177) := (blk_cell BK1185.out 2).trans rfl; have hcz23_3 : w17.cell? ⟨gb1185, 3, none⟩ = some (.slice Ao14 t1178.length co14) := (blk_cell BK1185.out 3).trans rfl; have hcz23_4 : w17.cell? ⟨gb1185, 4, none⟩ = some (.slice Ao15 t1181.length co15) := (blk_cell BK1185.out 4).trans rfl; have hfz23_0 := blk_frozen BK1185.out 0; have hfz23_1 := blk_frozen BK1185.out 1; have hfz23_2 := blk_frozen BK1185.out 2; have hfz23_3 := blk_frozen BK1185.out 3; have hfz23_4 := blk_frozen BK1185.out 4) | ((with_reducible refine gate_callee (f := 53) rfl ?_); refine goesL_ (some 38) rfl rfl Tryd.func53 (by kernel_rfl) rfl #[.agg #[.slice Ao12 t1173.length co12, .int .i64 t1176, .bool t1177, .slice Ao14 t1178.length co14, .slice Ao15 t1181.length co15], .int .i64 t1184] rfl hM ?_; (with_reducible refine (spec_PsalmMove.calls kj2 _ _ t1173 t1176 t1177 _ _ t1178 _ _ t1181 t1184 t1199 t1202 t1203 t1204 t1207 t1210 _ ?side1 ?side2 ?side3 ?side4 ?side5 ?side6 A8.out).mono ?_); (case side1 => refine (Kd.R_reads' (e := 25) (base := w.heap.size) (ok := fun k_ => ((((nb k_ (.slice Ao14 t1178.length co14) ∧ nb k_ (.slice Ao15 t1181.length co15)) ∧ nb k_ (.slice Ao18 t1186.length co18)) ∧ nb k_ (.slice Ao21 t1191.length co21)) ∧ nb k_ (.slice Ao22 t1194.length co22))) (n := t1173.length) (c := co12) ?_).2.2; exact (upR' ((Kd.R_mono (Kd.R_far (p := ⟨gb1198, 4, none⟩) (Kd.R_far (p := ⟨gb1198, 3, none⟩) (Kd.R_far (p := ⟨gb1198, 2, none⟩) (Kd.R_far (p := ⟨gb1198, 1, none⟩) (Kd.R_far (p := ⟨gb1198, 0, none⟩) (Kd.R_types HO1175.out BK1198.out (by decide)) (fun _ hk => hk.2) (.slice Ao18 t1186.length co18)) (fun _ hk => hk.2) (.int .i64 t1189)) (fun _ hk => hk.2) (.bool t1190)) (fun _ hk => hk.2) (.slice Ao21 t1191.length co21)) (fun _ hk => hk.2) (.slice Ao22 t1194.length co22)) (fun _ h_ => h_.1))))); (case side2 => exact (Kd.R_reads' HO1175.out).2.1); (case side3 => refine (Kd.R_reads' (e := 25) (base := w.heap.size) (ok := fun k_ => ((((nb k_ (.slice Ao12 t1173.length co12) ∧ nb k_ (.slice Ao15 t1181.length co15)) ∧ nb k_ (.slice Ao18 t1186.length co18)) ∧ nb k_ (.slice Ao21 t1191.length co21)) ∧ nb k_ (.slice Ao22 t1194.length co22))) (n := t1178.length) (c := co14) ?_).2.2; exact (upR' ((Kd.R_mono (Kd.R_far (p := ⟨gb1198, 4, none⟩) (Kd.R_far (p := ⟨gb1198, 3, none⟩) (Kd.R_far (p := ⟨gb1198, 2, none⟩) (Kd.R_far (p := ⟨gb1198, 1, none⟩) (Kd.R_far (p := ⟨gb1198, 0, none⟩) (Kd.R_types HO1180.out BK1198.out (by decide)) (fun _ hk => hk.2) (.slice Ao18 t1186.length co18)) (fun _ hk => hk.2) (.int .i64 t1189)) (fun _ hk => hk.2) (.bool t1190)) (fun _ hk => hk.2) (.slice Ao21 t1191.length co21)) (fun _ hk => hk.2) (.slice Ao22 t1194.length co22)) (fun _ h_ => h_.1))))); (case side4 => exact (Kd.R_reads' HO1180.out).2.1); (case side5 => refine (Kd.R_reads' (e := 25) (base := w.heap.size) (ok := fun k_ => ((((nb k_ (.slice Ao12 t1173.length co12) ∧ nb k_ (.slice Ao14 t1178.length co14)) ∧ nb k_ (.slice Ao18 t1186.length co18)) ∧ nb k_ (.slice Ao21 t1191.length co21)) ∧ nb k_ (.slice Ao22 t1194.length co22))) (n := t1181.length) (c := co15) ?_).2.2; exact (upR' ((Kd.R_mono (Kd.R_far (p := ⟨gb1198, 4, none⟩) (Kd.R_far (p := ⟨gb1198, 3, none⟩) (Kd.R_far (p := ⟨gb1198, 2, none⟩) (Kd.R_far (p := ⟨gb1198, 1, none⟩) (Kd.R_far (p := ⟨gb1198, 0, none⟩) (Kd.R_types HO1183.out BK1198.out (by decide)) (fun _ hk => hk.2) (.slice Ao18 t1186.length co18)) (fun _ hk => hk.2) (.int .i64 t1189)) (fun _ hk => hk.2) (.bool t1190)) (fun _ hk => hk.2) (.slice Ao21 t1191.length co21)) (fun _ hk => hk.2) (.slice Ao22 t1194.length co22)) (fun _ h_ => h_.1))))); (case side6 => exact (Kd.R_reads' HO1183.out).2.1); rintro e w24 ⟨v1200, v1205, v1208, rfl, ho0, ho1, ho2, hb⟩; refine ⟨_, rfl, ?_⟩; have n0_ := Q0_ (Kd.R_mono (Kd.R_told (Kd.R_told (Kd.R_told (Kd.R_old (upR' ((Kd.R_mono (Kd.R_far (p := ⟨gb1198, 4, none⟩) (Kd.R_far (p := ⟨gb1198, 3, none⟩) (Kd.R_far (p := ⟨gb1198, 2, none⟩) (Kd.R_far (p := ⟨gb1198, 1, none⟩) (Kd.R_far (p := ⟨gb1198, 0, none⟩) (Kd.R_types HO1175.out BK1198.out (by decide)) (fun _ hk => hk.2) (.slice Ao18 t1186.length co18)) (fun _ hk => hk.2) (.int .i64 t1189)) (fun _ hk => hk.2) (.bool t1190)) (fun _ hk => hk.2) (.slice Ao21 t1191.length co21)) (fun _ hk => hk.2) (.slice Ao22 t1194.length co22)) (fun _ h_ => h_.1)))) hb) (Kd.R_base ho0)) (Kd.R_base ho1)) (Kd.R_base ho2)) (fun _ h_ => h_.1)); have n1_ := Q0_ (Kd.R_mono (Kd.R_told (Kd.R_told (Kd.R_told (Kd.R_old (upR' ((Kd.R_mono (Kd.R_far (p := ⟨gb1198, 4, none⟩) (Kd.R_far (p := ⟨gb1198, 3, none⟩) (Kd.R_far (p := ⟨gb1198, 2, none⟩) (Kd.R_far (p := ⟨gb1198, 1, none⟩) (Kd.R_far (p := ⟨gb1198, 0, none⟩) (Kd.R_types HO1180.out BK1198.out (by decide)) (fun _ hk => hk.2) (.slice Ao18 t1186.length co18)) (fun _ hk => hk.2) (.int .i64 t1189)) (fun _ hk => hk.2) (.bool t1190)) (fun _ hk => hk.2) (.slice Ao21 t1191.length co21)) (fun _ hk => hk.2) (.slice Ao22 t1194.length co22)) (fun _ h_ => h_.1)))) hb) (Kd.R_base ho0)) (Kd.R_base ho1)) (Kd.R_base ho2)) (fun _ h_ => h_.1)); have n2_ := Q0_ (Kd.R_mono (Kd.R_told (Kd.R_told (Kd.R_told (Kd.R_old (upR' ((Kd.R_mono (Kd.R_far (p := ⟨gb1198, 4, none⟩) (Kd.R_far (p := ⟨gb1198, 3, none⟩) (Kd.R_far (p := ⟨gb1198, 2, none⟩) (Kd.R_far (p := ⟨gb1198, 1, none⟩) (Kd.R_far (p := ⟨gb1198, 0, none⟩) (Kd.R_types HO1183.out BK1198.out (by decide)) (fun _ hk => hk.2) (.slice Ao18 t1186.length co18)) (fun _ hk => hk.2) (.int .i64 t1189)) (fun _ hk => hk.2) (.bool t1190)) (fun _ hk => hk.2) (.slice Ao21 t1191.length co21)) (fun _ hk => hk.2) (.slice Ao22 t1194.length co22)) (fun _ h_ => h_.1)))) hb) (Kd.R_base ho0)) (Kd.R_base ho1)) (Kd.R_base ho2)) (fun _ h_ => h_.1)); have n3_ := Q0_ (Kd.R_mono (Kd.R_told (Kd.R_told (Kd.R_told (Kd.R_old (upR' ((Kd.R_mono (Kd.R_far (p := ⟨gb1198, 4, none⟩) (Kd.R_far (p := ⟨gb1198, 3, none⟩) (Kd.R_far (p := ⟨gb1198, 2, none⟩) (Kd.R_far (p := ⟨gb1198, 1, none⟩) (Kd.R_far (p := ⟨gb1198, 0, none⟩) (Kd.R_types HO1188.out BK1198.out (by decide)) (fun _ hk => hk.2) (.slice Ao18 t1186.length co18)) (fun _ hk => hk.2) (.int .i64 t1189)) (fun _ hk => hk.2) (.bool t1190)) (fun _ hk => hk.2) (.slice Ao21 t1191.length co21)) (fun _ hk => hk.2) (.slice Ao22 t1194.length co22)) (fun _ h_ => h_.1)))) hb) (Kd.R_base ho0)) (Kd.R_base ho1)) (Kd.R_base ho2)) (fun _ h_ => h_.1)); have n4_ := Q0_ (Kd.R_mono (Kd.R_told (Kd.R_told (Kd.R_told (Kd.R_old (upR' ((Kd.R_mono (Kd.R_far (p := ⟨gb1198, 4, none⟩) (Kd.R_far (p := ⟨gb1198, 3, none⟩) (Kd.R_far (p := ⟨gb1198, 2, none⟩) (Kd.R_far (p := ⟨gb1198, 1, none⟩) (Kd.R_far (p := ⟨gb1198, 0, none⟩) (Kd.R_types HO1193.out BK1198.out (by decide)) (fun _ hk => hk.2) (.slice Ao18 t1186.length co18)) (fun _ hk => hk.2) (.int .i64 t1189)) (fun _ hk => hk.2) (.bool t1190)) (fun _ hk => hk.2) (.slice Ao21 t1191.length co21)) (fun _ hk => hk.2) (.slice Ao22 t1194.length co22)) (fun _ h_ => h_.1)))) hb) (Kd.R_base ho0)) (Kd.R_base ho1)) (Kd.R_base ho2)) (fun _ h_ => h_.1)); have n5_ := Q0_ (Kd.R_mono (Kd.R_told (Kd.R_told (Kd.R_told (Kd.R_old (upR' ((Kd.R_mono (Kd.R_far (p := ⟨gb1198, 4, none⟩) (Kd.R_far (p := ⟨gb1198, 3, none⟩) (Kd.R_far (p := ⟨gb1198, 2, none⟩) (Kd.R_far (p := ⟨gb1198, 1, none⟩) (Kd.R_far (p := ⟨gb1198, 0, none⟩) (Kd.R_types HO1196.out BK1198.out (by decide)) (fun _ hk => hk.2) (.slice Ao18 t1186.length co18)) (fun _ hk => hk.2) (.int .i64 t1189)) (fun _ hk => hk.2) (.bool t1190)) (fun _ hk => hk.2) (.slice Ao21 t1191.length co21)) (fun _ hk => hk.2) (.slice Ao22 t1194.length co22)) (fun _ h_ => h_.1)))) hb) (Kd.R_base ho0)) (Kd.R_base ho1)) (Kd.R_base ho2)) (fun _ h_ => h_.1)); have n6_ := Q0_ (Kd.R_lower (Kd.R_new' (Kd.R_new' (Kd.R_new' (Kd.R_new' (Kd.R_new' (Kd.R_new' ho0 (Kd.R_lt (upR' ((Kd.R_mono (Kd.R_far (p := ⟨gb1198, 4, none⟩) (Kd.R_far (p := ⟨gb1198, 3, none⟩) (Kd.R_far (p := ⟨gb1198, 2, none⟩) (Kd.R_far (p := ⟨gb1198, 1, none⟩) (Kd.R_far (p := ⟨gb1198, 0, none⟩) (Kd.R_types HO1175.out BK1198.out (by decide)) (fun _ hk => hk.2) (.slice Ao18 t1186.length co18)) (fun _ hk => hk.2) (.int .i64 t1189)) (fun _ hk => hk.2) (.bool t1190)) (fun _ hk => hk.2) (.slice Ao21 t1191.length co21)) (fun _ hk => hk.2) (.slice Ao22 t1194.length co22)) (fun _ h_ => h_.1)))))) (Kd.R_lt (upR' ((Kd.R_mono (Kd.R_far (p := ⟨gb1198, 4, none⟩) (Kd.R_far (p := ⟨gb1198, 3, none⟩) (Kd.R_far (p := ⟨gb1198, 2, none⟩) (Kd.R_far (p := ⟨gb1198, 1, none⟩) (Kd.R_far (p := ⟨gb1198, 0, none⟩) (Kd.R_types HO1180.out BK1198.out (by decide)) (fun _ hk => hk.2) (.slice Ao18 t1186.length co18)) (fun _ hk => hk.2) (.int .i64 t1189)) (fun _ hk => hk.2) (.bool t1190)) (fun _ hk => hk.2) (.slice Ao21 t1191.length co21)) (fun _ hk => hk.2) (.slice Ao22 t1194.length co22)) (fun _ h_ => h_.1)))))) (Kd.R_lt (upR' ((Kd.R_mono (Kd.R_far (p := ⟨gb1198, 4, none⟩) (Kd.R_far (p := ⟨gb1198, 3, none⟩) (Kd.R_far (p := ⟨gb1198, 2, none⟩) (Kd.R_far (p := ⟨gb1198, 1, none⟩) (Kd.R_far (p := ⟨gb1198, 0, none⟩) (Kd.R_types HO1183.out BK1198.out (by decide)) (fun _ hk => hk.2) (.slice Ao18 t1186.length co18)) (fun _ hk => hk.2) (.int .i64 t1189)) (fun _ hk => hk.2) (.bool t1190)) (fun _ hk => hk.2) (.slice Ao21 t1191.length co21)) (fun _ hk => hk.2) (.slice Ao22 t1194.length co22)) (fun _ h_ => h_.1)))))) (Kd.R_lt (upR' ((Kd.R_mono (Kd.R_far (p := ⟨gb1198, 4, none⟩) (Kd.R_far (p := ⟨gb1198, 3, none⟩) (Kd.R_far (p := ⟨gb1198, 2, none⟩) (Kd.R_far (p := ⟨gb1198, 1, none⟩) (Kd.R_far (p := ⟨gb1198, 0, none⟩) (Kd.R_types HO1188.out BK1198.out (by decide)) (fun _ hk => hk.2) (.slice Ao18 t1186.length co18)) (fun _ hk => hk.2) (.int .i64 t1189)) (fun _ hk => hk.2) (.bool t1190)) (fun _ hk => hk.2) (.slice Ao21 t1191.length co21)) (fun _ hk => hk.2) (.slice Ao22 t1194.length co22)) (fun _ h_ => h_.1)))))) (Kd.R_lt (upR' ((Kd.R_mono (Kd.R_far (p := ⟨gb1198, 4, none⟩) (Kd.R_far (p := ⟨gb1198, 3, none⟩) (Kd.R_far (p := ⟨gb1198, 2, none⟩) (Kd.R_far (p := ⟨gb1198, 1, none⟩) (Kd.R_far (p := ⟨gb1198, 0, none⟩) (Kd.R_types HO1193.out BK1198.out (by decide)) (fun _ hk => hk.2) (.slice Ao18 t1186.length co18)) (fun _ hk => hk.2) (.int .i64 t1189)) (fun _ hk => hk.2) (.bool t1190)) (fun _ hk => hk.2) (.slice Ao21 t1191.length co21)) (fun _ hk => hk.2) (.slice Ao22 t1194.length co22)) (fun _ h_ => h_.1)))))) (Kd.R_lt (upR' ((Kd.R_mono (Kd.R_far (p := ⟨gb1198, 4, none⟩) (Kd.R_far (p := ⟨gb1198, 3, none⟩) (Kd.R_far (p := ⟨gb1198, 2, none⟩) (Kd.R_far (p := ⟨gb1198, 1, none⟩) (Kd.R_far (p := ⟨gb1198, 0, none⟩) (Kd.R_types HO1196.out BK1198.out (by decide)) (fun _ hk => hk.2) (.slice Ao18 t1186.length co18)) (fun _ hk => hk.2) (.int .i64 t1189)) (fun _ hk => hk.2) (.bool t1190)) (fun _ hk => hk.2) (.slice Ao21 t1191.length co21)) (fun _ hk => hk.2) (.slice Ao22 t1194.length co22)) (fun _ h_ => h_.1)))))) (below_size upH)); have n7_ := Q0_ (Kd.R_lower (Kd.R_new' (Kd.R_new' (Kd.R_new' (Kd.R_new' (Kd.R_new' (Kd.R_new' ho1 (Kd.R_lt (upR' ((Kd.R_mono (Kd.R_far (p := ⟨gb1198, 4, none⟩) (Kd.R_far (p := ⟨gb1198, 3, none⟩) (Kd.R_far (p := ⟨gb1198, 2, none⟩) (Kd.R_far (p := ⟨gb1198, 1, none⟩) (Kd.R_far (p := ⟨gb1198, 0, none⟩) (Kd.R_types HO1175.out BK1198.out (by decide)) (fun _ hk => hk.2) (.slice Ao18 t1186.length co18)) (fun _ hk => hk.2) (.int .i64 t1189)) (fun _ hk => hk.2) (.bool t1190)) (fun _ hk => hk.2) (.slice Ao21 t1191.length co21)) (fun _ hk => hk.2) (.slice Ao22 t1194.length co22)) (fun _ h_ => h_.1)))))) (Kd.R_lt (upR' ((Kd.R_mono (Kd.R_far (p := ⟨gb1198, 4, none⟩) (Kd.R_far (p := ⟨gb1198, 3, none⟩) (Kd.R_far (p := ⟨gb1198, 2, none⟩) (Kd.R_far (p := ⟨gb1198, 1, none⟩) (Kd.R_far (p := ⟨gb1198, 0, none⟩) (Kd.R_types HO1180.out BK1198.out (by decide)) (fun _ hk => hk.2) (.slice Ao18 t1186.length co18)) (fun _ hk => hk.2) (.int .i64 t1189)) (fun _ hk => hk.2) (.bool t1190)) (fun _ hk => hk.2) (.slice Ao21 t1191.length co21)) (fun _ hk => hk.2) (.slice Ao22 t1194.length co22)) (fun _ h_ => h_.1)))))) (Kd.R_lt (upR' ((Kd.R_mono (Kd.R_far (p := ⟨gb1198, 4, none⟩) (Kd.R_far (p := ⟨gb1198, 3, none⟩) (Kd.R_far (p := ⟨gb1198, 2, none⟩) (Kd.R_far (p := ⟨gb1198, 1, none⟩) (Kd.R_far (p := ⟨gb1198, 0, none⟩) (Kd.R_types HO1183.out BK1198.out (by decide)) (fun _ hk => hk.2) (.slice Ao18 t1186.length co18)) (fun _ hk => hk.2) (.int .i64 t1189)) (fun _ hk => hk.2) (.bool t1190)) (fun _ hk => hk.2) (.slice Ao21 t1191.length co21)) (fun _ hk => hk.2) (.slice Ao22 t1194.length co22)) (fun _ h_ => h_.1)))))) (Kd.R_lt (upR' ((Kd.R_mono (Kd.R_far (p := ⟨gb1198, 4, none⟩) (Kd.R_far (p := ⟨gb1198, 3, none⟩) (Kd.R_far (p := ⟨gb1198, 2, none⟩) (Kd.R_far (p := ⟨gb1198, 1, none⟩) (Kd.R_far (p := ⟨gb1198, 0, none⟩) (Kd.R_types HO1188.out BK1198.out (by decide)) (fun _ hk => hk.2) (.slice Ao18 t1186.length co18)) (fun _ hk => hk.2) (.int .i64 t1189)) (fun _ hk => hk.2) (.bool t1190)) (fun _ hk => hk.2) (.slice Ao21 t1191.length co21)) (fun _ hk => hk.2) (.slice Ao22 t1194.length co22)) (fun _ h_ => h_.1)))))) (Kd.R_lt (upR' ((Kd.R_mono (Kd.R_far (p := ⟨gb1198, 4, none⟩) (Kd.R_far (p := ⟨gb1198, 3, none⟩) (Kd.R_far (p := ⟨gb1198, 2, none⟩) (Kd.R_far (p := ⟨gb1198, 1, none⟩) (Kd.R_far (p := ⟨gb1198, 0, none⟩) (Kd.R_types HO1193.out BK1198.out (by decide)) (fun _ hk => hk.2) (.slice Ao18 t1186.length co18)) (fun _ hk => hk.2) (.int .i64 t1189)) (fun _ hk => hk.2) (.bool t1190)) (fun _ hk => hk.2) (.slice Ao21 t1191.length co21)) (fun _ hk => hk.2) (.slice Ao22 t1194.length co22)) (fun _ h_ => h_.1)))))) (Kd.R_lt (upR' ((Kd.R_mono (Kd.R_far (p := ⟨gb1198, 4, none⟩) (Kd.R_far (p := ⟨gb1198, 3, none⟩) (Kd.R_far (p := ⟨gb1198, 2, none⟩) (Kd.R_far (p := ⟨gb1198, 1, none⟩) (Kd.R_far (p := ⟨gb1198, 0, none⟩) (Kd.R_types HO1196.out BK1198.out (by decide)) (fun _ hk => hk.2) (.slice Ao18 t1186.length co18)) (fun _ hk => hk.2) (.int .i64 t1189)) (fun _ hk => hk.2) (.bool t1190)) (fun _ hk => hk.2) (.slice Ao21 t1191.length co21)) (fun _ hk => hk.2) (.slice Ao22 t1194.length co22)) (fun _ h_ => h_.1)))))) (below_size upH)); have n8_ := Q0_ (Kd.R_lower (Kd.R_new' (Kd.R_new' (Kd.R_new' (Kd.R_new' (Kd.R_new' (Kd.R_new' ho2 (Kd.R_lt (upR' ((Kd.R_mono (Kd.R_far (p := ⟨gb1198, 4, none⟩) (Kd.R_far (p := ⟨gb1198, 3, none⟩) (Kd.R_far (p := ⟨gb1198, 2, none⟩) (Kd.R_far (p := ⟨gb1198, 1, none⟩) (Kd.R_far (p := ⟨gb1198, 0, none⟩) (Kd.R_types HO1175.out BK1198.out (by decide)) (fun _ hk => hk.2) (.slice Ao18 t1186.length co18)) (fun _ hk => hk.2) (.int .i64 t1189)) (fun _ hk => hk.2) (.bool t1190)) (fun _ hk => hk.2) (.slice Ao21 t1191.length co21)) (fun _ hk => hk.2) (.slice Ao22 t1194.length co22)) (fun _ h_ => h_.1)))))) (Kd.R_lt (upR' ((Kd.R_mono (Kd.R_far (p := ⟨gb1198, 4, none⟩) (Kd.R_far (p := ⟨gb1198, 3, none⟩) (Kd.R_far (p := ⟨gb1198, 2, none⟩) (Kd.R_far (p := ⟨gb1198, 1, none⟩) (Kd.R_far (p := ⟨gb1198, 0, none⟩) (Kd.R_types HO1180.out BK1198.out (by decide)) (fun _ hk => hk.2) (.slice Ao18 t1186.length co18)) (fun _ hk => hk.2) (.int .i64 t1189)) (fun _ hk => hk.2) (.bool t1190)) (fun _ hk => hk.2) (.slice Ao21 t1191.length co21)) (fun _ hk => hk.2) (.slice Ao22 t1194.length co22)) (fun _ h_ => h_.1)))))) (Kd.R_lt (upR' ((Kd.R_mono (Kd.R_far (p := ⟨gb1198, 4, none⟩) (Kd.R_far (p := ⟨gb1198, 3, none⟩) (Kd.R_far (p := ⟨gb1198, 2, none⟩) (Kd.R_far (p := ⟨gb1198, 1, none⟩) (Kd.R_far (p := ⟨gb1198, 0, none⟩) (Kd.R_types HO1183.out BK1198.out (by decide)) (fun _ hk => hk.2) (.slice Ao18 t1186.length co18)) (fun _ hk => hk.2) (.int .i64 t1189)) (fun _ hk => hk.2) (.bool t1190)) (fun _ hk => hk.2) (.slice Ao21 t1191.length co21)) (fun _ hk => hk.2) (.slice Ao22 t1194.length co22)) (fun _ h_ => h_.1)))))) (Kd.R_lt (upR' ((Kd.R_mono (Kd.R_far (p := ⟨gb1198, 4, none⟩) (Kd.R_far (p := ⟨gb1198, 3, none⟩) (Kd.R_far (p := ⟨gb1198, 2, none⟩) (Kd.R_far (p := ⟨gb1198, 1, none⟩) (Kd.R_far (p := ⟨gb1198, 0, none⟩) (Kd.R_types HO1188.out BK1198.out (by decide)) (fun _ hk => hk.2) (.slice Ao18 t1186.length co18)) (fun _ hk => hk.2) (.int .i64 t1189)) (fun _ hk => hk.2) (.bool t1190)) (fun _ hk => hk.2) (.slice Ao21 t1191.length co21)) (fun _ hk => hk.2) (.slice Ao22 t1194.length co22)) (fun _ h_ => h_.1)))))) (Kd.R_lt (upR' ((Kd.R_mono (Kd.R_far (p := ⟨gb1198, 4, none⟩) (Kd.R_far (p := ⟨gb1198, 3, none⟩) (Kd.R_far (p := ⟨gb1198, 2, none⟩) (Kd.R_far (p := ⟨gb1198, 1, none⟩) (Kd.R_far (p := ⟨gb1198, 0, none⟩) (Kd.R_types HO1193.out BK1198.out (by decide)) (fun _ hk => hk.2) (.slice Ao18 t1186.length co18)) (fun _ hk => hk.2) (.int .i64 t1189)) (fun _ hk => hk.2) (.bool t1190)) (fun _ hk => hk.2) (.slice Ao21 t1191.length co21)) (fun _ hk => hk.2) (.slice Ao22 t1194.length co22)) (fun _ h_ => h_.1)))))) (Kd.R_lt (upR' ((Kd.R_mono (Kd.R_far (p := ⟨gb1198, 4, none⟩) (Kd.R_far (p := ⟨gb1198, 3, none⟩) (Kd.R_far (p := ⟨gb1198, 2, none⟩) (Kd.R_far (p := ⟨gb1198, 1, none⟩) (Kd.R_far (p := ⟨gb1198, 0, none⟩) (Kd.R_types HO1196.out BK1198.out (by decide)) (fun _ hk => hk.2) (.slice Ao18 t1186.length co18)) (fun _ hk => hk.2) (.int .i64 t1189)) (fun _ hk => hk.2) (.bool t1190)) (fun _ hk => hk.2) (.slice Ao21 t1191.length co21)) (fun _ hk => hk.2) (.slice Ao22 t1194.length co22)) (fun _ h_ => h_.1)))))) (below_size upH)); have n9_ := Q0_ (blk_below (g := gb1185) (o := .cells #[.slice Ao12 t1173.length co12, .int .i64 t1176, .bool t1177, .slice Ao14 t1178.length co14, .slice Ao15 t1181.length co15] 27 (0, 0)) (by (repeat refine blk_q ?_); refine blk_far ?_ NB1185_1198.out _; (repeat refine blk_q ?_); refine blk_far ?_ NB1185_1198.out _; (repeat refine blk_q ?_); refine blk_far ?_ NB1185_1198.out _; (repeat refine blk_q ?_); refine blk_far ?_ NB1185_1198.out _; (repeat refine blk_q ?_); refine blk_far ?_ NB1185_1198.out _; (repeat refine blk_q ?_); exact BK1185.out) hb); have n10_ := Q0_ (blk_below (g := gb1198) (o := .cells #[.slice Ao18 t1186.length co18, .int .i64 t1189, .bool t1190, .slice Ao21 t1191.length co21, .slice Ao22 t1194.length co22] 27 (0, 0)) (by (repeat refine blk_q ?_); refine blk_put (cs := #[.slice Ao18 t1186.length co18, .int .i64 t1189, .bool t1190, .slice Ao21 t1191.length co21, .slice none 0 0]) ?_ 4 _ rfl; (repeat refine blk_q ?_); refine blk_put (cs := #[.slice Ao18 t1186.length co18, .int .i64 t1189, .bool t1190, .slice none 0 0, .slice none 0 0]) ?_ 3 _ rfl; (repeat refine blk_q ?_); refine blk_put (cs := #[.slice Ao18 t1186.length co18, .int .i64 t1189, .bool false, .slice none 0 0, .slice none 0 0]) ?_ 2 _ rfl; (repeat refine blk_q ?_); refine blk_put (cs := #[.slice Ao18 t1186.length co18, .int .i64 0, .bool false, .slice none 0 0, .slice none 0 0]) ?_ 1 _ rfl; (repeat refine blk_q ?_); refine blk_put (cs := #[.slice none 0 0, .int .i64 0, .bool false, .slice none 0 0, .slice none 0 0]) ?_ 0 _ rfl; (repeat refine blk_q ?_); exact BK1198.out) hb); have n11_ := Q0_ (below_step upH hb); clear HO1175 HO1180 HO1183 HO1188 HO1193 HO1196 BK1185 BK1198 HB; revert n0_ n1_ n2_ n3_ n4_ n5_ n6_ n7_ n8_ n9_ n10_ n11_; intro HO1175 HO1180 HO1183 HO1188 HO1193 HO1196 HO1201 HO1206 HO1209 BK1185 BK1198 HB; (try clear hb); (try clear hb2); (try clear hk); (try clear hi); (try clear ho0); (try clear ho1); (try clear ho2)) | ((with_reducible refine gate_dst (N := 9) rfl ?_); (try (refine gate_guard (by rfl) ?_; dsimp only)); refine box_event ?hg (N := 9) ?hd (cs := #[.slice none 0 0, .int .i64 0, .bool false, .slice none 0 0, .slice none 0 0]) (t := 27) ?hr ?_; (case hd => rfl); (case hg => rfl); (case hr => first | (go_simp; done) | (go_simp; rfl)); intro gb1211 hg w25 hbox hb; have n0_ := Q0_ (Kd.R_below (upR HO1175) hb); have n1_ := Q0_ (Kd.R_below (upR HO1180) hb); have n2_ := Q0_ (Kd.R_below (upR HO1183) hb); have n3_ := Q0_ (Kd.R_below (upR HO1188) hb); have n4_ := Q0_ (Kd.R_below (upR HO1193) hb); have n5_ := Q0_ (Kd.R_below (upR HO1196) hb); have n6_ := Q0_ (Kd.R_below (upR HO1201) hb); have n7_ := Q0_ (Kd.R_below (upR HO1206) hb); have n8_ := Q0_ (Kd.R_below (upR HO1209) hb); have n9_ := Q0_ (blk_below (upK BK1185) hb); have n10_ := Q0_ (blk_below (upK BK1198) hb); have n11_ := Q0_ (below_step upH hb); have n12_ := Q0_ (hbox); have n13_ := Q0_ ((by rw [hg]; exact (below_size upH) : w.heap.size ≤ gb1211)); have n14_ := Q0_ ((by rw [hg]; exact (below_size upH) : w.heap.size ≤ gb1211)); have n15_ := Q0_ ((by rw [hg]; exact Nat.ne_of_lt (blk_lt (upK BK1185)) : gb1185 ≠ gb1211)); have n16_ := Q0_ ((by rw [hg]; exact Nat.ne_of_gt (blk_lt (upK BK1185)) : gb1211 ≠ gb1185)); have n17_ := Q0_ ((by rw [hg]; exact Nat.ne_of_lt (blk_lt (upK BK1198)) : gb1198 ≠ gb1211)); have n18_ := Q0_ ((by rw [hg]; exact Nat.ne_of_gt (blk_lt (upK BK1198)) : gb1211 ≠ gb1198)); clear HO1175 HO1180 HO1183 HO1188 HO1193 HO1196 HO1201 HO1206 HO1209 BK1185 BK1198 HB; revert n0_ n1_ n2_ n3_ n4_ n5_ n6_ n7_ n8_ n9_ n10_ n11_ n12_ n13_ n14_ n15_ n16_ n17_ n18_; intro HO1175 HO1180 HO1183 HO1188 HO1193 HO1196 HO1201 HO1206 HO1209 BK1185 BK1198 HB BK1211 GW1211 GE1211 NB1185_1211 NB1211_1185 NB1198_1211 NB1211_1198; clear hb hbox hg; obtain ⟨Ao26, co26, eo26⟩ := Kd.R_slice HO1201.out; subst eo26; have hnb27 := NB1211_1185.out; have hnc27 := NB1185_1211.out; have hnb28 := NB1211_1198.out; have hnc28 := NB1198_1211.out; have hcz29_0 : w25.cell? ⟨gb1211, 0, none⟩ = some (.slice none 0 0) := (blk_cell BK1211.out 0).trans rfl; have hcz29_1 : w25.cell? ⟨gb1211, 1, none⟩ = some (.int .i64 0) := (blk_cell BK1211.out 1).trans rfl; have hcz29_2 : w25.cell? ⟨gb1211, 2, none⟩ = some (.bool false) := (blk_cell BK1211.out 2).trans rfl; have hcz29_3 : w25.cell? ⟨gb1211, 3, none⟩ = some (.slice none 0 0) := (blk_cell BK1211.out 3).trans rfl; have hcz29_4 : w25.cell? ⟨gb1211, 4, none⟩ = some (.slice none 0 0) := (blk_cell BK1211.out 4).trans rfl; have hfz29_0 := blk_frozen BK1211.out 0; have hfz29_1 := blk_frozen BK1211.out 1; have hfz29_2 := blk_frozen BK1211.out 2; have hfz29_3 := blk_frozen BK1211.out 3; have hfz29_4 := blk_frozen BK1211.out 4; obtain ⟨Ao30, co30, eo30⟩ := Kd.R_slice HO1206.out; subst eo30; obtain ⟨Ao31, co31, eo31⟩ := Kd.R_slice HO1209.out; subst eo31))
   (try simp only [Act.put, sI, s0, sS])
   go_cut [53] (fun v53 wc => ∃ (kq : Nat) (x53_8 : Bool), v53 = .bool x53_8 ∧ Aside0 (laws_FnPsalmMove.j1 kq l1 t1197 t1210 x53_8 t1173 t1176 t1177 t1178 t1181 t1186 t1189 t1190 t1191 t1194 t1199 t1202 t1203 t1204 t1207 = some r) ∧ Aside0 (kq ≤ kj2) ∧ Aside0 (Kd.R k25 25 wc w.heap.size (fun k_ => nb k_ ((.slice Ao14 t1178.length co14)) ∧ nb k_ ((.slice Ao15 t1181.length co15)) ∧ nb k_ ((.slice Ao18 t1186.length co18)) ∧ nb k_ ((.slice Ao21 t1191.length co21)) ∧ nb k_ ((.slice Ao22 t1194.length co22)) ∧ nb k_ ((.slice Ao26 t1199.length co26)) ∧ nb k_ ((.slice Ao30 t1204.length co30)) ∧ nb k_ ((.slice Ao31 t1207.length co31))) (.slice Ao12 t1173.length co12) t1173) ∧ Aside0 (Kd.R k25 25 wc w.heap.size (fun k_ => nb k_ ((.slice Ao12 t1173.length co12)) ∧ nb k_ ((.slice Ao15 t1181.length co15)) ∧ nb k_ ((.slice Ao18 t1186.length co18)) ∧ nb k_ ((.slice Ao21 t1191.length co21)) ∧ nb k_ ((.slice Ao22 t1194.length co22)) ∧ nb k_ ((.slice Ao26 t1199.length co26)) ∧ nb k_ ((.slice Ao30 t1204.length co30)) ∧ nb k_ ((.slice Ao31 t1207.length co31))) (.slice Ao14 t1178.length co14) t1178) ∧ Aside0 (Kd.R k25 25 wc w.heap.size (fun k_ => nb k_ ((.slice Ao12 t1173.length co12)) ∧ nb k_ ((.slice Ao14 t1178.length co14)) ∧ nb k_ ((.slice Ao18 t1186.length co18)) ∧ nb k_ ((.slice Ao21 t1191.length co21)) ∧ nb k_ ((.slice Ao22 t1194.length co22)) ∧ nb k_ ((.slice Ao26 t1199.length co26)) ∧ nb k_ ((.slice Ao30 t1204.length co30)) ∧ nb k_ ((.slice Ao31 t1207.length co31))) (.slice Ao15 t1181.length co15) t1181) ∧ Aside0 (Kd.R k25 25 wc w.heap.size (fun k_ => nb k_ ((.slice Ao12 t1173.length co12)) ∧ nb k_ ((.slice Ao14 t1178.length co14)) ∧ nb k_ ((.slice Ao15 t1181.length co15)) ∧ nb k_ ((.slice Ao21 t1191.length co21)) ∧ nb k_ ((.slice Ao22 t1194.length co22)) ∧ nb k_ ((.slice Ao26 t1199.length co26)) ∧ nb k_ ((.slice Ao30 t1204.length co30)) ∧ nb k_ ((.slice Ao31 t1207.length co31))) (.slice Ao18 t1186.length co18) t1186) ∧ Aside0 (Kd.R k25 25 wc w.heap.size (fun k_ => nb k_ ((.slice Ao12 t1173.length co12)) ∧ nb k_ ((.slice Ao14 t1178.length co14)) ∧ nb k_ ((.slice Ao15 t1181.length co15)) ∧ nb k_ ((.slice Ao18 t1186.length co18)) ∧ nb k_ ((.slice Ao22 t1194.length co22)) ∧ nb k_ ((.slice Ao26 t1199.length co26)) ∧ nb k_ ((.slice Ao30 t1204.length co30)) ∧ nb k_ ((.slice Ao31 t1207.length co31))) (.slice Ao21 t1191.length co21) t1191) ∧ Aside0 (Kd.R k25 25 wc w.heap.size (fun k_ => nb k_ ((.slice Ao12 t1173.length co12)) ∧ nb k_ ((.slice Ao14 t1178.length co14)) ∧ nb k_ ((.slice Ao15 t1181.length co15)) ∧ nb k_ ((.slice Ao18 t1186.length co18)) ∧ nb k_ ((.slice Ao21 t1191.length co21)) ∧ nb k_ ((.slice Ao26 t1199.length co26)) ∧ nb k_ ((.slice Ao30 t1204.length co30)) ∧ nb k_ ((.slice Ao31 t1207.length co31))) (.slice Ao22 t1194.length co22) t1194) ∧ Aside0 (Kd.R k25 25 wc w.heap.size (fun k_ => nb k_ ((.slice Ao12 t1173.length co12)) ∧ nb k_ ((.slice Ao14 t1178.length co14)) ∧ nb k_ ((.slice Ao15 t1181.length co15)) ∧ nb k_ ((.slice Ao18 t1186.length co18)) ∧ nb k_ ((.slice Ao21 t1191.length co21)) ∧ nb k_ ((.slice Ao22 t1194.length co22)) ∧ nb k_ ((.slice Ao30 t1204.length co30)) ∧ nb k_ ((.slice Ao31 t1207.length co31))) (.slice Ao26 t1199.length co26) t1199) ∧ Aside0 (Kd.R k25 25 wc w.heap.size (fun k_ => nb k_ ((.slice Ao12 t1173.length co12)) ∧ nb k_ ((.slice Ao14 t1178.length co14)) ∧ nb k_ ((.slice Ao15 t1181.length co15)) ∧ nb k_ ((.slice Ao18 t1186.length co18)) ∧ nb k_ ((.slice Ao21 t1191.length co21)) ∧ nb k_ ((.slice Ao22 t1194.length co22)) ∧ nb k_ ((.slice Ao26 t1199.length co26)) ∧ nb k_ ((.slice Ao31 t1207.length co31))) (.slice Ao30 t1204.length co30) t1204) ∧ Aside0 (Kd.R k25 25 wc w.heap.size (fun k_ => nb k_ ((.slice Ao12 t1173.length co12)) ∧ nb k_ ((.slice Ao14 t1178.length co14)) ∧ nb k_ ((.slice Ao15 t1181.length co15)) ∧ nb k_ ((.slice Ao18 t1186.length co18)) ∧ nb k_ ((.slice Ao21 t1191.length co21)) ∧ nb k_ ((.slice Ao22 t1194.length co22)) ∧ nb k_ ((.slice Ao26 t1199.length co26)) ∧ nb k_ ((.slice Ao30 t1204.length co30))) (.slice Ao31 t1207.length co31) t1207) ∧ Aside0 (wc.heap[gb1185]? = some (.cells #[(.slice Ao12 t1173.length co12), .int .i64 t1176, .bool t1177, (.slice Ao14 t1178.length co14), (.slice Ao15 t1181.length co15)] 27 (0, 0))) ∧ Aside0 (wc.heap[gb1198]? = some (.cells #[(.slice Ao18 t1186.length co18), .int .i64 t1189, .bool t1190, (.slice Ao21 t1191.length co21), (.slice Ao22 t1194.length co22)] 27 (0, 0))) ∧ Aside0 (wc.heap[gb1211]? = some (.cells #[(.slice Ao26 t1199.length co26), .int .i64 t1202, .bool t1203, (.slice Ao30 t1204.length co30), (.slice Ao31 t1207.length co31)] 27 (0, 0))) ∧ Aside0 (Below w.heap.size w wc))
   case first =>
    have H := HC9.out
    clear HC9
    by_cases c32 : (t1197 != t1210) = true
    ·rw [if_pos c32] at H
     have c32b0 : (t1197 != t1210) = true := c32
     (try (have c32b1 : decide (t1197 = t1210) = false := by simpa using c32))
     (try (have c32b2 : (t1197 == t1210) = false := by simpa using c32))
     (try (have c32b3 : ¬ (t1197 = t1210) := by simpa using c32))
     clear c32
     (first | rw [c32b0] | (simp only [i64_w, i32_w]; rw [c32b0]) | skip)
     have H' := Aside0.mk H
     clear H
     go_wp2
     go_meet
     case rel => exact ⟨_, (true), eX, H', ⟨by have := HJ2.out; first | omega | exact Nat.le_refl _⟩, ⟨by (repeat refine R_q ?_); exact Kd.R_mono (Kd.R_far (p := ⟨gb1211, 4, none⟩) (Kd.R_far (p := ⟨gb1211, 3, none⟩) (Kd.R_far (p := ⟨gb1211, 2, none⟩) (Kd.R_far (p := ⟨gb1211, 1, none⟩) (Kd.R_far (p := ⟨gb1211, 0, none⟩) (Kd.R_types HO1175.out BK1211.out (by decide)) (fun _ hk => hk.2) (.slice Ao26 t1199.length co26)) (fun _ hk => hk.2) (.int .i64 t1202)) (fun _ hk => hk.2) (.bool t1203)) (fun _ hk => hk.2) (.slice Ao30 t1204.length co30)) (fun _ hk => hk.2) (.slice Ao31 t1207.length co31)) (fun _ hk => ⟨hk.1.1.1.1.1.1.1.1, ⟨hk.1.1.1.1.1.1.1.2, ⟨hk.1.1.1.1.1.1.2, ⟨hk.1.1.1.1.1.2, ⟨hk.1.1.1.1.2, ⟨hk.1.1.1.2, ⟨hk.1.1.2, hk.1.2⟩⟩⟩⟩⟩⟩⟩)⟩, ⟨by (repeat refine R_q ?_); exact Kd.R_mono (Kd.R_far (p := ⟨gb1211, 4, none⟩) (Kd.R_far (p := ⟨gb1211, 3, none⟩) (Kd.R_far (p := ⟨gb1211, 2, none⟩) (Kd.R_far (p := ⟨gb1211, 1, none⟩) (Kd.R_far (p := ⟨gb1211, 0, none⟩) (Kd.R_types HO1180.out BK1211.out (by decide)) (fun _ hk => hk.2) (.slice Ao26 t1199.length co26)) (fun _ hk => hk.2) (.int .i64 t1202)) (fun _ hk => hk.2) (.bool t1203)) (fun _ hk => hk.2) (.slice Ao30 t1204.length co30)) (fun _ hk => hk.2) (.slice Ao31 t1207.length co31)) (fun _ hk => ⟨hk.1.1.1.1.1.1.1.1, ⟨hk.1.1.1.1.1.1.1.2, ⟨hk.1.1.1.1.1.1.2, ⟨hk.1.1.1.1.1.2, ⟨hk.1.1.1.1.2, ⟨hk.1.1.1.2, ⟨hk.1.1.2, hk.1.2⟩⟩⟩⟩⟩⟩⟩)⟩, ⟨by (repeat refine R_q ?_); exact Kd.R_mono (Kd.R_far (p := ⟨gb1211, 4, none⟩) (Kd.R_far (p := ⟨gb1211, 3, none⟩) (Kd.R_far (p := ⟨gb1211, 2, none⟩) (Kd.R_far (p := ⟨gb1211, 1, none⟩) (Kd.R_far (p := ⟨gb1211, 0, none⟩) (Kd.R_types HO1183.out BK1211.out (by decide)) (fun _ hk => hk.2) (.slice Ao26 t1199.length co26)) (fun _ hk => hk.2) (.int .i64 t1202)) (fun _ hk => hk.2) (.bool t1203)) (fun _ hk => hk.2) (.slice Ao30 t1204.length co30)) (fun _ hk => hk.2) (.slice Ao31 t1207.length co31)) (fun _ hk => ⟨hk.1.1.1.1.1.1.1.1, ⟨hk.1.1.1.1.1.1.1.2, ⟨hk.1.1.1.1.1.1.2, ⟨hk.1.1.1.1.1.2, ⟨hk.1.1.1.1.2, ⟨hk.1.1.1.2, ⟨hk.1.1.2, hk.1.2⟩⟩⟩⟩⟩⟩⟩)⟩, ⟨by (repeat refine R_q ?_); exact Kd.R_mono (Kd.R_far (p := ⟨gb1211, 4, none⟩) (Kd.R_far (p := ⟨gb1211, 3, none⟩) (Kd.R_far (p := ⟨gb1211, 2, none⟩) (Kd.R_far (p := ⟨gb1211, 1, none⟩) (Kd.R_far (p := ⟨gb1211, 0, none⟩) (Kd.R_types HO1188.out BK1211.out (by decide)) (fun _ hk => hk.2) (.slice Ao26 t1199.length co26)) (fun _ hk => hk.2) (.int .i64 t1202)) (fun _ hk => hk.2) (.bool t1203)) (fun _ hk => hk.2) (.slice Ao30 t1204.length co30)) (fun _ hk => hk.2) (.slice Ao31 t1207.length co31)) (fun _ hk => ⟨hk.1.1.1.1.1.1.2, ⟨hk.1.1.1.1.1.2, ⟨hk.1.1.1.1.2, ⟨hk.1.1.1.1.1.1.1.1, ⟨hk.1.1.1.1.1.1.1.2, ⟨hk.1.1.1.2, ⟨hk.1.1.2, hk.1.2⟩⟩⟩⟩⟩⟩⟩)⟩, ⟨by (repeat refine R_q ?_); exact Kd.R_mono (Kd.R_far (p := ⟨gb1211, 4, none⟩) (Kd.R_far (p := ⟨gb1211, 3, none⟩) (Kd.R_far (p := ⟨gb1211, 2, none⟩) (Kd.R_far (p := ⟨gb1211, 1, none⟩) (Kd.R_far (p := ⟨gb1211, 0, none⟩) (Kd.R_types HO1193.out BK1211.out (by decide)) (fun _ hk => hk.2) (.slice Ao26 t1199.length co26)) (fun _ hk => hk.2) (.int .i64 t1202)) (fun _ hk => hk.2) (.bool t1203)) (fun _ hk => hk.2) (.slice Ao30 t1204.length co30)) (fun _ hk => hk.2) (.slice Ao31 t1207.length co31)) (fun _ hk => ⟨hk.1.1.1.1.1.1.2, ⟨hk.1.1.1.1.1.2, ⟨hk.1.1.1.1.2, ⟨hk.1.1.1.1.1.1.1.1, ⟨hk.1.1.1.1.1.1.1.2, ⟨hk.1.1.1.2, ⟨hk.1.1.2, hk.1.2⟩⟩⟩⟩⟩⟩⟩)⟩, ⟨by (repeat refine R_q ?_); exact Kd.R_mono (Kd.R_far (p := ⟨gb1211, 4, none⟩) (Kd.R_far (p := ⟨gb1211, 3, none⟩) (Kd.R_far (p := ⟨gb1211, 2, none⟩) (Kd.R_far (p := ⟨gb1211, 1, none⟩) (Kd.R_far (p := ⟨gb1211, 0, none⟩) (Kd.R_types HO1196.out BK1211.out (by decide)) (fun _ hk => hk.2) (.slice Ao26 t1199.length co26)) (fun _ hk => hk.2) (.int .i64 t1202)) (fun _ hk => hk.2) (.bool t1203)) (fun _ hk => hk.2) (.slice Ao30 t1204.length co30)) (fun _ hk => hk.2) (.slice Ao31 t1207.length co31)) (fun _ hk => ⟨hk.1.1.1.1.1.1.2, ⟨hk.1.1.1.1.1.2, ⟨hk.1.1.1.1.2, ⟨hk.1.1.1.1.1.1.1.1, ⟨hk.1.1.1.1.1.1.1.2, ⟨hk.1.1.1.2, ⟨hk.1.1.2, hk.1.2⟩⟩⟩⟩⟩⟩⟩)⟩, ⟨by (repeat refine R_q ?_); exact Kd.R_mono (Kd.R_far (p := ⟨gb1211, 4, none⟩) (Kd.R_far (p := ⟨gb1211, 3, none⟩) (Kd.R_far (p := ⟨gb1211, 2, none⟩) (Kd.R_far (p := ⟨gb1211, 1, none⟩) (Kd.R_far (p := ⟨gb1211, 0, none⟩) (Kd.R_types HO1201.out BK1211.out (by decide)) (fun _ hk => hk.2) (.slice Ao26 t1199.length co26)) (fun _ hk => hk.2) (.int .i64 t1202)) (fun _ hk => hk.2) (.bool t1203)) (fun _ hk => hk.2) (.slice Ao30 t1204.length co30)) (fun _ hk => hk.2) (.slice Ao31 t1207.length co31)) (fun _ hk => ⟨hk.1.1.1.1.1.1.2, ⟨hk.1.1.1.1.1.2, ⟨hk.1.1.1.1.2, ⟨hk.1.1.1.2, ⟨hk.1.1.2, ⟨hk.1.2, ⟨hk.1.1.1.1.1.1.1.1, hk.1.1.1.1.1.1.1.2⟩⟩⟩⟩⟩⟩⟩)⟩, ⟨by (repeat refine R_q ?_); exact Kd.R_mono (Kd.R_far (p := ⟨gb1211, 4, none⟩) (Kd.R_far (p := ⟨gb1211, 3, none⟩) (Kd.R_far (p := ⟨gb1211, 2, none⟩) (Kd.R_far (p := ⟨gb1211, 1, none⟩) (Kd.R_far (p := ⟨gb1211, 0, none⟩) (Kd.R_types HO1206.out BK1211.out (by decide)) (fun _ hk => hk.2) (.slice Ao26 t1199.length co26)) (fun _ hk => hk.2) (.int .i64 t1202)) (fun _ hk => hk.2) (.bool t1203)) (fun _ hk => hk.2) (.slice Ao30 t1204.length co30)) (fun _ hk => hk.2) (.slice Ao31 t1207.length co31)) (fun _ hk => ⟨hk.1.1.1.1.1.1.2, ⟨hk.1.1.1.1.1.2, ⟨hk.1.1.1.1.2, ⟨hk.1.1.1.2, ⟨hk.1.1.2, ⟨hk.1.2, ⟨hk.1.1.1.1.1.1.1.1, hk.1.1.1.1.1.1.1.2⟩⟩⟩⟩⟩⟩⟩)⟩, ⟨by (repeat refine R_q ?_); exact Kd.R_mono (Kd.R_far (p := ⟨gb1211, 4, none⟩) (Kd.R_far (p := ⟨gb1211, 3, none⟩) (Kd.R_far (p := ⟨gb1211, 2, none⟩) (Kd.R_far (p := ⟨gb1211, 1, none⟩) (Kd.R_far (p := ⟨gb1211, 0, none⟩) (Kd.R_types HO1209.out BK1211.out (by decide)) (fun _ hk => hk.2) (.slice Ao26 t1199.length co26)) (fun _ hk => hk.2) (.int .i64 t1202)) (fun _ hk => hk.2) (.bool t1203)) (fun _ hk => hk.2) (.slice Ao30 t1204.length co30)) (fun _ hk => hk.2) (.slice Ao31 t1207.length co31)) (fun _ hk => ⟨hk.1.1.1.1.1.1.2, ⟨hk.1.1.1.1.1.2, ⟨hk.1.1.1.1.2, ⟨hk.1.1.1.2, ⟨hk.1.1.2, ⟨hk.1.2, ⟨hk.1.1.1.1.1.1.1.1, hk.1.1.1.1.1.1.1.2⟩⟩⟩⟩⟩⟩⟩)⟩, ⟨by (repeat refine blk_q ?_); refine blk_far ?_ NB1185_1211.out _; (repeat refine blk_q ?_); refine blk_far ?_ NB1185_1211.out _; (repeat refine blk_q ?_); refine blk_far ?_ NB1185_1211.out _; (repeat refine blk_q ?_); refine blk_far ?_ NB1185_1211.out _; (repeat refine blk_q ?_); refine blk_far ?_ NB1185_1211.out _; (repeat refine blk_q ?_); exact BK1185.out⟩, ⟨by (repeat refine blk_q ?_); refine blk_far ?_ NB1198_1211.out _; (repeat refine blk_q ?_); refine blk_far ?_ NB1198_1211.out _; (repeat refine blk_q ?_); refine blk_far ?_ NB1198_1211.out _; (repeat refine blk_q ?_); refine blk_far ?_ NB1198_1211.out _; (repeat refine blk_q ?_); refine blk_far ?_ NB1198_1211.out _; (repeat refine blk_q ?_); exact BK1198.out⟩, ⟨by (repeat refine blk_q ?_); refine blk_put (cs := #[.slice Ao26 t1199.length co26, .int .i64 t1202, .bool t1203, .slice Ao30 t1204.length co30, .slice none 0 0]) ?_ 4 _ rfl; (repeat refine blk_q ?_); refine blk_put (cs := #[.slice Ao26 t1199.length co26, .int .i64 t1202, .bool t1203, .slice none 0 0, .slice none 0 0]) ?_ 3 _ rfl; (repeat refine blk_q ?_); refine blk_put (cs := #[.slice Ao26 t1199.length co26, .int .i64 t1202, .bool false, .slice none 0 0, .slice none 0 0]) ?_ 2 _ rfl; (repeat refine blk_q ?_); refine blk_put (cs := #[.slice Ao26 t1199.length co26, .int .i64 0, .bool false, .slice none 0 0, .slice none 0 0]) ?_ 1 _ rfl; (repeat refine blk_q ?_); refine blk_put (cs := #[.slice none 0 0, .int .i64 0, .bool false, .slice none 0 0, .slice none 0 0]) ?_ 0 _ rfl; (repeat refine blk_q ?_); exact BK1211.out⟩, ⟨by repeat (first | (with_reducible first | exact HB.out | apply below_alloc | apply pw_below_drewN | apply below_drew1 | refine below_set ?_ GE1185.out | refine below_set ?_ GE1198.out | refine below_set ?_ GE1211.out) | exact HB.out)⟩⟩
    rw [if_neg c32] at H
    have c32b0 : (t1197 != t1210) = false := by simpa using c32
    (try (have c32b1 : decide (t1197 = t1210) = true := by simpa using c32))
    (try (have c32b2 : (t1197 == t1210) = true := by simpa using c32))
    clear c32
    (first | rw [c32b0] | (simp only [i64_w, i32_w]; rw [c32b0]) | skip)
    obtain ⟨t1212, A330, H⟩ := Option.bind_eq_some_iff.mp H
    try dsimp only at H
    have A33 := Aside0.mk A330
    clear A330
    by_cases c34 : t1212 = true
    ·subst c34
     replace H := ifP (rfl) H
     have H' := Aside0.mk H
     clear H
     have hnb35 := NB1198_1185.out
     have hnc35 := NB1185_1198.out
     have hnb36 := NB1198_1211.out
     have hnc36 := NB1211_1198.out
     have hcz37_0 : w25.cell? ⟨gb1198, 0, none⟩ = some (.slice Ao18 t1186.length co18) := (blk_cell BK1198.out 0).trans rfl
     have hcz37_1 : w25.cell? ⟨gb1198, 1, none⟩ = some (.int .i64 t1189) := (blk_cell BK1198.out 1).trans rfl
     have hcz37_2 : w25.cell? ⟨gb1198, 2, none⟩ = some (.bool t1190) := (blk_cell BK1198.out 2).trans rfl
     have hcz37_3 : w25.cell? ⟨gb1198, 3, none⟩ = some (.slice Ao21 t1191.length co21) := (blk_cell BK1198.out 3).trans rfl
     have hcz37_4 : w25.cell? ⟨gb1198, 4, none⟩ = some (.slice Ao22 t1194.length co22) := (blk_cell BK1198.out 4).trans rfl
     have hfz37_0 := blk_frozen BK1198.out 0
     have hfz37_1 := blk_frozen BK1198.out 1
     have hfz37_2 := blk_frozen BK1198.out 2
     have hfz37_3 := blk_frozen BK1198.out 3
     have hfz37_4 := blk_frozen BK1198.out 4
     have hnb38 := NB1211_1185.out
     have hnc38 := NB1185_1211.out
     have hcz39_0 : w25.cell? ⟨gb1211, 0, none⟩ = some (.slice none 0 0) := (blk_cell BK1211.out 0).trans rfl
     have hcz39_1 : w25.cell? ⟨gb1211, 1, none⟩ = some (.int .i64 0) := (blk_cell BK1211.out 1).trans rfl
     have hcz39_2 : w25.cell? ⟨gb1211, 2, none⟩ = some (.bool false) := (blk_cell BK1211.out 2).trans rfl
     have hcz39_3 : w25.cell? ⟨gb1211, 3, none⟩ = some (.slice none 0 0) := (blk_cell BK1211.out 3).trans rfl
     have hcz39_4 : w25.cell? ⟨gb1211, 4, none⟩ = some (.slice none 0 0) := (blk_cell BK1211.out 4).trans rfl
     have hfz39_0 := blk_frozen BK1211.out 0
     have hfz39_1 := blk_frozen BK1211.out 1
     have hfz39_2 := blk_frozen BK1211.out 2
     have hfz39_3 := blk_frozen BK1211.out 3
     have hfz39_4 := blk_frozen BK1211.out 4
     go_wp2_with (first | (go_at_call 54; (with_reducible refine (laws_samePsalm.calls kj2 _ _ t1186 t1189 t1190 _ _ t1191 _ _ t1194 _ _ t1199 t1202 t1203 _ _ t1204 _ _ t1207 true _ ?side1 ?side2 ?side3 ?side4 ?side5 ?side6 ?side7 ?side8 ?side9 ?side10 ?side11 ?side12 A33.out).mono ?_); (case side1 => refine (Kd.R_reads' (e := 25) (base := w.heap.size) (ok := fun k_ => (((((((nb k_ (.slice Ao21 t1191.length co21) ∧ nb k_ (.slice Ao22 t1194.length co22)) ∧ nb k_ (.slice Ao12 t1173.length co12)) ∧ nb k_ (.slice Ao14 t1178.length co14)) ∧ nb k_ (.slice Ao15 t1181.length co15)) ∧ nb k_ (.slice Ao26 t1199.length co26)) ∧ nb k_ (.slice Ao30 t1204.length co30)) ∧ nb k_ (.slice Ao31 t1207.length co31))) (n := t1186.length) (c := co18) ?_).2.2; exact (upR' ((Kd.R_mono (Kd.R_far (p := ⟨gb1211, 4, none⟩) (Kd.R_far (p := ⟨gb1211, 3, none⟩) (Kd.R_far (p := ⟨gb1211, 2, none⟩) (Kd.R_far (p := ⟨gb1211, 1, none⟩) (Kd.R_far (p := ⟨gb1211, 0, none⟩) (Kd.R_types HO1188.out BK1211.out (by decide)) (fun _ hk => hk.2) (.slice Ao26 t1199.length co26)) (fun _ hk => hk.2) (.int .i64 t1202)) (fun _ hk => hk.2) (.bool t1203)) (fun _ hk => hk.2) (.slice Ao30 t1204.length co30)) (fun _ hk => hk.2) (.slice Ao31 t1207.length co31)) (fun _ h_ => h_.1))))); (case side2 => exact (Kd.R_reads' HO1188.out).2.1); (case side3 => refine (Kd.R_reads' (e := 25) (base := w.heap.size) (ok := fun k_ => (((((((nb k_ (.slice Ao18 t1186.length co18) ∧ nb k_ (.slice Ao22 t1194.length co22)) ∧ nb k_ (.slice Ao12 t1173.length co12)) ∧ nb k_ (.slice Ao14 t1178.length co14)) ∧ nb k_ (.slice Ao15 t1181.length co15)) ∧ nb k_ (.slice Ao26 t1199.length co26)) ∧ nb k_ (.slice Ao30 t1204.length co30)) ∧ nb k_ (.slice Ao31 t1207.length co31))) (n := t1191.length) (c := co21) ?_).2.2; exact (upR' ((Kd.R_mono (Kd.R_far (p := ⟨gb1211, 4, none⟩) (Kd.R_far (p := ⟨gb1211, 3, none⟩) (Kd.R_far (p := ⟨gb1211, 2, none⟩) (Kd.R_far (p := ⟨gb1211, 1, none⟩) (Kd.R_far (p := ⟨gb1211, 0, none⟩) (Kd.R_types HO1193.out BK1211.out (by decide)) (fun _ hk => hk.2) (.slice Ao26 t1199.length co26)) (fun _ hk => hk.2) (.int .i64 t1202)) (fun _ hk => hk.2) (.bool t1203)) (fun _ hk => hk.2) (.slice Ao30 t1204.length co30)) (fun _ hk => hk.2) (.slice Ao31 t1207.length co31)) (fun _ h_ => h_.1))))); (case side4 => exact (Kd.R_reads' HO1193.out).2.1); (case side5 => refine (Kd.R_reads' (e := 25) (base := w.heap.size) (ok := fun k_ => (((((((nb k_ (.slice Ao18 t1186.length co18) ∧ nb k_ (.slice Ao21 t1191.length co21)) ∧ nb k_ (.slice Ao12 t1173.length co12)) ∧ nb k_ (.slice Ao14 t1178.length co14)) ∧ nb k_ (.slice Ao15 t1181.length co15)) ∧ nb k_ (.slice Ao26 t1199.length co26)) ∧ nb k_ (.slice Ao30 t1204.length co30)) ∧ nb k_ (.slice Ao31 t1207.length co31))) (n := t1194.length) (c := co22) ?_).2.2; exact (upR' ((Kd.R_mono (Kd.R_far (p := ⟨gb1211, 4, none⟩) (Kd.R_far (p := ⟨gb1211, 3, none⟩) (Kd.R_far (p := ⟨gb1211, 2, none⟩) (Kd.R_far (p := ⟨gb1211, 1, none⟩) (Kd.R_far (p := ⟨gb1211, 0, none⟩) (Kd.R_types HO1196.out BK1211.out (by decide)) (fun _ hk => hk.2) (.slice Ao26 t1199.length co26)) (fun _ hk => hk.2) (.int .i64 t1202)) (fun _ hk => hk.2) (.bool t1203)) (fun _ hk => hk.2) (.slice Ao30 t1204.length co30)) (fun _ hk => hk.2) (.slice Ao31 t1207.length co31)) (fun _ h_ => h_.1))))); (case side6 => exact (Kd.R_reads' HO1196.out).2.1); (case side7 => refine (Kd.R_reads' (e := 25) (base := w.heap.size) (ok := fun k_ => (((((((nb k_ (.slice Ao30 t1204.length co30) ∧ nb k_ (.slice Ao31 t1207.length co31)) ∧ nb k_ (.slice Ao12 t1173.length co12)) ∧ nb k_ (.slice Ao14 t1178.length co14)) ∧ nb k_ (.slice Ao15 t1181.length co15)) ∧ nb k_ (.slice Ao18 t1186.length co18)) ∧ nb k_ (.slice Ao21 t1191.length co21)) ∧ nb k_ (.slice Ao22 t1194.length co22))) (n := t1199.length) (c := co26) ?_).2.2; exact (upR' ((Kd.R_mono (Kd.R_far (p := ⟨gb1211, 4, none⟩) (Kd.R_far (p := ⟨gb1211, 3, none⟩) (Kd.R_far (p := ⟨gb1211, 2, none⟩) (Kd.R_far (p := ⟨gb1211, 1, none⟩) (Kd.R_far (p := ⟨gb1211, 0, none⟩) (Kd.R_types HO1201.out BK1211.out (by decide)) (fun _ hk => hk.2) (.slice Ao26 t1199.length co26)) (fun _ hk => hk.2) (.int .i64 t1202)) (fun _ hk => hk.2) (.bool t1203)) (fun _ hk => hk.2) (.slice Ao30 t1204.length co30)) (fun _ hk => hk.2) (.slice Ao31 t1207.length co31)) (fun _ h_ => h_.1))))); (case side8 => exact (Kd.R_reads' HO1201.out).2.1); (case side9 => refine (Kd.R_reads' (e := 25) (base := w.heap.size) (ok := fun k_ => (((((((nb k_ (.slice Ao26 t1199.length co26) ∧ nb k_ (.slice Ao31 t1207.length co31)) ∧ nb k_ (.slice Ao12 t1173.length co12)) ∧ nb k_ (.slice Ao14 t1178.length co14)) ∧ nb k_ (.slice Ao15 t1181.length co15)) ∧ nb k_ (.slice Ao18 t1186.length co18)) ∧ nb k_ (.slice Ao21 t1191.length co21)) ∧ nb k_ (.slice Ao22 t1194.length co22))) (n := t1204.length) (c := co30) ?_).2.2; exact (upR' ((Kd.R_mono (Kd.R_far (p := ⟨gb1211, 4, none⟩) (Kd.R_far (p := ⟨gb1211, 3, none⟩) (Kd.R_far (p := ⟨gb1211, 2, none⟩) (Kd.R_far (p := ⟨gb1211, 1, none⟩) (Kd.R_far (p := ⟨gb1211, 0, none⟩) (Kd.R_types HO1206.out BK1211.out (by decide)) (fun _ hk => hk.2) (.slice Ao26 t1199.length co26)) (fun _ hk => hk.2) (.int .i64 t1202)) (fun _ hk => hk.2) (.bool t1203)) (fun _ hk => hk.2) (.slice Ao30 t1204.length co30)) (fun _ hk => hk.2) (.slice Ao31 t1207.length co31)) (fun _ h_ => h_.1))))); (case side10 => exact (Kd.R_reads' HO1206.out).2.1); (case side11 => refine (Kd.R_reads' (e := 25) (base := w.heap.size) (ok := fun k_ => (((((((nb k_ (.slice Ao26 t1199.length co26) ∧ nb k_ (.slice Ao30 t1204.length co30)) ∧ nb k_ (.slice Ao12 t1173.length co12)) ∧ nb k_ (.slice Ao14 t1178.length co14)) ∧ nb k_ (.slice Ao15 t1181.length co15)) ∧ nb k_ (.slice Ao18 t1186.length co18)) ∧ nb k_ (.slice Ao21 t1191.length co21)) ∧ nb k_ (.slice Ao22 t1194.length co22))) (n := t1207.length) (c := co31) ?_).2.2; exact (upR' ((Kd.R_mono (Kd.R_far (p := ⟨gb1211, 4, none⟩) (Kd.R_far (p := ⟨gb1211, 3, none⟩) (Kd.R_far (p := ⟨gb1211, 2, none⟩) (Kd.R_far (p := ⟨gb1211, 1, none⟩) (Kd.R_far (p := ⟨gb1211, 0, none⟩) (Kd.R_types HO1209.out BK1211.out (by decide)) (fun _ hk => hk.2) (.slice Ao26 t1199.length co26)) (fun _ hk => hk.2) (.int .i64 t1202)) (fun _ hk => hk.2) (.bool t1203)) (fun _ hk => hk.2) (.slice Ao30 t1204.length co30)) (fun _ hk => hk.2) (.slice Ao31 t1207.length co31)) (fun _ h_ => h_.1))))); (case side12 => exact (Kd.R_reads' HO1209.out).2.1); rintro e w40 ⟨rfl, hb⟩; have n0_ := Q0_ (Kd.R_below (upR' ((Kd.R_mono (Kd.R_far (p := ⟨gb1211, 4, none⟩) (Kd.R_far (p := ⟨gb1211, 3, none⟩) (Kd.R_far (p := ⟨gb1211, 2, none⟩) (Kd.R_far (p := ⟨gb1211, 1, none⟩) (Kd.R_far (p := ⟨gb1211, 0, none⟩) (Kd.R_types HO1175.out BK1211.out (by decide)) (fun _ hk => hk.2) (.slice Ao26 t1199.length co26)) (fun _ hk => hk.2) (.int .i64 t1202)) (fun _ hk => hk.2) (.bool t1203)) (fun _ hk => hk.2) (.slice Ao30 t1204.length co30)) (fun _ hk => hk.2) (.slice Ao31 t1207.length co31)) (fun _ h_ => h_.1)))) hb); have n1_ := Q0_ (Kd.R_below (upR' ((Kd.R_mono (Kd.R_far (p := ⟨gb1211, 4, none⟩) (Kd.R_far (p := ⟨gb1211, 3, none⟩) (Kd.R_far (p := ⟨gb1211, 2, none⟩) (Kd.R_far (p := ⟨gb1211, 1, none⟩) (Kd.R_far (p := ⟨gb1211, 0, none⟩) (Kd.R_types HO1180.out BK1211.out (by decide)) (fun _ hk => hk.2) (.slice Ao26 t1199.length co26)) (fun _ hk => hk.2) (.int .i64 t1202)) (fun _ hk => hk.2) (.bool t1203)) (fun _ hk => hk.2) (.slice Ao30 t1204.length co30)) (fun _ hk => hk.2) (.slice Ao31 t1207.length co31)) (fun _ h_ => h_.1)))) hb); have n2_ := Q0_ (Kd.R_below (upR' ((Kd.R_mono (Kd.R_far (p := ⟨gb1211, 4, none⟩) (Kd.R_far (p := ⟨gb1211, 3, none⟩) (Kd.R_far (p := ⟨gb1211, 2, none⟩) (Kd.R_far (p := ⟨gb1211, 1, none⟩) (Kd.R_far (p := ⟨gb1211, 0, none⟩) (Kd.R_types HO1183.out BK1211.out (by decide)) (fun _ hk => hk.2) (.slice Ao26 t1199.length co26)) (fun _ hk => hk.2) (.int .i64 t1202)) (fun _ hk => hk.2) (.bool t1203)) (fun _ hk => hk.2) (.slice Ao30 t1204.length co30)) (fun _ hk => hk.2) (.slice Ao31 t1207.length co31)) (fun _ h_ => h_.1)))) hb); have n3_ := Q0_ (Kd.R_below (upR' ((Kd.R_mono (Kd.R_far (p := ⟨gb1211, 4, none⟩) (Kd.R_far (p := ⟨gb1211, 3, none⟩) (Kd.R_far (p := ⟨gb1211, 2, none⟩) (Kd.R_far (p := ⟨gb1211, 1, none⟩) (Kd.R_far (p := ⟨gb1211, 0, none⟩) (Kd.R_types HO1188.out BK1211.out (by decide)) (fun _ hk => hk.2) (.slice Ao26 t1199.length co26)) (fun _ hk => hk.2) (.int .i64 t1202)) (fun _ hk => hk.2) (.bool t1203)) (fun _ hk => hk.2) (.slice Ao30 t1204.length co30)) (fun _ hk => hk.2) (.slice Ao31 t1207.length co31)) (fun _ h_ => h_.1)))) hb); have n4_ := Q0_ (Kd.R_below (upR' ((Kd.R_mono (Kd.R_far (p := ⟨gb1211, 4, none⟩) (Kd.R_far (p := ⟨gb1211, 3, none⟩) (Kd.R_far (p := ⟨gb1211, 2, none⟩) (Kd.R_far (p := ⟨gb1211, 1, none⟩) (Kd.R_far (p := ⟨gb1211, 0, none⟩) (Kd.R_types HO1193.out BK1211.out (by decide)) (fun _ hk => hk.2) (.slice Ao26 t1199.length co26)) (fun _ hk => hk.2) (.int .i64 t1202)) (fun _ hk => hk.2) (.bool t1203)) (fun _ hk => hk.2) (.slice Ao30 t1204.length co30)) (fun _ hk => hk.2) (.slice Ao31 t1207.length co31)) (fun _ h_ => h_.1)))) hb); have n5_ := Q0_ (Kd.R_below (upR' ((Kd.R_mono (Kd.R_far (p := ⟨gb1211, 4, none⟩) (Kd.R_far (p := ⟨gb1211, 3, none⟩) (Kd.R_far (p := ⟨gb1211, 2, none⟩) (Kd.R_far (p := ⟨gb1211, 1, none⟩) (Kd.R_far (p := ⟨gb1211, 0, none⟩) (Kd.R_types HO1196.out BK1211.out (by decide)) (fun _ hk => hk.2) (.slice Ao26 t1199.length co26)) (fun _ hk => hk.2) (.int .i64 t1202)) (fun _ hk => hk.2) (.bool t1203)) (fun _ hk => hk.2) (.slice Ao30 t1204.length co30)) (fun _ hk => hk.2) (.slice Ao31 t1207.length co31)) (fun _ h_ => h_.1)))) hb); have n6_ := Q0_ (Kd.R_below (upR' ((Kd.R_mono (Kd.R_far (p := ⟨gb1211, 4, none⟩) (Kd.R_far (p := ⟨gb1211, 3, none⟩) (Kd.R_far (p := ⟨gb1211, 2, none⟩) (Kd.R_far (p := ⟨gb1211, 1, none⟩) (Kd.R_far (p := ⟨gb1211, 0, none⟩) (Kd.R_types HO1201.out BK1211.out (by decide)) (fun _ hk => hk.2) (.slice Ao26 t1199.length co26)) (fun _ hk => hk.2) (.int .i64 t1202)) (fun _ hk => hk.2) (.bool t1203)) (fun _ hk => hk.2) (.slice Ao30 t1204.length co30)) (fun _ hk => hk.2) (.slice Ao31 t1207.length co31)) (fun _ h_ => h_.1)))) hb); have n7_ := Q0_ (Kd.R_below (upR' ((Kd.R_mono (Kd.R_far (p := ⟨gb1211, 4, none⟩) (Kd.R_far (p := ⟨gb1211, 3, none⟩) (Kd.R_far (p := ⟨gb1211, 2, none⟩) (Kd.R_far (p := ⟨gb1211, 1, none⟩) (Kd.R_far (p := ⟨gb1211, 0, none⟩) (Kd.R_types HO1206.out BK1211.out (by decide)) (fun _ hk => hk.2) (.slice Ao26 t1199.length co26)) (fun _ hk => hk.2) (.int .i64 t1202)) (fun _ hk => hk.2) (.bool t1203)) (fun _ hk => hk.2) (.slice Ao30 t1204.length co30)) (fun _ hk => hk.2) (.slice Ao31 t1207.length co31)) (fun _ h_ => h_.1)))) hb); have n8_ := Q0_ (Kd.R_below (upR' ((Kd.R_mono (Kd.R_far (p := ⟨gb1211, 4, none⟩) (Kd.R_far (p := ⟨gb1211, 3, none⟩) (Kd.R_far (p := ⟨gb1211, 2, none⟩) (Kd.R_far (p := ⟨gb1211, 1, none⟩) (Kd.R_far (p := ⟨gb1211, 0, none⟩) (Kd.R_types HO1209.out BK1211.out (by decide)) (fun _ hk => hk.2) (.slice Ao26 t1199.length co26)) (fun _ hk => hk.2) (.int .i64 t1202)) (fun _ hk => hk.2) (.bool t1203)) (fun _ hk => hk.2) (.slice Ao30 t1204.length co30)) (fun _ hk => hk.2) (.slice Ao31 t1207.length co31)) (fun _ h_ => h_.1)))) hb); have n9_ := Q0_ (blk_below (g := gb1185) (o := .cells #[.slice Ao12 t1173.length co12, .int .i64 t1176, .bool t1177, .slice Ao14 t1178.length co14, .slice Ao15 t1181.length co15] 27 (0, 0)) (by (repeat refine blk_q ?_); refine blk_far ?_ NB1185_1211.out _; (repeat refine blk_q ?_); refine blk_far ?_ NB1185_1211.out _; (repeat refine blk_q ?_); refine blk_far ?_ NB1185_1211.out _; (repeat refine blk_q ?_); refine blk_far ?_ NB1185_1211.out _; (repeat refine blk_q ?_); refine blk_far ?_ NB1185_1211.out _; (repeat refine blk_q ?_); exact BK1185.out) hb); have n10_ := Q0_ (blk_below (g := gb1198) (o := .cells #[.slice Ao18 t1186.length co18, .int .i64 t1189, .bool t1190, .slice Ao21 t1191.length co21, .slice Ao22 t1194.length co22] 27 (0, 0)) (by (repeat refine blk_q ?_); refine blk_far ?_ NB1198_1211.out _; (repeat refine blk_q ?_); refine blk_far ?_ NB1198_1211.out _; (repeat refine blk_q ?_); refine blk_far ?_ NB1198_1211.out _; (repeat refine blk_q ?_); refine blk_far ?_ NB1198_1211.out _; (repeat refine blk_q ?_); refine blk_far ?_ NB1198_1211.out _; (repeat refine blk_q ?_); exact BK1198.out) hb); have n11_ := Q0_ (blk_below (g := gb1211) (o := .cells #[.slice Ao26 t1199.length co26, .int .i64 t1202, .bool t1203, .slice Ao30 t1204.length co30, .slice Ao31 t1207.length co31] 27 (0, 0)) (by (repeat refine blk_q ?_); refine blk_put (cs := #[.slice Ao26 t1199.length co26, .int .i64 t1202, .bool t1203, .slice Ao30 t1204.length co30, .slice none 0 0]) ?_ 4 _ rfl; (repeat refine blk_q ?_); refine blk_put (cs := #[.slice Ao26 t1199.length co26, .int .i64 t1202, .bool t1203, .slice none 0 0, .slice none 0 0]) ?_ 3 _ rfl; (repeat refine blk_q ?_); refine blk_put (cs := #[.slice Ao26 t1199.length co26, .int .i64 t1202, .bool false, .slice none 0 0, .slice none 0 0]) ?_ 2 _ rfl; (repeat refine blk_q ?_); refine blk_put (cs := #[.slice Ao26 t1199.length co26, .int .i64 0, .bool false, .slice none 0 0, .slice none 0 0]) ?_ 1 _ rfl; (repeat refine blk_q ?_); refine blk_put (cs := #[.slice none 0 0, .int .i64 0, .bool false, .slice none 0 0, .slice none 0 0]) ?_ 0 _ rfl; (repeat refine blk_q ?_); exact BK1211.out) hb); have n12_ := Q0_ (below_step upH hb); clear HO1175 HO1180 HO1183 HO1188 HO1193 HO1196 HO1201 HO1206 HO1209 BK1185 BK1198 BK1211 HB; revert n0_ n1_ n2_ n3_ n4_ n5_ n6_ n7_ n8_ n9_ n10_ n11_ n12_; intro HO1175 HO1180 HO1183 HO1188 HO1193 HO1196 HO1201 HO1206 HO1209 BK1185 BK1198 BK1211 HB; (try clear hb); (try clear hb2); (try clear hk); (try clear hi)))
     go_meet
     case rel => exact ⟨_, (!t1197), eX, H', ⟨by have := HJ2.out; first | omega | exact Nat.le_refl _⟩, ⟨by (repeat refine R_q ?_); exact Kd.R_mono HO1175.out (fun _ hk => ⟨hk.1.1.1.1.1.1.1, ⟨hk.1.1.1.1.1.1.2, ⟨hk.1.1.1.1.1.2, ⟨hk.1.1.1.1.2, ⟨hk.1.1.1.2, ⟨hk.1.1.2, ⟨hk.1.2, hk.2⟩⟩⟩⟩⟩⟩⟩)⟩, ⟨by (repeat refine R_q ?_); exact Kd.R_mono HO1180.out (fun _ hk => ⟨hk.1.1.1.1.1.1.1, ⟨hk.1.1.1.1.1.1.2, ⟨hk.1.1.1.1.1.2, ⟨hk.1.1.1.1.2, ⟨hk.1.1.1.2, ⟨hk.1.1.2, ⟨hk.1.2, hk.2⟩⟩⟩⟩⟩⟩⟩)⟩, ⟨by (repeat refine R_q ?_); exact Kd.R_mono HO1183.out (fun _ hk => ⟨hk.1.1.1.1.1.1.1, ⟨hk.1.1.1.1.1.1.2, ⟨hk.1.1.1.1.1.2, ⟨hk.1.1.1.1.2, ⟨hk.1.1.1.2, ⟨hk.1.1.2, ⟨hk.1.2, hk.2⟩⟩⟩⟩⟩⟩⟩)⟩, ⟨by (repeat refine R_q ?_); exact Kd.R_mono HO1188.out (fun _ hk => ⟨hk.1.1.1.1.1.2, ⟨hk.1.1.1.1.2, ⟨hk.1.1.1.2, ⟨hk.1.1.1.1.1.1.1, ⟨hk.1.1.1.1.1.1.2, ⟨hk.1.1.2, ⟨hk.1.2, hk.2⟩⟩⟩⟩⟩⟩⟩)⟩, ⟨by (repeat refine R_q ?_); exact Kd.R_mono HO1193.out (fun _ hk => ⟨hk.1.1.1.1.1.2, ⟨hk.1.1.1.1.2, ⟨hk.1.1.1.2, ⟨hk.1.1.1.1.1.1.1, ⟨hk.1.1.1.1.1.1.2, ⟨hk.1.1.2, ⟨hk.1.2, hk.2⟩⟩⟩⟩⟩⟩⟩)⟩, ⟨by (repeat refine R_q ?_); exact Kd.R_mono HO1196.out (fun _ hk => ⟨hk.1.1.1.1.1.2, ⟨hk.1.1.1.1.2, ⟨hk.1.1.1.2, ⟨hk.1.1.1.1.1.1.1, ⟨hk.1.1.1.1.1.1.2, ⟨hk.1.1.2, ⟨hk.1.2, hk.2⟩⟩⟩⟩⟩⟩⟩)⟩, ⟨by (repeat refine R_q ?_); exact Kd.R_mono HO1201.out (fun _ hk => ⟨hk.1.1.1.1.1.2, ⟨hk.1.1.1.1.2, ⟨hk.1.1.1.2, ⟨hk.1.1.2, ⟨hk.1.2, ⟨hk.2, ⟨hk.1.1.1.1.1.1.1, hk.1.1.1.1.1.1.2⟩⟩⟩⟩⟩⟩⟩)⟩, ⟨by (repeat refine R_q ?_); exact Kd.R_mono HO1206.out (fun _ hk => ⟨hk.1.1.1.1.1.2, ⟨hk.1.1.1.1.2, ⟨hk.1.1.1.2, ⟨hk.1.1.2, ⟨hk.1.2, ⟨hk.2, ⟨hk.1.1.1.1.1.1.1, hk.1.1.1.1.1.1.2⟩⟩⟩⟩⟩⟩⟩)⟩, ⟨by (repeat refine R_q ?_); exact Kd.R_mono HO1209.out (fun _ hk => ⟨hk.1.1.1.1.1.2, ⟨hk.1.1.1.1.2, ⟨hk.1.1.1.2, ⟨hk.1.1.2, ⟨hk.1.2, ⟨hk.2, ⟨hk.1.1.1.1.1.1.1, hk.1.1.1.1.1.1.2⟩⟩⟩⟩⟩⟩⟩)⟩, ⟨by (repeat refine blk_q ?_); exact BK1185.out⟩, ⟨by (repeat refine blk_q ?_); exact BK1198.out⟩, ⟨by (repeat refine blk_q ?_); exact BK1211.out⟩, ⟨by repeat (first | (with_reducible first | exact HB.out | apply below_alloc | apply pw_below_drewN | apply below_drew1 | refine below_set ?_ GE1185.out | refine below_set ?_ GE1198.out | refine below_set ?_ GE1211.out) | exact HB.out)⟩⟩
    replace c34 := Bool.eq_false_iff.mpr c34
    subst c34
    replace H := ifN ((show ¬ (false = true) by decide)) H
    have H' := Aside0.mk H
    clear H
    have hnb41 := NB1198_1185.out
    have hnc41 := NB1185_1198.out
    have hnb42 := NB1198_1211.out
    have hnc42 := NB1211_1198.out
    have hcz43_0 : w25.cell? ⟨gb1198, 0, none⟩ = some (.slice Ao18 t1186.length co18) := (blk_cell BK1198.out 0).trans rfl
    have hcz43_1 : w25.cell? ⟨gb1198, 1, none⟩ = some (.int .i64 t1189) := (blk_cell BK1198.out 1).trans rfl
    have hcz43_2 : w25.cell? ⟨gb1198, 2, none⟩ = some (.bool t1190) := (blk_cell BK1198.out 2).trans rfl
    have hcz43_3 : w25.cell? ⟨gb1198, 3, none⟩ = some (.slice Ao21 t1191.length co21) := (blk_cell BK1198.out 3).trans rfl
    have hcz43_4 : w25.cell? ⟨gb1198, 4, none⟩ = some (.slice Ao22 t1194.length co22) := (blk_cell BK1198.out 4).trans rfl
    have hfz43_0 := blk_frozen BK1198.out 0
    have hfz43_1 := blk_frozen BK1198.out 1
    have hfz43_2 := blk_frozen BK1198.out 2
    have hfz43_3 := blk_frozen BK1198.out 3
    have hfz43_4 := blk_frozen BK1198.out 4
    have hnb44 := NB1211_1185.out
    have hnc44 := NB1185_1211.out
    have hcz45_0 : w25.cell? ⟨gb1211, 0, none⟩ = some (.slice none 0 0) := (blk_cell BK1211.out 0).trans rfl
    have hcz45_1 : w25.cell? ⟨gb1211, 1, none⟩ = some (.int .i64 0) := (blk_cell BK1211.out 1).trans rfl
    have hcz45_2 : w25.cell? ⟨gb1211, 2, none⟩ = some (.bool false) := (blk_cell BK1211.out 2).trans rfl
    have hcz45_3 : w25.cell? ⟨gb1211, 3, none⟩ = some (.slice none 0 0) := (blk_cell BK1211.out 3).trans rfl
    have hcz45_4 : w25.cell? ⟨gb1211, 4, none⟩ = some (.slice none 0 0) := (blk_cell BK1211.out 4).trans rfl
    have hfz45_0 := blk_frozen BK1211.out 0
    have hfz45_1 := blk_frozen BK1211.out 1
    have hfz45_2 := blk_frozen BK1211.out 2
    have hfz45_3 := blk_frozen BK1211.out 3
    have hfz45_4 := blk_frozen BK1211.out 4
    go_wp2_with (first | (go_at_call 54; (with_reducible refine (laws_samePsalm.calls kj2 _ _ t1186 t1189 t1190 _ _ t1191 _ _ t1194 _ _ t1199 t1202 t1203 _ _ t1204 _ _ t1207 false _ ?side1 ?side2 ?side3 ?side4 ?side5 ?side6 ?side7 ?side8 ?side9 ?side10 ?side11 ?side12 A33.out).mono ?_); (case side1 => refine (Kd.R_reads' (e := 25) (base := w.heap.size) (ok := fun k_ => (((((((nb k_ (.slice Ao21 t1191.length co21) ∧ nb k_ (.slice Ao22 t1194.length co22)) ∧ nb k_ (.slice Ao12 t1173.length co12)) ∧ nb k_ (.slice Ao14 t1178.length co14)) ∧ nb k_ (.slice Ao15 t1181.length co15)) ∧ nb k_ (.slice Ao26 t1199.length co26)) ∧ nb k_ (.slice Ao30 t1204.length co30)) ∧ nb k_ (.slice Ao31 t1207.length co31))) (n := t1186.length) (c := co18) ?_).2.2; exact (upR' ((Kd.R_mono (Kd.R_far (p := ⟨gb1211, 4, none⟩) (Kd.R_far (p := ⟨gb1211, 3, none⟩) (Kd.R_far (p := ⟨gb1211, 2, none⟩) (Kd.R_far (p := ⟨gb1211, 1, none⟩) (Kd.R_far (p := ⟨gb1211, 0, none⟩) (Kd.R_types HO1188.out BK1211.out (by decide)) (fun _ hk => hk.2) (.slice Ao26 t1199.length co26)) (fun _ hk => hk.2) (.int .i64 t1202)) (fun _ hk => hk.2) (.bool t1203)) (fun _ hk => hk.2) (.slice Ao30 t1204.length co30)) (fun _ hk => hk.2) (.slice Ao31 t1207.length co31)) (fun _ h_ => h_.1))))); (case side2 => exact (Kd.R_reads' HO1188.out).2.1); (case side3 => refine (Kd.R_reads' (e := 25) (base := w.heap.size) (ok := fun k_ => (((((((nb k_ (.slice Ao18 t1186.length co18) ∧ nb k_ (.slice Ao22 t1194.length co22)) ∧ nb k_ (.slice Ao12 t1173.length co12)) ∧ nb k_ (.slice Ao14 t1178.length co14)) ∧ nb k_ (.slice Ao15 t1181.length co15)) ∧ nb k_ (.slice Ao26 t1199.length co26)) ∧ nb k_ (.slice Ao30 t1204.length co30)) ∧ nb k_ (.slice Ao31 t1207.length co31))) (n := t1191.length) (c := co21) ?_).2.2; exact (upR' ((Kd.R_mono (Kd.R_far (p := ⟨gb1211, 4, none⟩) (Kd.R_far (p := ⟨gb1211, 3, none⟩) (Kd.R_far (p := ⟨gb1211, 2, none⟩) (Kd.R_far (p := ⟨gb1211, 1, none⟩) (Kd.R_far (p := ⟨gb1211, 0, none⟩) (Kd.R_types HO1193.out BK1211.out (by decide)) (fun _ hk => hk.2) (.slice Ao26 t1199.length co26)) (fun _ hk => hk.2) (.int .i64 t1202)) (fun _ hk => hk.2) (.bool t1203)) (fun _ hk => hk.2) (.slice Ao30 t1204.length co30)) (fun _ hk => hk.2) (.slice Ao31 t1207.length co31)) (fun _ h_ => h_.1))))); (case side4 => exact (Kd.R_reads' HO1193.out).2.1); (case side5 => refine (Kd.R_reads' (e := 25) (base := w.heap.size) (ok := fun k_ => (((((((nb k_ (.slice Ao18 t1186.length co18) ∧ nb k_ (.slice Ao21 t1191.length co21)) ∧ nb k_ (.slice Ao12 t1173.length co12)) ∧ nb k_ (.slice Ao14 t1178.length co14)) ∧ nb k_ (.slice Ao15 t1181.length co15)) ∧ nb k_ (.slice Ao26 t1199.length co26)) ∧ nb k_ (.slice Ao30 t1204.length co30)) ∧ nb k_ (.slice Ao31 t1207.length co31))) (n := t1194.length) (c := co22) ?_).2.2; exact (upR' ((Kd.R_mono (Kd.R_far (p := ⟨gb1211, 4, none⟩) (Kd.R_far (p := ⟨gb1211, 3, none⟩) (Kd.R_far (p := ⟨gb1211, 2, none⟩) (Kd.R_far (p := ⟨gb1211, 1, none⟩) (Kd.R_far (p := ⟨gb1211, 0, none⟩) (Kd.R_types HO1196.out BK1211.out (by decide)) (fun _ hk => hk.2) (.slice Ao26 t1199.length co26)) (fun _ hk => hk.2) (.int .i64 t1202)) (fun _ hk => hk.2) (.bool t1203)) (fun _ hk => hk.2) (.slice Ao30 t1204.length co30)) (fun _ hk => hk.2) (.slice Ao31 t1207.length co31)) (fun _ h_ => h_.1))))); (case side6 => exact (Kd.R_reads' HO1196.out).2.1); (case side7 => refine (Kd.R_reads' (e := 25) (base := w.heap.size) (ok := fun k_ => (((((((nb k_ (.slice Ao30 t1204.length co30) ∧ nb k_ (.slice Ao31 t1207.length co31)) ∧ nb k_ (.slice Ao12 t1173.length co12)) ∧ nb k_ (.slice Ao14 t1178.length co14)) ∧ nb k_ (.slice Ao15 t1181.length co15)) ∧ nb k_ (.slice Ao18 t1186.length co18)) ∧ nb k_ (.slice Ao21 t1191.length co21)) ∧ nb k_ (.slice Ao22 t1194.length co22))) (n := t1199.length) (c := co26) ?_).2.2; exact (upR' ((Kd.R_mono (Kd.R_far (p := ⟨gb1211, 4, none⟩) (Kd.R_far (p := ⟨gb1211, 3, none⟩) (Kd.R_far (p := ⟨gb1211, 2, none⟩) (Kd.R_far (p := ⟨gb1211, 1, none⟩) (Kd.R_far (p := ⟨gb1211, 0, none⟩) (Kd.R_types HO1201.out BK1211.out (by decide)) (fun _ hk => hk.2) (.slice Ao26 t1199.length co26)) (fun _ hk => hk.2) (.int .i64 t1202)) (fun _ hk => hk.2) (.bool t1203)) (fun _ hk => hk.2) (.slice Ao30 t1204.length co30)) (fun _ hk => hk.2) (.slice Ao31 t1207.length co31)) (fun _ h_ => h_.1))))); (case side8 => exact (Kd.R_reads' HO1201.out).2.1); (case side9 => refine (Kd.R_reads' (e := 25) (base := w.heap.size) (ok := fun k_ => (((((((nb k_ (.slice Ao26 t1199.length co26) ∧ nb k_ (.slice Ao31 t1207.length co31)) ∧ nb k_ (.slice Ao12 t1173.length co12)) ∧ nb k_ (.slice Ao14 t1178.length co14)) ∧ nb k_ (.slice Ao15 t1181.length co15)) ∧ nb k_ (.slice Ao18 t1186.length co18)) ∧ nb k_ (.slice Ao21 t1191.length co21)) ∧ nb k_ (.slice Ao22 t1194.length co22))) (n := t1204.length) (c := co30) ?_).2.2; exact (upR' ((Kd.R_mono (Kd.R_far (p := ⟨gb1211, 4, none⟩) (Kd.R_far (p := ⟨gb1211, 3, none⟩) (Kd.R_far (p := ⟨gb1211, 2, none⟩) (Kd.R_far (p := ⟨gb1211, 1, none⟩) (Kd.R_far (p := ⟨gb1211, 0, none⟩) (Kd.R_types HO1206.out BK1211.out (by decide)) (fun _ hk => hk.2) (.slice Ao26 t1199.length co26)) (fun _ hk => hk.2) (.int .i64 t1202)) (fun _ hk => hk.2) (.bool t1203)) (fun _ hk => hk.2) (.slice Ao30 t1204.length co30)) (fun _ hk => hk.2) (.slice Ao31 t1207.length co31)) (fun _ h_ => h_.1))))); (case side10 => exact (Kd.R_reads' HO1206.out).2.1); (case side11 => refine (Kd.R_reads' (e := 25) (base := w.heap.size) (ok := fun k_ => (((((((nb k_ (.slice Ao26 t1199.length co26) ∧ nb k_ (.slice Ao30 t1204.length co30)) ∧ nb k_ (.slice Ao12 t1173.length co12)) ∧ nb k_ (.slice Ao14 t1178.length co14)) ∧ nb k_ (.slice Ao15 t1181.length co15)) ∧ nb k_ (.slice Ao18 t1186.length co18)) ∧ nb k_ (.slice Ao21 t1191.length co21)) ∧ nb k_ (.slice Ao22 t1194.length co22))) (n := t1207.length) (c := co31) ?_).2.2; exact (upR' ((Kd.R_mono (Kd.R_far (p := ⟨gb1211, 4, none⟩) (Kd.R_far (p := ⟨gb1211, 3, none⟩) (Kd.R_far (p := ⟨gb1211, 2, none⟩) (Kd.R_far (p := ⟨gb1211, 1, none⟩) (Kd.R_far (p := ⟨gb1211, 0, none⟩) (Kd.R_types HO1209.out BK1211.out (by decide)) (fun _ hk => hk.2) (.slice Ao26 t1199.length co26)) (fun _ hk => hk.2) (.int .i64 t1202)) (fun _ hk => hk.2) (.bool t1203)) (fun _ hk => hk.2) (.slice Ao30 t1204.length co30)) (fun _ hk => hk.2) (.slice Ao31 t1207.length co31)) (fun _ h_ => h_.1))))); (case side12 => exact (Kd.R_reads' HO1209.out).2.1); rintro e w46 ⟨rfl, hb⟩; have n0_ := Q0_ (Kd.R_below (upR' ((Kd.R_mono (Kd.R_far (p := ⟨gb1211, 4, none⟩) (Kd.R_far (p := ⟨gb1211, 3, none⟩) (Kd.R_far (p := ⟨gb1211, 2, none⟩) (Kd.R_far (p := ⟨gb1211, 1, none⟩) (Kd.R_far (p := ⟨gb1211, 0, none⟩) (Kd.R_types HO1175.out BK1211.out (by decide)) (fun _ hk => hk.2) (.slice Ao26 t1199.length co26)) (fun _ hk => hk.2) (.int .i64 t1202)) (fun _ hk => hk.2) (.bool t1203)) (fun _ hk => hk.2) (.slice Ao30 t1204.length co30)) (fun _ hk => hk.2) (.slice Ao31 t1207.length co31)) (fun _ h_ => h_.1)))) hb); have n1_ := Q0_ (Kd.R_below (upR' ((Kd.R_mono (Kd.R_far (p := ⟨gb1211, 4, none⟩) (Kd.R_far (p := ⟨gb1211, 3, none⟩) (Kd.R_far (p := ⟨gb1211, 2, none⟩) (Kd.R_far (p := ⟨gb1211, 1, none⟩) (Kd.R_far (p := ⟨gb1211, 0, none⟩) (Kd.R_types HO1180.out BK1211.out (by decide)) (fun _ hk => hk.2) (.slice Ao26 t1199.length co26)) (fun _ hk => hk.2) (.int .i64 t1202)) (fun _ hk => hk.2) (.bool t1203)) (fun _ hk => hk.2) (.slice Ao30 t1204.length co30)) (fun _ hk => hk.2) (.slice Ao31 t1207.length co31)) (fun _ h_ => h_.1)))) hb); have n2_ := Q0_ (Kd.R_below (upR' ((Kd.R_mono (Kd.R_far (p := ⟨gb1211, 4, none⟩) (Kd.R_far (p := ⟨gb1211, 3, none⟩) (Kd.R_far (p := ⟨gb1211, 2, none⟩) (Kd.R_far (p := ⟨gb1211, 1, none⟩) (Kd.R_far (p := ⟨gb1211, 0, none⟩) (Kd.R_types HO1183.out BK1211.out (by decide)) (fun _ hk => hk.2) (.slice Ao26 t1199.length co26)) (fun _ hk => hk.2) (.int .i64 t1202)) (fun _ hk => hk.2) (.bool t1203)) (fun _ hk => hk.2) (.slice Ao30 t1204.length co30)) (fun _ hk => hk.2) (.slice Ao31 t1207.length co31)) (fun _ h_ => h_.1)))) hb); have n3_ := Q0_ (Kd.R_below (upR' ((Kd.R_mono (Kd.R_far (p := ⟨gb1211, 4, none⟩) (Kd.R_far (p := ⟨gb1211, 3, none⟩) (Kd.R_far (p := ⟨gb1211, 2, none⟩) (Kd.R_far (p := ⟨gb1211, 1, none⟩) (Kd.R_far (p := ⟨gb1211, 0, none⟩) (Kd.R_types HO1188.out BK1211.out (by decide)) (fun _ hk => hk.2) (.slice Ao26 t1199.length co26)) (fun _ hk => hk.2) (.int .i64 t1202)) (fun _ hk => hk.2) (.bool t1203)) (fun _ hk => hk.2) (.slice Ao30 t1204.length co30)) (fun _ hk => hk.2) (.slice Ao31 t1207.length co31)) (fun _ h_ => h_.1)))) hb); have n4_ := Q0_ (Kd.R_below (upR' ((Kd.R_mono (Kd.R_far (p := ⟨gb1211, 4, none⟩) (Kd.R_far (p := ⟨gb1211, 3, none⟩) (Kd.R_far (p := ⟨gb1211, 2, none⟩) (Kd.R_far (p := ⟨gb1211, 1, none⟩) (Kd.R_far (p := ⟨gb1211, 0, none⟩) (Kd.R_types HO1193.out BK1211.out (by decide)) (fun _ hk => hk.2) (.slice Ao26 t1199.length co26)) (fun _ hk => hk.2) (.int .i64 t1202)) (fun _ hk => hk.2) (.bool t1203)) (fun _ hk => hk.2) (.slice Ao30 t1204.length co30)) (fun _ hk => hk.2) (.slice Ao31 t1207.length co31)) (fun _ h_ => h_.1)))) hb); have n5_ := Q0_ (Kd.R_below (upR' ((Kd.R_mono (Kd.R_far (p := ⟨gb1211, 4, none⟩) (Kd.R_far (p := ⟨gb1211, 3, none⟩) (Kd.R_far (p := ⟨gb1211, 2, none⟩) (Kd.R_far (p := ⟨gb1211, 1, none⟩) (Kd.R_far (p := ⟨gb1211, 0, none⟩) (Kd.R_types HO1196.out BK1211.out (by decide)) (fun _ hk => hk.2) (.slice Ao26 t1199.length co26)) (fun _ hk => hk.2) (.int .i64 t1202)) (fun _ hk => hk.2) (.bool t1203)) (fun _ hk => hk.2) (.slice Ao30 t1204.length co30)) (fun _ hk => hk.2) (.slice Ao31 t1207.length co31)) (fun _ h_ => h_.1)))) hb); have n6_ := Q0_ (Kd.R_below (upR' ((Kd.R_mono (Kd.R_far (p := ⟨gb1211, 4, none⟩) (Kd.R_far (p := ⟨gb1211, 3, none⟩) (Kd.R_far (p := ⟨gb1211, 2, none⟩) (Kd.R_far (p := ⟨gb1211, 1, none⟩) (Kd.R_far (p := ⟨gb1211, 0, none⟩) (Kd.R_types HO1201.out BK1211.out (by decide)) (fun _ hk => hk.2) (.slice Ao26 t1199.length co26)) (fun _ hk => hk.2) (.int .i64 t1202)) (fun _ hk => hk.2) (.bool t1203)) (fun _ hk => hk.2) (.slice Ao30 t1204.length co30)) (fun _ hk => hk.2) (.slice Ao31 t1207.length co31)) (fun _ h_ => h_.1)))) hb); have n7_ := Q0_ (Kd.R_below (upR' ((Kd.R_mono (Kd.R_far (p := ⟨gb1211, 4, none⟩) (Kd.R_far (p := ⟨gb1211, 3, none⟩) (Kd.R_far (p := ⟨gb1211, 2, none⟩) (Kd.R_far (p := ⟨gb1211, 1, none⟩) (Kd.R_far (p := ⟨gb1211, 0, none⟩) (Kd.R_types HO1206.out BK1211.out (by decide)) (fun _ hk => hk.2) (.slice Ao26 t1199.length co26)) (fun _ hk => hk.2) (.int .i64 t1202)) (fun _ hk => hk.2) (.bool t1203)) (fun _ hk => hk.2) (.slice Ao30 t1204.length co30)) (fun _ hk => hk.2) (.slice Ao31 t1207.length co31)) (fun _ h_ => h_.1)))) hb); have n8_ := Q0_ (Kd.R_below (upR' ((Kd.R_mono (Kd.R_far (p := ⟨gb1211, 4, none⟩) (Kd.R_far (p := ⟨gb1211, 3, none⟩) (Kd.R_far (p := ⟨gb1211, 2, none⟩) (Kd.R_far (p := ⟨gb1211, 1, none⟩) (Kd.R_far (p := ⟨gb1211, 0, none⟩) (Kd.R_types HO1209.out BK1211.out (by decide)) (fun _ hk => hk.2) (.slice Ao26 t1199.length co26)) (fun _ hk => hk.2) (.int .i64 t1202)) (fun _ hk => hk.2) (.bool t1203)) (fun _ hk => hk.2) (.slice Ao30 t1204.length co30)) (fun _ hk => hk.2) (.slice Ao31 t1207.length co31)) (fun _ h_ => h_.1)))) hb); have n9_ := Q0_ (blk_below (g := gb1185) (o := .cells #[.slice Ao12 t1173.length co12, .int .i64 t1176, .bool t1177, .slice Ao14 t1178.length co14, .slice Ao15 t1181.length co15] 27 (0, 0)) (by (repeat refine blk_q ?_); refine blk_far ?_ NB1185_1211.out _; (repeat refine blk_q ?_); refine blk_far ?_ NB1185_1211.out _; (repeat refine blk_q ?_); refine blk_far ?_ NB1185_1211.out _; (repeat refine blk_q ?_); refine blk_far ?_ NB1185_1211.out _; (repeat refine blk_q ?_); refine blk_far ?_ NB1185_1211.out _; (repeat refine blk_q ?_); exact BK1185.out) hb); have n10_ := Q0_ (blk_below (g := gb1198) (o := .cells #[.slice Ao18 t1186.length co18, .int .i64 t1189, .bool t1190, .slice Ao21 t1191.length co21, .slice Ao22 t1194.length co22] 27 (0, 0)) (by (repeat refine blk_q ?_); refine blk_far ?_ NB1198_1211.out _; (repeat refine blk_q ?_); refine blk_far ?_ NB1198_1211.out _; (repeat refine blk_q ?_); refine blk_far ?_ NB1198_1211.out _; (repeat refine blk_q ?_); refine blk_far ?_ NB1198_1211.out _; (repeat refine blk_q ?_); refine blk_far ?_ NB1198_1211.out _; (repeat refine blk_q ?_); exact BK1198.out) hb); have n11_ := Q0_ (blk_below (g := gb1211) (o := .cells #[.slice Ao26 t1199.length co26, .int .i64 t1202, .bool t1203, .slice Ao30 t1204.length co30, .slice Ao31 t1207.length co31] 27 (0, 0)) (by (repeat refine blk_q ?_); refine blk_put (cs := #[.slice Ao26 t1199.length co26, .int .i64 t1202, .bool t1203, .slice Ao30 t1204.length co30, .slice none 0 0]) ?_ 4 _ rfl; (repeat refine blk_q ?_); refine blk_put (cs := #[.slice Ao26 t1199.length co26, .int .i64 t1202, .bool t1203, .slice none 0 0, .slice none 0 0]) ?_ 3 _ rfl; (repeat refine blk_q ?_); refine blk_put (cs := #[.slice Ao26 t1199.length co26, .int .i64 t1202, .bool false, .slice none 0 0, .slice none 0 0]) ?_ 2 _ rfl; (repeat refine blk_q ?_); refine blk_put (cs := #[.slice Ao26 t1199.length co26, .int .i64 0, .bool false, .slice none 0 0, .slice none 0 0]) ?_ 1 _ rfl; (repeat refine blk_q ?_); refine blk_put (cs := #[.slice none 0 0, .int .i64 0, .bool false, .slice none 0 0, .slice none 0 0]) ?_ 0 _ rfl; (repeat refine blk_q ?_); exact BK1211.out) hb); have n12_ := Q0_ (below_step upH hb); clear HO1175 HO1180 HO1183 HO1188 HO1193 HO1196 HO1201 HO1206 HO1209 BK1185 BK1198 BK1211 HB; revert n0_ n1_ n2_ n3_ n4_ n5_ n6_ n7_ n8_ n9_ n10_ n11_ n12_; intro HO1175 HO1180 HO1183 HO1188 HO1193 HO1196 HO1201 HO1206 HO1209 BK1185 BK1198 BK1211 HB; (try clear hb); (try clear hb2); (try clear hk); (try clear hi)))
    go_meet
    case rel => exact ⟨_, (true), eX, H', ⟨by have := HJ2.out; first | omega | exact Nat.le_refl _⟩, ⟨by (repeat refine R_q ?_); exact Kd.R_mono HO1175.out (fun _ hk => ⟨hk.1.1.1.1.1.1.1, ⟨hk.1.1.1.1.1.1.2, ⟨hk.1.1.1.1.1.2, ⟨hk.1.1.1.1.2, ⟨hk.1.1.1.2, ⟨hk.1.1.2, ⟨hk.1.2, hk.2⟩⟩⟩⟩⟩⟩⟩)⟩, ⟨by (repeat refine R_q ?_); exact Kd.R_mono HO1180.out (fun _ hk => ⟨hk.1.1.1.1.1.1.1, ⟨hk.1.1.1.1.1.1.2, ⟨hk.1.1.1.1.1.2, ⟨hk.1.1.1.1.2, ⟨hk.1.1.1.2, ⟨hk.1.1.2, ⟨hk.1.2, hk.2⟩⟩⟩⟩⟩⟩⟩)⟩, ⟨by (repeat refine R_q ?_); exact Kd.R_mono HO1183.out (fun _ hk => ⟨hk.1.1.1.1.1.1.1, ⟨hk.1.1.1.1.1.1.2, ⟨hk.1.1.1.1.1.2, ⟨hk.1.1.1.1.2, ⟨hk.1.1.1.2, ⟨hk.1.1.2, ⟨hk.1.2, hk.2⟩⟩⟩⟩⟩⟩⟩)⟩, ⟨by (repeat refine R_q ?_); exact Kd.R_mono HO1188.out (fun _ hk => ⟨hk.1.1.1.1.1.2, ⟨hk.1.1.1.1.2, ⟨hk.1.1.1.2, ⟨hk.1.1.1.1.1.1.1, ⟨hk.1.1.1.1.1.1.2, ⟨hk.1.1.2, ⟨hk.1.2, hk.2⟩⟩⟩⟩⟩⟩⟩)⟩, ⟨by (repeat refine R_q ?_); exact Kd.R_mono HO1193.out (fun _ hk => ⟨hk.1.1.1.1.1.2, ⟨hk.1.1.1.1.2, ⟨hk.1.1.1.2, ⟨hk.1.1.1.1.1.1.1, ⟨hk.1.1.1.1.1.1.2, ⟨hk.1.1.2, ⟨hk.1.2, hk.2⟩⟩⟩⟩⟩⟩⟩)⟩, ⟨by (repeat refine R_q ?_); exact Kd.R_mono HO1196.out (fun _ hk => ⟨hk.1.1.1.1.1.2, ⟨hk.1.1.1.1.2, ⟨hk.1.1.1.2, ⟨hk.1.1.1.1.1.1.1, ⟨hk.1.1.1.1.1.1.2, ⟨hk.1.1.2, ⟨hk.1.2, hk.2⟩⟩⟩⟩⟩⟩⟩)⟩, ⟨by (repeat refine R_q ?_); exact Kd.R_mono HO1201.out (fun _ hk => ⟨hk.1.1.1.1.1.2, ⟨hk.1.1.1.1.2, ⟨hk.1.1.1.2, ⟨hk.1.1.2, ⟨hk.1.2, ⟨hk.2, ⟨hk.1.1.1.1.1.1.1, hk.1.1.1.1.1.1.2⟩⟩⟩⟩⟩⟩⟩)⟩, ⟨by (repeat refine R_q ?_); exact Kd.R_mono HO1206.out (fun _ hk => ⟨hk.1.1.1.1.1.2, ⟨hk.1.1.1.1.2, ⟨hk.1.1.1.2, ⟨hk.1.1.2, ⟨hk.1.2, ⟨hk.2, ⟨hk.1.1.1.1.1.1.1, hk.1.1.1.1.1.1.2⟩⟩⟩⟩⟩⟩⟩)⟩, ⟨by (repeat refine R_q ?_); exact Kd.R_mono HO1209.out (fun _ hk => ⟨hk.1.1.1.1.1.2, ⟨hk.1.1.1.1.2, ⟨hk.1.1.1.2, ⟨hk.1.1.2, ⟨hk.1.2, ⟨hk.2, ⟨hk.1.1.1.1.1.1.1, hk.1.1.1.1.1.1.2⟩⟩⟩⟩⟩⟩⟩)⟩, ⟨by (repeat refine blk_q ?_); exact BK1185.out⟩, ⟨by (repeat refine blk_q ?_); exact BK1198.out⟩, ⟨by (repeat refine blk_q ?_); exact BK1211.out⟩, ⟨by repeat (first | (with_reducible first | exact HB.out | apply below_alloc | apply pw_below_drewN | apply below_drew1 | refine below_set ?_ GE1185.out | refine below_set ?_ GE1198.out | refine below_set ?_ GE1211.out) | exact HB.out)⟩⟩
   case rest =>
    clear HC9
    try clear c1
    try clear c2
    try clear p2
    try clear c3
    try clear c4
    try clear c4b0
    try clear c4b1
    try clear c5
    try clear c14
    try clear c19
    try clear c27
    try clear c28
    try clear c32
    try clear c32b0
    try clear c32b1
    try clear c32b2
    try clear c34
    try clear c35
    try clear c36
    try clear c38
    try clear c41
    try clear c42
    try clear c44
    try clear hcz13_0
    try clear hcz13_1
    try clear hcz13_2
    try clear hcz13_3
    try clear hcz13_4
    try clear hcz20_0
    try clear hcz20_1
    try clear hcz20_2
    try clear hcz20_3
    try clear hcz20_4
    try clear hcz23_0
    try clear hcz23_1
    try clear hcz23_2
    try clear hcz23_3
    try clear hcz23_4
    try clear hcz29_0
    try clear hcz29_1
    try clear hcz29_2
    try clear hcz29_3
    try clear hcz29_4
    try clear hcz37_0
    try clear hcz37_1
    try clear hcz37_2
    try clear hcz37_3
    try clear hcz37_4
    try clear hcz39_0
    try clear hcz39_1
    try clear hcz39_2
    try clear hcz39_3
    try clear hcz39_4
    try clear hcz43_0
    try clear hcz43_1
    try clear hcz43_2
    try clear hcz43_3
    try clear hcz43_4
    try clear hcz45_0
    try clear hcz45_1
    try clear hcz45_2
    try clear hcz45_3
    try clear hcz45_4
    try clear hfz13_0
    try clear hfz13_1
    try clear hfz13_2
    try clear hfz13_3
    try clear hfz13_4
    try clear hfz20_0
    try clear hfz20_1
    try clear hfz20_2
    try clear hfz20_3
    try clear hfz20_4
    try clear hfz23_0
    try clear hfz23_1
    try clear hfz23_2
    try clear hfz23_3
    try clear hfz23_4
    try clear hfz29_0
    try clear hfz29_1
    try clear hfz29_2
    try clear hfz29_3
    try clear hfz29_4
    try clear hfz37_0
    try clear hfz37_1
    try clear hfz37_2
    try clear hfz37_3
    try clear hfz37_4
    try clear hfz39_0
    try clear hfz39_1
    try clear hfz39_2
    try clear hfz39_3
    try clear hfz39_4
    try clear hfz43_0
    try clear hfz43_1
    try clear hfz43_2
    try clear hfz43_3
    try clear hfz43_4
    try clear hfz45_0
    try clear hfz45_1
    try clear hfz45_2
    try clear hfz45_3
    try clear hfz45_4
    try clear p2
    obtain ⟨kq, x53_8, rfl, HA, HJ8, HO_1186000, HO_1186003, HO_1186004, HO_1199000, HO_1199003, HO_1199004, HO_1212000, HO_1212003, HO_1212004, BK1185, BK1198, BK1211, HB⟩ := hcut
    cases kq with
    | zero => exact absurd HA.out (by simp [laws_FnPsalmMove.j1])
    | succ kj8 =>
     have H := HA.out
     clear HA
     simp only [laws_FnPsalmMove.j1] at H
     by_cases c47 : x53_8 = true
     ·subst c47
      replace H := ifP (rfl) H
      by_cases c48 : (t1197 == t1210) = true
      rotate_left
      ·rw [if_neg c48] at H
       exact absurd H (by simp)
      rw [if_pos c48] at H
      have c48b0 : (t1197 == t1210) = true := c48
      (try (have c48b1 : decide (t1197 = t1210) = true := by simpa using c48))
      (try (have c48b2 : (t1197 == t1210) = true := by simpa using c48))
      clear c48
      obtain ⟨t1213, A490, H⟩ := Option.bind_eq_some_iff.mp H
      try dsimp only at H
      have A49 := Aside0.mk A490
      clear A490
      obtain rfl := Option.some.inj H
      have hnb50 := NB1198_1185.out
      have hnc50 := NB1185_1198.out
      have hnb51 := NB1198_1211.out
      have hnc51 := NB1211_1198.out
      have hcz52_0 : wc.cell? ⟨gb1198, 0, none⟩ = some (.slice Ao18 t1186.length co18) := (blk_cell BK1198.out 0).trans rfl
      have hcz52_1 : wc.cell? ⟨gb1198, 1, none⟩ = some (.int .i64 t1189) := (blk_cell BK1198.out 1).trans rfl
      have hcz52_2 : wc.cell? ⟨gb1198, 2, none⟩ = some (.bool t1190) := (blk_cell BK1198.out 2).trans rfl
      have hcz52_3 : wc.cell? ⟨gb1198, 3, none⟩ = some (.slice Ao21 t1191.length co21) := (blk_cell BK1198.out 3).trans rfl
      have hcz52_4 : wc.cell? ⟨gb1198, 4, none⟩ = some (.slice Ao22 t1194.length co22) := (blk_cell BK1198.out 4).trans rfl
      have hfz52_0 := blk_frozen BK1198.out 0
      have hfz52_1 := blk_frozen BK1198.out 1
      have hfz52_2 := blk_frozen BK1198.out 2
      have hfz52_3 := blk_frozen BK1198.out 3
      have hfz52_4 := blk_frozen BK1198.out 4
      have hnb53 := NB1211_1185.out
      have hnc53 := NB1185_1211.out
      have hcz54_0 : wc.cell? ⟨gb1211, 0, none⟩ = some (.slice Ao26 t1199.length co26) := (blk_cell BK1211.out 0).trans rfl
      have hcz54_1 : wc.cell? ⟨gb1211, 1, none⟩ = some (.int .i64 t1202) := (blk_cell BK1211.out 1).trans rfl
      have hcz54_2 : wc.cell? ⟨gb1211, 2, none⟩ = some (.bool t1203) := (blk_cell BK1211.out 2).trans rfl
      have hcz54_3 : wc.cell? ⟨gb1211, 3, none⟩ = some (.slice Ao30 t1204.length co30) := (blk_cell BK1211.out 3).trans rfl
      have hcz54_4 : wc.cell? ⟨gb1211, 4, none⟩ = some (.slice Ao31 t1207.length co31) := (blk_cell BK1211.out 4).trans rfl
      have hfz54_0 := blk_frozen BK1211.out 0
      have hfz54_1 := blk_frozen BK1211.out 1
      have hfz54_2 := blk_frozen BK1211.out 2
      have hfz54_3 := blk_frozen BK1211.out 3
      have hfz54_4 := blk_frozen BK1211.out 4
      go_wp2_with (first | (go_at_call 54; (with_reducible refine (laws_samePsalm.calls kj8 _ _ t1186 t1189 t1190 _ _ t1191 _ _ t1194 _ _ t1199 t1202 t1203 _ _ t1204 _ _ t1207 t1213 _ ?side1 ?side2 ?side3 ?side4 ?side5 ?side6 ?side7 ?side8 ?side9 ?side10 ?side11 ?side12 A49.out).mono ?_); (case side1 => repeat (first | exact (Kd.R_reads' HO_1199000.out).2.2 | refine C_q ?_)); (case side2 => exact (Kd.R_reads' HO_1199000.out).2.1); (case side3 => repeat (first | exact (Kd.R_reads' HO_1199003.out).2.2 | refine C_q ?_)); (case side4 => exact (Kd.R_reads' HO_1199003.out).2.1); (case side5 => repeat (first | exact (Kd.R_reads' HO_1199004.out).2.2 | refine C_q ?_)); (case side6 => exact (Kd.R_reads' HO_1199004.out).2.1); (case side7 => repeat (first | exact (Kd.R_reads' HO_1212000.out).2.2 | refine C_q ?_)); (case side8 => exact (Kd.R_reads' HO_1212000.out).2.1); (case side9 => repeat (first | exact (Kd.R_reads' HO_1212003.out).2.2 | refine C_q ?_)); (case side10 => exact (Kd.R_reads' HO_1212003.out).2.1); (case side11 => repeat (first | exact (Kd.R_reads' HO_1212004.out).2.2 | refine C_q ?_)); (case side12 => exact (Kd.R_reads' HO_1212004.out).2.1); rintro e w55 ⟨rfl, hb⟩; have n0_ := Q0_ (Kd.R_below (upR HO_1186000) hb); have n1_ := Q0_ (Kd.R_below (upR HO_1186003) hb); have n2_ := Q0_ (Kd.R_below (upR HO_1186004) hb); have n3_ := Q0_ (Kd.R_below (upR HO_1199000) hb); have n4_ := Q0_ (Kd.R_below (upR HO_1199003) hb); have n5_ := Q0_ (Kd.R_below (upR HO_1199004) hb); have n6_ := Q0_ (Kd.R_below (upR HO_1212000) hb); have n7_ := Q0_ (Kd.R_below (upR HO_1212003) hb); have n8_ := Q0_ (Kd.R_below (upR HO_1212004) hb); have n9_ := Q0_ (blk_below (upK BK1185) hb); have n10_ := Q0_ (blk_below (upK BK1198) hb); have n11_ := Q0_ (blk_below (upK BK1211) hb); have n12_ := Q0_ (below_step upH hb); clear HO_1186000 HO_1186003 HO_1186004 HO_1199000 HO_1199003 HO_1199004 HO_1212000 HO_1212003 HO_1212004 BK1185 BK1198 BK1211 HB; revert n0_ n1_ n2_ n3_ n4_ n5_ n6_ n7_ n8_ n9_ n10_ n11_ n12_; intro HO_1186000 HO_1186003 HO_1186004 HO_1199000 HO_1199003 HO_1199004 HO_1212000 HO_1212003 HO_1212004 BK1185 BK1198 BK1211 HB; (try clear hb); (try clear hb2); (try clear hk); (try clear hi)))
      go_ret
      exact ⟨by first | rfl | (simp [errW_none, errW_some] <;> rfl) | (simp [*, errW_none, errW_some] <;> rfl), by repeat (first | (with_reducible first | exact HB.out | apply below_alloc | apply pw_below_drewN | apply below_drew1 | refine below_set ?_ GE1185.out | refine below_set ?_ GE1198.out | refine below_set ?_ GE1211.out) | exact HB.out)⟩
     replace c47 := Bool.eq_false_iff.mpr c47
     subst c47
     replace H := ifN ((show ¬ (false = true) by decide)) H
     obtain ⟨y1214, hy1214⟩ : ∃ y_ : List ByteArray, y_ = (([(⟨#[120, 120, 47, 120, 124, 120, 47, 120]⟩ : ByteArray), (⟨#[120, 47, 120, 120, 47, 120, 120, 124, 120, 120, 47, 120, 47, 120, 120]⟩ : ByteArray), (⟨#[120, 124, 120]⟩ : ByteArray), (⟨#[47, 47, 47, 47, 47, 47, 124, 47, 47, 47, 47]⟩ : ByteArray)] : List ByteArray)) := ⟨_, rfl⟩
     replace H : (if 0 ≤ ((l1.length : Int) % 4) then (if ((l1.length : Int) % 4) < (y1214.length : Int) then ((impl_PsalmSing.f kj8 t1173 t1176 t1177 t1178 t1181 (rdOf ByteArray.empty y1214 ((l1.length : Int) % 4))).bind fun bt1218 => ((impl_PsalmSing.f kj8 t1186 t1189 t1190 t1191 t1194 (rdOf ByteArray.empty y1214 ((l1.length : Int) % 4))).bind fun bt1222 => ((impl_PsalmFits.f kj8 t1186 t1189 t1190 t1191 t1194 (rdOf ByteArray.empty y1214 ((l1.length : Int) % 4))).bind fun t1226 => ((impl_PsalmFits.f kj8 t1173 t1176 t1177 t1178 t1181 (rdOf ByteArray.empty y1214 ((l1.length : Int) % 4))).bind fun t1227 => (if (t1226 == t1227) = true then (if (bt1218.2 == bt1222.2) = true then (if bt1218.2 = true then ((impl_MelodySame.f kj8 bt1218.1 bt1222.1).bind fun t1228 => (if t1228 = true then ((impl_PsalmValid.f kj8 t1186 t1189 t1190 t1191 t1194).bind fun t1229 => (some t1229)) else (none))) else ((impl_PsalmValid.f kj8 t1186 t1189 t1190 t1191 t1194).bind fun t1230 => (some t1230))) else (none)) else (none)))))) else (none)) else (none)) = some r := by first | (rw [hy1214]; with_reducible exact H) | (have H2_ := (Option.bind_some _ _).symm.trans H; rw [hy1214]; with_reducible exact H2_) | (have H2_ := (Option.bind_some _ _).symm.trans H; with_reducible exact H2_) | with_reducible exact H | (rw [hy1214]; exact H) | exact H
     have Ny1214 := Aside0.mk hy1214
     clear hy1214
     obtain ⟨ji56, hji56⟩ : ∃ j_ : Int, ((l1.length : Int) % 4) = j_ := ⟨_, rfl⟩
     replace H : (if 0 ≤ (ji56) then (if (ji56) < (y1214.length : Int) then ((impl_PsalmSing.f kj8 t1173 t1176 t1177 t1178 t1181 (rdOf ByteArray.empty y1214 (ji56))).bind fun bt1218 => ((impl_PsalmSing.f kj8 t1186 t1189 t1190 t1191 t1194 (rdOf ByteArray.empty y1214 (ji56))).bind fun bt1222 => ((impl_PsalmFits.f kj8 t1186 t1189 t1190 t1191 t1194 (rdOf ByteArray.empty y1214 (ji56))).bind fun t1226 => ((impl_PsalmFits.f kj8 t1173 t1176 t1177 t1178 t1181 (rdOf ByteArray.empty y1214 (ji56))).bind fun t1227 => (if (t1226 == t1227) = true then (if (bt1218.2 == bt1222.2) = true then (if bt1218.2 = true then ((impl_MelodySame.f kj8 bt1218.1 bt1222.1).bind fun t1228 => (if t1228 = true then ((impl_PsalmValid.f kj8 t1186 t1189 t1190 t1191 t1194).bind fun t1229 => (some t1229)) else (none))) else ((impl_PsalmValid.f kj8 t1186 t1189 t1190 t1191 t1194).bind fun t1230 => (some t1230))) else (none)) else (none)))))) else (none)) else (none)) = some r := by first | (rw [hji56] at H; exact H) | (simp only [hji56] at H ⊢; exact H)
     by_cases c57 : 0 ≤ (ji56)
     rotate_left
     ·rw [if_neg c57] at H
      exact absurd H (by simp)
     rw [if_pos c57] at H
     have c57b0 : decide (0 ≤ (ji56)) = true := decide_eq_true c57
     clear c57
     by_cases c58 : (ji56) < (y1214.length : Int)
     rotate_left
     ·rw [if_neg c58] at H
      exact absurd H (by simp)
     rw [if_pos c58] at H
     have c58b0 : decide ((ji56) < (y1214.length : Int)) = true := decide_eq_true c58
     clear c58
     obtain ⟨⟨t1218, t1221⟩, A590, H⟩ := Option.bind_eq_some_iff.mp H
     try dsimp only at H
     have A59 := Aside0.mk A590
     clear A590
     obtain ⟨⟨t1222, t1225⟩, A600, H⟩ := Option.bind_eq_some_iff.mp H
     try dsimp only at H
     have A60 := Aside0.mk A600
     clear A600
     obtain ⟨t1226, A610, H⟩ := Option.bind_eq_some_iff.mp H
     try dsimp only at H
     have A61 := Aside0.mk A610
     clear A610
     obtain ⟨t1227, A620, H⟩ := Option.bind_eq_some_iff.mp H
     try dsimp only at H
     have A62 := Aside0.mk A620
     clear A620
     by_cases c63 : (t1226 == t1227) = true
     rotate_left
     ·rw [if_neg c63] at H
      have c63b0 : (t1226 == t1227) = false := by simpa using c63
      (try (have c63b1 : decide (t1226 = t1227) = false := by simpa using c63))
      (try (have c63b2 : (t1226 == t1227) = false := by simpa using c63))
      (try (have c63b3 : ¬ (t1226 = t1227) := by simpa using c63))
      clear c63
      exact absurd H (by simp)
     rw [if_pos c63] at H
     have c63b0 : (t1226 == t1227) = true := c63
     (try (have c63b1 : decide (t1226 = t1227) = true := by simpa using c63))
     (try (have c63b2 : (t1226 == t1227) = true := by simpa using c63))
     clear c63
     by_cases c64 : (t1221 == t1225) = true
     rotate_left
     ·rw [if_neg c64] at H
      have c64b0 : (t1221 == t1225) = false := by simpa using c64
      (try (have c64b1 : decide (t1221 = t1225) = false := by simpa using c64))
      (try (have c64b2 : (t1221 == t1225) = false := by simpa using c64))
      (try (have c64b3 : ¬ (t1221 = t1225) := by simpa using c64))
      clear c64
      exact absurd H (by simp)
     rw [if_pos c64] at H
     have c64b0 : (t1221 == t1225) = true := c64
     (try (have c64b1 : decide (t1221 = t1225) = true := by simpa using c64))
     (try (have c64b2 : (t1221 == t1225) = true := by simpa using c64))
     clear c64
     by_cases c65 : t1221 = true
     rotate_left
     ·replace c65 := Bool.eq_false_iff.mpr c65
      subst c65
      replace H := ifN ((show ¬ (false = true) by decide)) H
      obtain ⟨t1230, A860, H⟩ := Option.bind_eq_some_iff.mp H
      try dsimp only at H
      have A86 := Aside0.mk A860
      clear A860
      obtain rfl := Option.some.inj H
      try go_wp2_with (first | ((with_reducible refine gate_dst (N := 62) rfl ?_); (try (refine gate_guard (by rfl) ?_; dsimp only)); refine Kd.R_lit Kd.string _ 9 ?hg (N := 62) ?hd (xs := ([(⟨#[120, 120, 47, 120, 124, 120, 47, 120]⟩ : ByteArray), (⟨#[120, 47, 120, 120, 47, 120, 120, 124, 120, 120, 47, 120, 47, 120, 120]⟩ : ByteArray), (⟨#[120, 124, 120]⟩ : ByteArray), (⟨#[47, 47, 47, 47, 47, 47, 124, 47, 47, 47, 47]⟩ : ByteArray)] : List ByteArray)) (inner := [.string (⟨#[120, 120, 47, 120, 124, 120, 47, 120]⟩ : ByteArray), .string (⟨#[120, 47, 120, 120, 47, 120, 120, 124, 120, 120, 47, 120, 47, 120, 120]⟩ : ByteArray), .string (⟨#[120, 124, 120]⟩ : ByteArray), .string (⟨#[47, 47, 47, 47, 47, 47, 124, 47, 47, 47, 47]⟩ : ByteArray)]) (ok := fun _ => True) (okp := fun _ => True) ?hr ?hp (fun _ hk => hk) trivial (Below.refl _ _) (Nat.le_refl _) (by simp) ?_; (case hd => rfl); (case hg => rfl); (case hr => first | (go_simp; done) | (go_simp; rfl)); (case hp => exact (Reps.one (show Kd.M Kd.string _ _ _ (⟨#[120, 120, 47, 120, 124, 120, 47, 120]⟩ : ByteArray) [.string (⟨#[120, 120, 47, 120, 124, 120, 47, 120]⟩ : ByteArray)] from rfl) (Reps.one (show Kd.M Kd.string _ _ _ (⟨#[120, 47, 120, 120, 47, 120, 120, 124, 120, 120, 47, 120, 47, 120, 120]⟩ : ByteArray) [.string (⟨#[120, 47, 120, 120, 47, 120, 120, 124, 120, 120, 47, 120, 47, 120, 120]⟩ : ByteArray)] from rfl) (Reps.one (show Kd.M Kd.string _ _ _ (⟨#[120, 124, 120]⟩ : ByteArray) [.string (⟨#[120, 124, 120]⟩ : ByteArray)] from rfl) (Reps.one (show Kd.M Kd.string _ _ _ (⟨#[47, 47, 47, 47, 47, 47, 124, 47, 47, 47, 47]⟩ : ByteArray) [.string (⟨#[47, 47, 47, 47, 47, 47, 124, 47, 47, 47, 47]⟩ : ByteArray)] from rfl) (Reps.none _ _)))))); intro v1215 w87 ho88 hb hg_ hnew_; clear hg_ hnew_; (first | rw [← Ny1214.out] at ho88 | (simp only [Int.reduceToNat] at ho88; rw [← Ny1214.out] at ho88)); have n0_ := Q0_ (Kd.R_below (upR HO_1186000) hb); have n1_ := Q0_ (Kd.R_below (upR HO_1186003) hb); have n2_ := Q0_ (Kd.R_below (upR HO_1186004) hb); have n3_ := Q0_ (Kd.R_below (upR HO_1199000) hb); have n4_ := Q0_ (Kd.R_below (upR HO_1199003) hb); have n5_ := Q0_ (Kd.R_below (upR HO_1199004) hb); have n6_ := Q0_ (Kd.R_below (upR HO_1212000) hb); have n7_ := Q0_ (Kd.R_below (upR HO_1212003) hb); have n8_ := Q0_ (Kd.R_below (upR HO_1212004) hb); have n9_ := Q0_ (Kd.R_lower ho88 (below_size upH)); have n10_ := Q0_ (blk_below (upK BK1185) hb); have n11_ := Q0_ (blk_below (upK BK1198) hb); have n12_ := Q0_ (blk_below (upK BK1211) hb); have n13_ := Q0_ (below_step upH hb); clear HO_1186000 HO_1186003 HO_1186004 HO_1199000 HO_1199003 HO_1199004 HO_1212000 HO_1212003 HO_1212004 BK1185 BK1198 BK1211 HB; revert n0_ n1_ n2_ n3_ n4_ n5_ n6_ n7_ n8_ n9_ n10_ n11_ n12_ n13_; intro HO_1186000 HO_1186003 HO_1186004 HO_1199000 HO_1199003 HO_1199004 HO_1212000 HO_1212003 HO_1212004 HO1216 BK1185 BK1198 BK1211 HB; clear hb ho88; obtain ⟨Ao89, co89, eo89⟩ := Kd.R_slice HO1216.out; subst eo89; have p1217 : 0 ≤ ((ji56) : Int) := of_decide_eq_true aS; have q1217 : (ji56) < (y1214.length : Int) := of_decide_eq_true aS; obtain ⟨ad1217, e1217, hx1217_0⟩ := Kd.at_string (Kd.R_reads' HO1216.out).2.2 (ji56) p1217 q1217; cases e1217; replace p1217 := eq_true p1217; replace q1217 := eq_true q1217; have hnb90 := NB1185_1198.out; have hnc90 := NB1198_1185.out; have hnb91 := NB1185_1211.out; have hnc91 := NB1211_1185.out; have hcz92_0 : w87.cell? ⟨gb1185, 0, none⟩ = some (.slice Ao12 t1173.length co12) := (blk_cell BK1185.out 0).trans rfl; have hcz92_1 : w87.cell? ⟨gb1185, 1, none⟩ = some (.int .i64 t1176) := (blk_cell BK1185.out 1).trans rfl; have hcz92_2 : w87.cell? ⟨gb1185, 2, none⟩ = some (.bool t1177) := (blk_cell BK1185.out 2).trans rfl; have hcz92_3 : w87.cell? ⟨gb1185, 3, none⟩ = some (.slice Ao14 t1178.length co14) := (blk_cell BK1185.out 3).trans rfl; have hcz92_4 : w87.cell? ⟨gb1185, 4, none⟩ = some (.slice Ao15 t1181.length co15) := (blk_cell BK1185.out 4).trans rfl; have hfz92_0 := blk_frozen BK1185.out 0; have hfz92_1 := blk_frozen BK1185.out 1; have hfz92_2 := blk_frozen BK1185.out 2; have hfz92_3 := blk_frozen BK1185.out 3; have hfz92_4 := blk_frozen BK1185.out 4) | ((with_reducible refine gate_callee (f := 19) rfl ?_); refine goesL_ (some 71) rfl rfl Tryd.func19 (by kernel_rfl) rfl #[.agg #[.slice Ao12 t1173.length co12, .int .i64 t1176, .bool t1177, .slice Ao14 t1178.length co14, .slice Ao15 t1181.length co15], .string (rdOf ByteArray.empty y1214 (ji56))] rfl (by (try simp only [List.map_toArray, List.map_cons, List.map_nil]); first | done | (simp only [hji56]; rfl) | rfl | (simp only [List.length_drop, List.length_take]; rfl)) ?_; (with_reducible refine (impl_PsalmSing.calls kj8 _ _ t1173 t1176 t1177 _ _ t1178 _ _ t1181 (rdOf ByteArray.empty y1214 (ji56)) t1218 false _ ?side1 ?side2 ?side3 ?side4 ?side5 ?side6 ?side7 A59.out).mono ?_); (case side1 => repeat (first | exact (Kd.R_reads' HO_1186000.out).2.2 | refine C_q ?_)); (case side2 => exact (Kd.R_reads' HO_1186000.out).2.1); (case side3 => repeat (first | exact (Kd.R_reads' HO_1186003.out).2.2 | refine C_q ?_)); (case side4 => exact (Kd.R_reads' HO_1186003.out).2.1); (case side5 => repeat (first | exact (Kd.R_reads' HO_1186004.out).2.2 | refine C_q ?_)); (case side6 => exact (Kd.R_reads' HO_1186004.out).2.1); (case side7 => exact GOk.sub (GOk.below HG.out upH) (by decide)); rintro e w93 ⟨v1219, rfl, ho0, hb⟩; refine ⟨_, rfl, ?_⟩; have n0_ := Q0_ (Kd.R_elder' (upR HO_1186000) (Kd.R_base ho0) hb); have n1_ := Q0_ (Kd.R_elder' (upR HO_1186003) (Kd.R_base ho0) hb); have n2_ := Q0_ (Kd.R_elder' (upR HO_1186004) (Kd.R_base ho0) hb); have n3_ := Q0_ (Kd.R_elder' (upR HO_1199000) (Kd.R_base ho0) hb); have n4_ := Q0_ (Kd.R_elder' (upR HO_1199003) (Kd.R_base ho0) hb); have n5_ := Q0_ (Kd.R_elder' (upR HO_1199004) (Kd.R_base ho0) hb); have n6_ := Q0_ (Kd.R_elder' (upR HO_1212000) (Kd.R_base ho0) hb); have n7_ := Q0_ (Kd.R_elder' (upR HO_1212003) (Kd.R_base ho0) hb); have n8_ := Q0_ (Kd.R_elder' (upR HO_1212004) (Kd.R_base ho0) hb); have n9_ := Q0_ (Kd.R_below (upR HO1216) hb); have n10_ := Q0_ (Kd.R_lower (Kd.R_new' (Kd.R_new' (Kd.R_new' (Kd.R_new' (Kd.R_new' (Kd.R_new' (Kd.R_new' (Kd.R_new' (Kd.R_new' ho0 (Kd.R_lt (upR HO_1186000))) (Kd.R_lt (upR HO_1186003))) (Kd.R_lt (upR HO_1186004))) (Kd.R_lt (upR HO_1199000))) (Kd.R_lt (upR HO_1199003))) (Kd.R_lt (upR HO_1199004))) (Kd.R_lt (upR HO_1212000))) (Kd.R_lt (upR HO_1212003))) (Kd.R_lt (upR HO_1212004))) (below_size upH)); have n11_ := Q0_ (blk_below (upK BK1185) hb); have n12_ := Q0_ (blk_below (upK BK1198) hb); have n13_ := Q0_ (blk_below (upK BK1211) hb); have n14_ := Q0_ (below_step upH hb); clear HO_1186000 HO_1186003 HO_1186004 HO_1199000 HO_1199003 HO_1199004 HO_1212000 HO_1212003 HO_1212004 HO1216 BK1185 BK1198 BK1211 HB; revert n0_ n1_ n2_ n3_ n4_ n5_ n6_ n7_ n8_ n9_ n10_ n11_ n12_ n13_ n14_; intro HO_1186000 HO_1186003 HO_1186004 HO_1199000 HO_1199003 HO_1199004 HO_1212000 HO_1212003 HO_1212004 HO1216 HO1220 BK1185 BK1198 BK1211 HB; (try clear hb); (try clear hb2); (try clear hk); (try clear hi); (try clear ho0); have hnb94 := NB1198_1211.out; have hnc94 := NB1211_1198.out; have hcz95_0 : w93.cell? ⟨gb1198, 0, none⟩ = some (.slice Ao18 t1186.length co18) := (blk_cell BK1198.out 0).trans rfl; have hcz95_1 : w93.cell? ⟨gb1198, 1, none⟩ = some (.int .i64 t1189) := (blk_cell BK1198.out 1).trans rfl; have hcz95_2 : w93.cell? ⟨gb1198, 2, none⟩ = some (.bool t1190) := (blk_cell BK1198.out 2).trans rfl; have hcz95_3 : w93.cell? ⟨gb1198, 3, none⟩ = some (.slice Ao21 t1191.length co21) := (blk_cell BK1198.out 3).trans rfl; have hcz95_4 : w93.cell? ⟨gb1198, 4, none⟩ = some (.slice Ao22 t1194.length co22) := (blk_cell BK1198.out 4).trans rfl; have hfz95_0 := blk_frozen BK1198.out 0; have hfz95_1 := blk_frozen BK1198.out 1; have hfz95_2 := blk_frozen BK1198.out 2; have hfz95_3 := blk_frozen BK1198.out 3; have hfz95_4 := blk_frozen BK1198.out 4) | ((with_reducible refine gate_callee (f := 19) rfl ?_); refine goesL_ (some 77) rfl rfl Tryd.func19 (by kernel_rfl) rfl #[.agg #[.slice Ao18 t1186.length co18, .int .i64 t1189, .bool t1190, .slice Ao21 t1191.length co21, .slice Ao22 t1194.length co22], .string (rdOf ByteArray.empty y1214 (ji56))] rfl (by (try simp only [List.map_toArray, List.map_cons, List.map_nil]); first | done | (simp only [hji56]; rfl) | rfl | (simp only [List.length_drop, List.length_take]; rfl)) ?_; (with_reducible refine (impl_PsalmSing.calls kj8 _ _ t1186 t1189 t1190 _ _ t1191 _ _ t1194 (rdOf ByteArray.empty y1214 (ji56)) t1222 t1225 _ ?side1 ?side2 ?side3 ?side4 ?side5 ?side6 ?side7 A60.out).mono ?_); (case side1 => repeat (first | exact (Kd.R_reads' HO_1199000.out).2.2 | refine C_q ?_)); (case side2 => exact (Kd.R_reads' HO_1199000.out).2.1); (case side3 => repeat (first | exact (Kd.R_reads' HO_1199003.out).2.2 | refine C_q ?_)); (case side4 => exact (Kd.R_reads' HO_1199003.out).2.1); (case side5 => repeat (first | exact (Kd.R_reads' HO_1199004.out).2.2 | refine C_q ?_)); (case side6 => exact (Kd.R_reads' HO_1199004.out).2.1); (case side7 => exact GOk.sub (GOk.below HG.out upH) (by decide)); rintro e w96 ⟨v1223, rfl, ho0, hb⟩; refine ⟨_, rfl, ?_⟩; have n0_ := Q0_ (Kd.R_elder' (upR HO_1186000) (Kd.R_base ho0) hb); have n1_ := Q0_ (Kd.R_elder' (upR HO_1186003) (Kd.R_base ho0) hb); have n2_ := Q0_ (Kd.R_elder' (upR HO_1186004) (Kd.R_base ho0) hb); have n3_ := Q0_ (Kd.R_elder' (upR HO_1199000) (Kd.R_base ho0) hb); have n4_ := Q0_ (Kd.R_elder' (upR HO_1199003) (Kd.R_base ho0) hb); have n5_ := Q0_ (Kd.R_elder' (upR HO_1199004) (Kd.R_base ho0) hb); have n6_ := Q0_ (Kd.R_elder' (upR HO_1212000) (Kd.R_base ho0) hb); have n7_ := Q0_ (Kd.R_elder' (upR HO_1212003) (Kd.R_base ho0) hb); have n8_ := Q0_ (Kd.R_elder' (upR HO_1212004) (Kd.R_base ho0) hb); have n9_ := Q0_ (Kd.R_below (upR HO1216) hb); have n10_ := Q0_ (Kd.R_elder' (upR HO1220) (Kd.R_base ho0) hb); have n11_ := Q0_ (Kd.R_lower (Kd.R_new' (Kd.R_new' (Kd.R_new' (Kd.R_new' (Kd.R_new' (Kd.R_new' (Kd.R_new' (Kd.R_new' (Kd.R_new' (Kd.R_new' ho0 (Kd.R_lt (upR HO_1186000))) (Kd.R_lt (upR HO_1186003))) (Kd.R_lt (upR HO_1186004))) (Kd.R_lt (upR HO_1199000))) (Kd.R_lt (upR HO_1199003))) (Kd.R_lt (upR HO_1199004))) (Kd.R_lt (upR HO_1212000))) (Kd.R_lt (upR HO_1212003))) (Kd.R_lt (upR HO_1212004))) (Kd.R_lt (upR HO1220))) (below_size upH)); have n12_ := Q0_ (blk_below (upK BK1185) hb); have n13_ := Q0_ (blk_below (upK BK1198) hb); have n14_ := Q0_ (blk_below (upK BK1211) hb); have n15_ := Q0_ (below_step upH hb); clear HO_1186000 HO_1186003 HO_1186004 HO_1199000 HO_1199003 HO_1199004 HO_1212000 HO_1212003 HO_1212004 HO1216 HO1220 BK1185 BK1198 BK1211 HB; revert n0_ n1_ n2_ n3_ n4_ n5_ n6_ n7_ n8_ n9_ n10_ n11_ n12_ n13_ n14_ n15_; intro HO_1186000 HO_1186003 HO_1186004 HO_1199000 HO_1199003 HO_1199004 HO_1212000 HO_1212003 HO_1212004 HO1216 HO1220 HO1224 BK1185 BK1198 BK1211 HB; (try clear hb); (try clear hb2); (try clear hk); (try clear hi); (try clear ho0)))
      have n0_ := Q0_ (Kd.R_drew HO_1186000.out)
      have n1_ := Q0_ (Kd.R_drew HO_1186003.out)
      have n2_ := Q0_ (Kd.R_drew HO_1186004.out)
      have n3_ := Q0_ (Kd.R_drew HO_1199000.out)
      have n4_ := Q0_ (Kd.R_drew HO_1199003.out)
      have n5_ := Q0_ (Kd.R_drew HO_1199004.out)
      have n6_ := Q0_ (Kd.R_drew HO_1212000.out)
      have n7_ := Q0_ (Kd.R_drew HO_1212003.out)
      have n8_ := Q0_ (Kd.R_drew HO_1212004.out)
      have n9_ := Q0_ (Kd.R_drew HO1216.out)
      have n10_ := Q0_ (Kd.R_drew HO1220.out)
      have n11_ := Q0_ (Kd.R_drew HO1224.out)
      have n12_ := Q0_ (blk_drew BK1185.out)
      have n13_ := Q0_ (blk_drew BK1198.out)
      have n14_ := Q0_ (blk_drew BK1211.out)
      have n15_ := Q0_ (below_drew1 HB.out)
      clear HO_1186000 HO_1186003 HO_1186004 HO_1199000 HO_1199003 HO_1199004 HO_1212000 HO_1212003 HO_1212004 HO1216 HO1220 HO1224 BK1185 BK1198 BK1211 HB; revert n0_ n1_ n2_ n3_ n4_ n5_ n6_ n7_ n8_ n9_ n10_ n11_ n12_ n13_ n14_ n15_; intro HO_1186000 HO_1186003 HO_1186004 HO_1199000 HO_1199003 HO_1199004 HO_1212000 HO_1212003 HO_1212004 HO1216 HO1220 HO1224 BK1185 BK1198 BK1211 HB
      refine start_ (n := 26) (S := fun w' => w'.cell? ⟨gb1198, 0, none⟩ = some (.slice Ao18 t1186.length co18) ∧ w'.cell? ⟨gb1198, 1, none⟩ = some (.int .i64 t1189) ∧ w'.cell? ⟨gb1198, 2, none⟩ = some (.bool t1190) ∧ w'.cell? ⟨gb1198, 3, none⟩ = some (.slice Ao21 t1191.length co21) ∧ w'.cell? ⟨gb1198, 4, none⟩ = some (.slice Ao22 t1194.length co22) ∧ w'.cell? ⟨gb1185, 0, none⟩ = some (.slice Ao12 t1173.length co12) ∧ w'.cell? ⟨gb1185, 1, none⟩ = some (.int .i64 t1176) ∧ w'.cell? ⟨gb1185, 2, none⟩ = some (.bool t1177) ∧ w'.cell? ⟨gb1185, 3, none⟩ = some (.slice Ao14 t1178.length co14) ∧ w'.cell? ⟨gb1185, 4, none⟩ = some (.slice Ao15 t1181.length co15)) (ds := []) #[ff,ff,ff,ff,ff,ff,ff,ff,ff,ff,ff,ff,ff,ff,ff,ff,ff,ff,ff,ff,ff,ff,ff,ff,ff,ff] (by kernel_rfl) rfl rfl ⟨(blk_cell BK1198.out 0).trans rfl, (blk_cell BK1198.out 1).trans rfl, (blk_cell BK1198.out 2).trans rfl, (blk_cell BK1198.out 3).trans rfl, (blk_cell BK1198.out 4).trans rfl, (blk_cell BK1185.out 0).trans rfl, (blk_cell BK1185.out 1).trans rfl, (blk_cell BK1185.out 2).trans rfl, (blk_cell BK1185.out 3).trans rfl, (blk_cell BK1185.out 4).trans rfl⟩ (fun hHeld => ?_); refine with_tabW laws_FnPsalmMove.tab11 laws_FnPsalmMove.bits11 (fun HT_ HW_ => ?_)
      generalize w96.drew = w97 at HO_1186000 HO_1186003 HO_1186004 HO_1199000 HO_1199003 HO_1199004 HO_1212000 HO_1212003 HO_1212004 HO1216 HO1220 HO1224 BK1185 BK1198 BK1211 HB hHeld ⊢
      refine pQ HT_ 1 (some 81) #[ff,tt,ff,ff,ff,ff,ff,ff,ff,ff,ff,ff,ff,ff,ff,ff,ff,ff,ff,ff,ff,ff,ff,ff,ff,ff] rfl rfl ?_
      refine pQ HT_ 4 (some 84) #[ff,tt,ff,ff,tt,ff,ff,ff,ff,ff,ff,ff,ff,ff,ff,ff,ff,ff,ff,ff,ff,ff,ff,ff,ff,ff] rfl rfl ?_
      refine tQ HT_ HW_ 0 (some 80) #[tt,tt,ff,ff,tt,ff,ff,ff,ff,ff,ff,ff,ff,ff,ff,ff,ff,ff,ff,ff,ff,ff,ff,ff,ff,ff] rfl rfl hHeld (by rintro w' ⟨s0, s1, s2, s3, s4, s5, s6, s7, s8, s9⟩; go_simp; with_reducible rfl) ?_
      refine tQ HT_ HW_ 3 (some 83) #[tt,tt,ff,tt,tt,ff,ff,ff,ff,ff,ff,ff,ff,ff,ff,ff,ff,ff,ff,ff,ff,ff,ff,ff,ff,ff] rfl rfl hHeld (by rintro w' ⟨s0, s1, s2, s3, s4, s5, s6, s7, s8, s9⟩; go_simp; with_reducible rfl) ?_
      refine one_ (i := 2) (N := some 82) #[tt,tt,tt,tt,tt,ff,ff,ff,ff,ff,ff,ff,ff,ff,ff,ff,ff,ff,ff,ff,ff,ff,ff,ff,ff,ff] rfl rfl (one_of HT_.out (by kernel_rfl)) (by decide) (fun K hK => ?_)
      first | (refine goes_ Tryd.func16 (by kernel_rfl) rfl #[.agg #[.slice Ao18 t1186.length co18, .int .i64 t1189, .bool t1190, .slice Ao21 t1191.length co21, .slice Ao22 t1194.length co22], .string (rdOf ByteArray.empty y1214 (ji56))] (by rfl) rfl rfl (by (try simp only [List.map_toArray, List.map_cons, List.map_nil]); first | done | (simp only [hji56]; rfl) | rfl | (simp only [List.length_drop, List.length_take]; rfl)) ?_) | (refine goes_ Tryd.func16 (by kernel_rfl) rfl #[.agg #[.slice (some ad1217) t1186.length co18, .int .i64 t1189, .bool t1190, .slice (some ad1217) t1191.length co21, .slice (some ad1217) t1194.length co22], .string (rdOf ByteArray.empty y1214 (ji56))] (by rfl) rfl rfl (by (try simp only [List.map_toArray, List.map_cons, List.map_nil]); first | done | (simp only [hji56]; rfl) | rfl | (simp only [List.length_drop, List.length_take]; rfl)) ?_)
      with_reducible refine (impl_PsalmFits.calls kj8 _ _ t1186 t1189 t1190 _ _ t1191 _ _ t1194 (rdOf ByteArray.empty y1214 (ji56)) t1226 _ ?side1 ?side2 ?side3 ?side4 ?side5 ?side6 ?side7 A61.out).mono ?_
      (case side1 => repeat (first | exact (Kd.R_reads' HO_1199000.out).2.2 | refine C_q ?_))
      (case side2 => exact (Kd.R_reads' HO_1199000.out).2.1)
      (case side3 => repeat (first | exact (Kd.R_reads' HO_1199003.out).2.2 | refine C_q ?_))
      (case side4 => exact (Kd.R_reads' HO_1199003.out).2.1)
      (case side5 => repeat (first | exact (Kd.R_reads' HO_1199004.out).2.2 | refine C_q ?_))
      (case side6 => exact (Kd.R_reads' HO_1199004.out).2.1)
      (case side7 => exact GOk.sub (GOk.below HG.out upH) (by decide))
      rintro e w98 ⟨rfl, hb⟩
      refine ⟨_, rfl, ?_⟩
      have n0_ := Q0_ (Kd.R_below (upR HO_1186000) hb)
      have n1_ := Q0_ (Kd.R_below (upR HO_1186003) hb)
      have n2_ := Q0_ (Kd.R_below (upR HO_1186004) hb)
      have n3_ := Q0_ (Kd.R_below (upR HO_1199000) hb)
      have n4_ := Q0_ (Kd.R_below (upR HO_1199003) hb)
      have n5_ := Q0_ (Kd.R_below (upR HO_1199004) hb)
      have n6_ := Q0_ (Kd.R_below (upR HO_1212000) hb)
      have n7_ := Q0_ (Kd.R_below (upR HO_1212003) hb)
      have n8_ := Q0_ (Kd.R_below (upR HO_1212004) hb)
      have n9_ := Q0_ (Kd.R_below (upR HO1216) hb)
      have n10_ := Q0_ (Kd.R_below (upR HO1220) hb)
      have n11_ := Q0_ (Kd.R_below (upR HO1224) hb)
      have n12_ := Q0_ (blk_below (upK BK1185) hb)
      have n13_ := Q0_ (blk_below (upK BK1198) hb)
      have n14_ := Q0_ (blk_below (upK BK1211) hb)
      have n15_ := Q0_ (below_step upH hb)
      clear HO_1186000 HO_1186003 HO_1186004 HO_1199000 HO_1199003 HO_1199004 HO_1212000 HO_1212003 HO_1212004 HO1216 HO1220 HO1224 BK1185 BK1198 BK1211 HB; revert n0_ n1_ n2_ n3_ n4_ n5_ n6_ n7_ n8_ n9_ n10_ n11_ n12_ n13_ n14_ n15_; intro HO_1186000 HO_1186003 HO_1186004 HO_1199000 HO_1199003 HO_1199004 HO_1212000 HO_1212003 HO_1212004 HO1216 HO1220 HO1224 BK1185 BK1198 BK1211 HB
      (try clear hb)
      (try clear hb2)
      (try clear hk)
      (try clear hi)
      refine hK.out _ _ ⟨(blk_cell BK1198.out 0).trans rfl, (blk_cell BK1198.out 1).trans rfl, (blk_cell BK1198.out 2).trans rfl, (blk_cell BK1198.out 3).trans rfl, (blk_cell BK1198.out 4).trans rfl, (blk_cell BK1185.out 0).trans rfl, (blk_cell BK1185.out 1).trans rfl, (blk_cell BK1185.out 2).trans rfl, (blk_cell BK1185.out 3).trans rfl, (blk_cell BK1185.out 4).trans rfl⟩ (fun hHeld => ?_)
      clear hK K
      refine norm_ (a' := ?_) ?_ ?_
      rotate_left
      ·show Act.put _ (some 82) _ = _
       simp only [Act.put, sI, s0, sS, i64_w, i32_w]
       rfl
      refine one_ (i := 5) (N := some 85) #[tt,tt,tt,tt,tt,tt,ff,ff,ff,ff,ff,ff,ff,ff,ff,ff,ff,ff,ff,ff,ff,ff,ff,ff,ff,ff] rfl rfl (one_of HT_.out (by kernel_rfl)) (by decide) (fun K hK => ?_)
      first | (refine goes_ Tryd.func16 (by kernel_rfl) rfl #[.agg #[.slice Ao12 t1173.length co12, .int .i64 t1176, .bool t1177, .slice Ao14 t1178.length co14, .slice Ao15 t1181.length co15], .string (rdOf ByteArray.empty y1214 (ji56))] (by rfl) rfl rfl (by (try simp only [List.map_toArray, List.map_cons, List.map_nil]); first | done | (simp only [hji56]; rfl) | rfl | (simp only [List.length_drop, List.length_take]; rfl)) ?_) | (refine goes_ Tryd.func16 (by kernel_rfl) rfl #[.agg #[.slice (some ad1217) t1173.length co12, .int .i64 t1176, .bool t1177, .slice (some ad1217) t1178.length co14, .slice (some ad1217) t1181.length co15], .string (rdOf ByteArray.empty y1214 (ji56))] (by rfl) rfl rfl (by (try simp only [List.map_toArray, List.map_cons, List.map_nil]); first | done | (simp only [hji56]; rfl) | rfl | (simp only [List.length_drop, List.length_take]; rfl)) ?_)
      with_reducible refine (impl_PsalmFits.calls kj8 _ _ t1173 t1176 t1177 _ _ t1178 _ _ t1181 (rdOf ByteArray.empty y1214 (ji56)) t1227 _ ?side1 ?side2 ?side3 ?side4 ?side5 ?side6 ?side7 A62.out).mono ?_
      (case side1 => repeat (first | exact (Kd.R_reads' HO_1186000.out).2.2 | refine C_q ?_))
      (case side2 => exact (Kd.R_reads' HO_1186000.out).2.1)
      (case side3 => repeat (first | exact (Kd.R_reads' HO_1186003.out).2.2 | refine C_q ?_))
      (case side4 => exact (Kd.R_reads' HO_1186003.out).2.1)
      (case side5 => repeat (first | exact (Kd.R_reads' HO_1186004.out).2.2 | refine C_q ?_))
      (case side6 => exact (Kd.R_reads' HO_1186004.out).2.1)
      (case side7 => exact GOk.sub (GOk.below HG.out upH) (by decide))
      rintro e w99 ⟨rfl, hb⟩
      refine ⟨_, rfl, ?_⟩
      have n0_ := Q0_ (Kd.R_below (upR HO_1186000) hb)
      have n1_ := Q0_ (Kd.R_below (upR HO_1186003) hb)
      have n2_ := Q0_ (Kd.R_below (upR HO_1186004) hb)
      have n3_ := Q0_ (Kd.R_below (upR HO_1199000) hb)
      have n4_ := Q0_ (Kd.R_below (upR HO_1199003) hb)
      have n5_ := Q0_ (Kd.R_below (upR HO_1199004) hb)
      have n6_ := Q0_ (Kd.R_below (upR HO_1212000) hb)
      have n7_ := Q0_ (Kd.R_below (upR HO_1212003) hb)
      have n8_ := Q0_ (Kd.R_below (upR HO_1212004) hb)
      have n9_ := Q0_ (Kd.R_below (upR HO1216) hb)
      have n10_ := Q0_ (Kd.R_below (upR HO1220) hb)
      have n11_ := Q0_ (Kd.R_below (upR HO1224) hb)
      have n12_ := Q0_ (blk_below (upK BK1185) hb)
      have n13_ := Q0_ (blk_below (upK BK1198) hb)
      have n14_ := Q0_ (blk_below (upK BK1211) hb)
      have n15_ := Q0_ (below_step upH hb)
      clear HO_1186000 HO_1186003 HO_1186004 HO_1199000 HO_1199003 HO_1199004 HO_1212000 HO_1212003 HO_1212004 HO1216 HO1220 HO1224 BK1185 BK1198 BK1211 HB; revert n0_ n1_ n2_ n3_ n4_ n5_ n6_ n7_ n8_ n9_ n10_ n11_ n12_ n13_ n14_ n15_; intro HO_1186000 HO_1186003 HO_1186004 HO_1199000 HO_1199003 HO_1199004 HO_1212000 HO_1212003 HO_1212004 HO1216 HO1220 HO1224 BK1185 BK1198 BK1211 HB
      (try clear hb)
      (try clear hb2)
      (try clear hk)
      (try clear hi)
      refine hK.out _ _ ⟨(blk_cell BK1198.out 0).trans rfl, (blk_cell BK1198.out 1).trans rfl, (blk_cell BK1198.out 2).trans rfl, (blk_cell BK1198.out 3).trans rfl, (blk_cell BK1198.out 4).trans rfl, (blk_cell BK1185.out 0).trans rfl, (blk_cell BK1185.out 1).trans rfl, (blk_cell BK1185.out 2).trans rfl, (blk_cell BK1185.out 3).trans rfl, (blk_cell BK1185.out 4).trans rfl⟩ (fun hHeld => ?_)
      clear hK K
      refine norm_ (a' := ?_) ?_ ?_
      rotate_left
      ·show Act.put _ (some 85) _ = _
       simp only [Act.put, sI, s0, sS, i64_w, i32_w]
       rfl
      refine pQ HT_ 6 (some 86) #[tt,tt,tt,tt,tt,tt,tt,ff,ff,ff,ff,ff,ff,ff,ff,ff,ff,ff,ff,ff,ff,ff,ff,ff,ff,ff] rfl rfl ?_
      refine pQ HT_ 7 (some 87) #[tt,tt,tt,tt,tt,tt,tt,tt,ff,ff,ff,ff,ff,ff,ff,ff,ff,ff,ff,ff,ff,ff,ff,ff,ff,ff] rfl rfl ?_
      refine pQ HT_ 8 (some 88) #[tt,tt,tt,tt,tt,tt,tt,tt,tt,ff,ff,ff,ff,ff,ff,ff,ff,ff,ff,ff,ff,ff,ff,ff,ff,ff] rfl rfl ?_
      refine pQ HT_ 9 (some 89) #[tt,tt,tt,tt,tt,tt,tt,tt,tt,tt,ff,ff,ff,ff,ff,ff,ff,ff,ff,ff,ff,ff,ff,ff,ff,ff] rfl rfl ?_
      refine pQ HT_ 10 (some 90) #[tt,tt,tt,tt,tt,tt,tt,tt,tt,tt,tt,ff,ff,ff,ff,ff,ff,ff,ff,ff,ff,ff,ff,ff,ff,ff] rfl rfl ?_
      refine pQ HT_ 11 (some 91) #[tt,tt,tt,tt,tt,tt,tt,tt,tt,tt,tt,tt,ff,ff,ff,ff,ff,ff,ff,ff,ff,ff,ff,ff,ff,ff] rfl rfl ?_
      refine pQ HT_ 12 (some 92) #[tt,tt,tt,tt,tt,tt,tt,tt,tt,tt,tt,tt,tt,ff,ff,ff,ff,ff,ff,ff,ff,ff,ff,ff,ff,ff] rfl rfl ?_
      refine pQ HT_ 13 (some 93) #[tt,tt,tt,tt,tt,tt,tt,tt,tt,tt,tt,tt,tt,tt,ff,ff,ff,ff,ff,ff,ff,ff,ff,ff,ff,ff] rfl rfl ?_
      refine pQ HT_ 14 (some 94) #[tt,tt,tt,tt,tt,tt,tt,tt,tt,tt,tt,tt,tt,tt,tt,ff,ff,ff,ff,ff,ff,ff,ff,ff,ff,ff] rfl rfl ?_
      refine pQ HT_ 15 (some 95) #[tt,tt,tt,tt,tt,tt,tt,tt,tt,tt,tt,tt,tt,tt,tt,tt,ff,ff,ff,ff,ff,ff,ff,ff,ff,ff] rfl rfl ?_
      refine pU HT_ 16 (some 96) #[tt,tt,tt,tt,tt,tt,tt,tt,tt,tt,tt,tt,tt,tt,tt,tt,tt,ff,ff,ff,ff,ff,ff,ff,ff,ff] rfl rfl ?_
      refine pU HT_ 17 (some 97) #[tt,tt,tt,tt,tt,tt,tt,tt,tt,tt,tt,tt,tt,tt,tt,tt,tt,tt,ff,ff,ff,ff,ff,ff,ff,ff] rfl rfl ?_
      refine pU HT_ 18 (some 98) #[tt,tt,tt,tt,tt,tt,tt,tt,tt,tt,tt,tt,tt,tt,tt,tt,tt,tt,tt,ff,ff,ff,ff,ff,ff,ff] rfl rfl ?_
      refine pQ HT_ 19 (some 99) #[tt,tt,tt,tt,tt,tt,tt,tt,tt,tt,tt,tt,tt,tt,tt,tt,tt,tt,tt,tt,ff,ff,ff,ff,ff,ff] rfl rfl ?_
      refine pQ HT_ 20 (some 100) #[tt,tt,tt,tt,tt,tt,tt,tt,tt,tt,tt,tt,tt,tt,tt,tt,tt,tt,tt,tt,tt,ff,ff,ff,ff,ff] rfl rfl ?_
      refine pQ HT_ 21 (some 101) #[tt,tt,tt,tt,tt,tt,tt,tt,tt,tt,tt,tt,tt,tt,tt,tt,tt,tt,tt,tt,tt,tt,ff,ff,ff,ff] rfl rfl ?_
      refine tQ HT_ HW_ 22 (some 102) #[tt,tt,tt,tt,tt,tt,tt,tt,tt,tt,tt,tt,tt,tt,tt,tt,tt,tt,tt,tt,tt,tt,tt,ff,ff,ff] rfl rfl hHeld (by rintro w' ⟨s0, s1, s2, s3, s4, s5, s6, s7, s8, s9⟩; go_simp; with_reducible rfl) ?_
      refine one_ (i := 23) (N := some 103) #[tt,tt,tt,tt,tt,tt,tt,tt,tt,tt,tt,tt,tt,tt,tt,tt,tt,tt,tt,tt,tt,tt,tt,tt,ff,ff] rfl rfl (one_of HT_.out (by kernel_rfl)) (by decide) (fun K hK => ?_)
      first | (refine goes_ Tryd.func20 (by kernel_rfl) rfl #[.agg #[.slice Ao18 t1186.length co18, .int .i64 t1189, .bool t1190, .slice Ao21 t1191.length co21, .slice Ao22 t1194.length co22]] (by rfl) rfl rfl hM ?_) | (refine goes_ Tryd.func20 (by kernel_rfl) rfl #[.agg #[.slice (some ad1217) t1186.length co18, .int .i64 t1189, .bool t1190, .slice (some ad1217) t1191.length co21, .slice (some ad1217) t1194.length co22]] (by rfl) rfl rfl hM ?_)
      with_reducible refine (impl_PsalmValid.calls kj8 _ _ t1186 t1189 t1190 _ _ t1191 _ _ t1194 t1230 _ ?side1 ?side2 ?side3 ?side4 ?side5 ?side6 A86.out).mono ?_
      (case side1 => repeat (first | exact (Kd.R_reads' HO_1199000.out).2.2 | refine C_q ?_))
      (case side2 => exact (Kd.R_reads' HO_1199000.out).2.1)
      (case side3 => repeat (first | exact (Kd.R_reads' HO_1199003.out).2.2 | refine C_q ?_))
      (case side4 => exact (Kd.R_reads' HO_1199003.out).2.1)
      (case side5 => repeat (first | exact (Kd.R_reads' HO_1199004.out).2.2 | refine C_q ?_))
      (case side6 => exact (Kd.R_reads' HO_1199004.out).2.1)
      rintro e w100 ⟨rfl, hb⟩
      refine ⟨_, rfl, ?_⟩
      have n0_ := Q0_ (Kd.R_below (upR HO_1186000) hb)
      have n1_ := Q0_ (Kd.R_below (upR HO_1186003) hb)
      have n2_ := Q0_ (Kd.R_below (upR HO_1186004) hb)
      have n3_ := Q0_ (Kd.R_below (upR HO_1199000) hb)
      have n4_ := Q0_ (Kd.R_below (upR HO_1199003) hb)
      have n5_ := Q0_ (Kd.R_below (upR HO_1199004) hb)
      have n6_ := Q0_ (Kd.R_below (upR HO_1212000) hb)
      have n7_ := Q0_ (Kd.R_below (upR HO_1212003) hb)
      have n8_ := Q0_ (Kd.R_below (upR HO_1212004) hb)
      have n9_ := Q0_ (Kd.R_below (upR HO1216) hb)
      have n10_ := Q0_ (Kd.R_below (upR HO1220) hb)
      have n11_ := Q0_ (Kd.R_below (upR HO1224) hb)
      have n12_ := Q0_ (blk_below (upK BK1185) hb)
      have n13_ := Q0_ (blk_below (upK BK1198) hb)
      have n14_ := Q0_ (blk_below (upK BK1211) hb)
      have n15_ := Q0_ (below_step upH hb)
      clear HO_1186000 HO_1186003 HO_1186004 HO_1199000 HO_1199003 HO_1199004 HO_1212000 HO_1212003 HO_1212004 HO1216 HO1220 HO1224 BK1185 BK1198 BK1211 HB; revert n0_ n1_ n2_ n3_ n4_ n5_ n6_ n7_ n8_ n9_ n10_ n11_ n12_ n13_ n14_ n15_; intro HO_1186000 HO_1186003 HO_1186004 HO_1199000 HO_1199003 HO_1199004 HO_1212000 HO_1212003 HO_1212004 HO1216 HO1220 HO1224 BK1185 BK1198 BK1211 HB
      (try clear hb)
      (try clear hb2)
      (try clear hk)
      (try clear hi)
      refine hK.out _ _ ⟨(blk_cell BK1198.out 0).trans rfl, (blk_cell BK1198.out 1).trans rfl, (blk_cell BK1198.out 2).trans rfl, (blk_cell BK1198.out 3).trans rfl, (blk_cell BK1198.out 4).trans rfl, (blk_cell BK1185.out 0).trans rfl, (blk_cell BK1185.out 1).trans rfl, (blk_cell BK1185.out 2).trans rfl, (blk_cell BK1185.out 3).trans rfl, (blk_cell BK1185.out 4).trans rfl⟩ (fun hHeld => ?_)
      clear hK K
      refine norm_ (a' := ?_) ?_ ?_
      rotate_left
      ·show Act.put _ (some 103) _ = _
       simp only [Act.put, sI, s0, sS, i64_w, i32_w]
       rfl
      refine pQ HT_ 24 (some 104) #[tt,tt,tt,tt,tt,tt,tt,tt,tt,tt,tt,tt,tt,tt,tt,tt,tt,tt,tt,tt,tt,tt,tt,tt,tt,ff] rfl rfl ?_
      refine pQ HT_ 25 (some 4) #[tt,tt,tt,tt,tt,tt,tt,tt,tt,tt,tt,tt,tt,tt,tt,tt,tt,tt,tt,tt,tt,tt,tt,tt,tt,tt] rfl rfl ?_
      refine done_ (done_of HT_.out (by kernel_rfl)) ?_
      try go_wp2
      go_ret
      exact ⟨by first | rfl | (simp [errW_none, errW_some] <;> rfl) | (simp only [← hji56]; first | rfl | (simp [errW_none, errW_some] <;> rfl)) | (simp [*, errW_none, errW_some] <;> rfl), by repeat (first | (with_reducible first | exact HB.out | apply below_alloc | apply pw_below_drewN | apply below_drew1 | refine below_set ?_ GE1185.out | refine below_set ?_ GE1198.out | refine below_set ?_ GE1211.out) | exact HB.out)⟩
     subst c65
     replace H := ifP (rfl) H
     obtain ⟨t1228, A660, H⟩ := Option.bind_eq_some_iff.mp H
     try dsimp only at H
     have A66 := Aside0.mk A660
     clear A660
     by_cases c67 : t1228 = true
     rotate_left
     ·replace c67 := Bool.eq_false_iff.mpr c67
      subst c67
      replace H := ifN ((show ¬ (false = true) by decide)) H
      exact absurd H (by simp)
     subst c67
     replace H := ifP (rfl) H
     obtain ⟨t1229, A680, H⟩ := Option.bind_eq_some_iff.mp H
     try dsimp only at H
     have A68 := Aside0.mk A680
     clear A680
     obtain rfl := Option.some.inj H
     try go_wp2_with (first | ((with_reducible refine gate_dst (N := 62) rfl ?_); (try (refine gate_guard (by rfl) ?_; dsimp only)); refine Kd.R_lit Kd.string _ 9 ?hg (N := 62) ?hd (xs := ([(⟨#[120, 120, 47, 120, 124, 120, 47, 120]⟩ : ByteArray), (⟨#[120, 47, 120, 120, 47, 120, 120, 124, 120, 120, 47, 120, 47, 120, 120]⟩ : ByteArray), (⟨#[120, 124, 120]⟩ : ByteArray), (⟨#[47, 47, 47, 47, 47, 47, 124, 47, 47, 47, 47]⟩ : ByteArray)] : List ByteArray)) (inner := [.string (⟨#[120, 120, 47, 120, 124, 120, 47, 120]⟩ : ByteArray), .string (⟨#[120, 47, 120, 120, 47, 120, 120, 124, 120, 120, 47, 120, 47, 120, 120]⟩ : ByteArray), .string (⟨#[120, 124, 120]⟩ : ByteArray), .string (⟨#[47, 47, 47, 47, 47, 47, 124, 47, 47, 47, 47]⟩ : ByteArray)]) (ok := fun _ => True) (okp := fun _ => True) ?hr ?hp (fun _ hk => hk) trivial (Below.refl _ _) (Nat.le_refl _) (by simp) ?_; (case hd => rfl); (case hg => rfl); (case hr => first | (go_simp; done) | (go_simp; rfl)); (case hp => exact (Reps.one (show Kd.M Kd.string _ _ _ (⟨#[120, 120, 47, 120, 124, 120, 47, 120]⟩ : ByteArray) [.string (⟨#[120, 120, 47, 120, 124, 120, 47, 120]⟩ : ByteArray)] from rfl) (Reps.one (show Kd.M Kd.string _ _ _ (⟨#[120, 47, 120, 120, 47, 120, 120, 124, 120, 120, 47, 120, 47, 120, 120]⟩ : ByteArray) [.string (⟨#[120, 47, 120, 120, 47, 120, 120, 124, 120, 120, 47, 120, 47, 120, 120]⟩ : ByteArray)] from rfl) (Reps.one (show Kd.M Kd.string _ _ _ (⟨#[120, 124, 120]⟩ : ByteArray) [.string (⟨#[120, 124, 120]⟩ : ByteArray)] from rfl) (Reps.one (show Kd.M Kd.string _ _ _ (⟨#[47, 47, 47, 47, 47, 47, 124, 47, 47, 47, 47]⟩ : ByteArray) [.string (⟨#[47, 47, 47, 47, 47, 47, 124, 47, 47, 47, 47]⟩ : ByteArray)] from rfl) (Reps.none _ _)))))); intro v1215 w69 ho70 hb hg_ hnew_; clear hg_ hnew_; (first | rw [← Ny1214.out] at ho70 | (simp only [Int.reduceToNat] at ho70; rw [← Ny1214.out] at ho70)); have n0_ := Q0_ (Kd.R_below (upR HO_1186000) hb); have n1_ := Q0_ (Kd.R_below (upR HO_1186003) hb); have n2_ := Q0_ (Kd.R_below (upR HO_1186004) hb); have n3_ := Q0_ (Kd.R_below (upR HO_1199000) hb); have n4_ := Q0_ (Kd.R_below (upR HO_1199003) hb); have n5_ := Q0_ (Kd.R_below (upR HO_1199004) hb); have n6_ := Q0_ (Kd.R_below (upR HO_1212000) hb); have n7_ := Q0_ (Kd.R_below (upR HO_1212003) hb); have n8_ := Q0_ (Kd.R_below (upR HO_1212004) hb); have n9_ := Q0_ (Kd.R_lower ho70 (below_size upH)); have n10_ := Q0_ (blk_below (upK BK1185) hb); have n11_ := Q0_ (blk_below (upK BK1198) hb); have n12_ := Q0_ (blk_below (upK BK1211) hb); have n13_ := Q0_ (below_step upH hb); clear HO_1186000 HO_1186003 HO_1186004 HO_1199000 HO_1199003 HO_1199004 HO_1212000 HO_1212003 HO_1212004 BK1185 BK1198 BK1211 HB; revert n0_ n1_ n2_ n3_ n4_ n5_ n6_ n7_ n8_ n9_ n10_ n11_ n12_ n13_; intro HO_1186000 HO_1186003 HO_1186004 HO_1199000 HO_1199003 HO_1199004 HO_1212000 HO_1212003 HO_1212004 HO1216 BK1185 BK1198 BK1211 HB; clear hb ho70; obtain ⟨Ao71, co71, eo71⟩ := Kd.R_slice HO1216.out; subst eo71; have p1217 : 0 ≤ ((ji56) : Int) := of_decide_eq_true aS; have q1217 : (ji56) < (y1214.length : Int) := of_decide_eq_true aS; obtain ⟨ad1217, e1217, hx1217_0⟩ := Kd.at_string (Kd.R_reads' HO1216.out).2.2 (ji56) p1217 q1217; cases e1217; replace p1217 := eq_true p1217; replace q1217 := eq_true q1217; have hnb72 := NB1185_1198.out; have hnc72 := NB1198_1185.out; have hnb73 := NB1185_1211.out; have hnc73 := NB1211_1185.out; have hcz74_0 : w69.cell? ⟨gb1185, 0, none⟩ = some (.slice Ao12 t1173.length co12) := (blk_cell BK1185.out 0).trans rfl; have hcz74_1 : w69.cell? ⟨gb1185, 1, none⟩ = some (.int .i64 t1176) := (blk_cell BK1185.out 1).trans rfl; have hcz74_2 : w69.cell? ⟨gb1185, 2, none⟩ = some (.bool t1177) := (blk_cell BK1185.out 2).trans rfl; have hcz74_3 : w69.cell? ⟨gb1185, 3, none⟩ = some (.slice Ao14 t1178.length co14) := (blk_cell BK1185.out 3).trans rfl; have hcz74_4 : w69.cell? ⟨gb1185, 4, none⟩ = some (.slice Ao15 t1181.length co15) := (blk_cell BK1185.out 4).trans rfl; have hfz74_0 := blk_frozen BK1185.out 0; have hfz74_1 := blk_frozen BK1185.out 1; have hfz74_2 := blk_frozen BK1185.out 2; have hfz74_3 := blk_frozen BK1185.out 3; have hfz74_4 := blk_frozen BK1185.out 4) | ((with_reducible refine gate_callee (f := 19) rfl ?_); refine goesL_ (some 71) rfl rfl Tryd.func19 (by kernel_rfl) rfl #[.agg #[.slice Ao12 t1173.length co12, .int .i64 t1176, .bool t1177, .slice Ao14 t1178.length co14, .slice Ao15 t1181.length co15], .string (rdOf ByteArray.empty y1214 (ji56))] rfl (by (try simp only [List.map_toArray, List.map_cons, List.map_nil]); first | done | (simp only [hji56]; rfl) | rfl | (simp only [List.length_drop, List.length_take]; rfl)) ?_; (with_reducible refine (impl_PsalmSing.calls kj8 _ _ t1173 t1176 t1177 _ _ t1178 _ _ t1181 (rdOf ByteArray.empty y1214 (ji56)) t1218 true _ ?side1 ?side2 ?side3 ?side4 ?side5 ?side6 ?side7 A59.out).mono ?_); (case side1 => repeat (first | exact (Kd.R_reads' HO_1186000.out).2.2 | refine C_q ?_)); (case side2 => exact (Kd.R_reads' HO_1186000.out).2.1); (case side3 => repeat (first | exact (Kd.R_reads' HO_1186003.out).2.2 | refine C_q ?_)); (case side4 => exact (Kd.R_reads' HO_1186003.out).2.1); (case side5 => repeat (first | exact (Kd.R_reads' HO_1186004.out).2.2 | refine C_q ?_)); (case side6 => exact (Kd.R_reads' HO_1186004.out).2.1); (case side7 => exact GOk.sub (GOk.below HG.out upH) (by decide)); rintro e w75 ⟨v1219, rfl, ho0, hb⟩; refine ⟨_, rfl, ?_⟩; have n0_ := Q0_ (Kd.R_elder' (upR HO_1186000) (Kd.R_base ho0) hb); have n1_ := Q0_ (Kd.R_elder' (upR HO_1186003) (Kd.R_base ho0) hb); have n2_ := Q0_ (Kd.R_elder' (upR HO_1186004) (Kd.R_base ho0) hb); have n3_ := Q0_ (Kd.R_elder' (upR HO_1199000) (Kd.R_base ho0) hb); have n4_ := Q0_ (Kd.R_elder' (upR HO_1199003) (Kd.R_base ho0) hb); have n5_ := Q0_ (Kd.R_elder' (upR HO_1199004) (Kd.R_base ho0) hb); have n6_ := Q0_ (Kd.R_elder' (upR HO_1212000) (Kd.R_base ho0) hb); have n7_ := Q0_ (Kd.R_elder' (upR HO_1212003) (Kd.R_base ho0) hb); have n8_ := Q0_ (Kd.R_elder' (upR HO_1212004) (Kd.R_base ho0) hb); have n9_ := Q0_ (Kd.R_below (upR HO1216) hb); have n10_ := Q0_ (Kd.R_lower (Kd.R_new' (Kd.R_new' (Kd.R_new' (Kd.R_new' (Kd.R_new' (Kd.R_new' (Kd.R_new' (Kd.R_new' (Kd.R_new' ho0 (Kd.R_lt (upR HO_1186000))) (Kd.R_lt (upR HO_1186003))) (Kd.R_lt (upR HO_1186004))) (Kd.R_lt (upR HO_1199000))) (Kd.R_lt (upR HO_1199003))) (Kd.R_lt (upR HO_1199004))) (Kd.R_lt (upR HO_1212000))) (Kd.R_lt (upR HO_1212003))) (Kd.R_lt (upR HO_1212004))) (below_size upH)); have n11_ := Q0_ (blk_below (upK BK1185) hb); have n12_ := Q0_ (blk_below (upK BK1198) hb); have n13_ := Q0_ (blk_below (upK BK1211) hb); have n14_ := Q0_ (below_step upH hb); clear HO_1186000 HO_1186003 HO_1186004 HO_1199000 HO_1199003 HO_1199004 HO_1212000 HO_1212003 HO_1212004 HO1216 BK1185 BK1198 BK1211 HB; revert n0_ n1_ n2_ n3_ n4_ n5_ n6_ n7_ n8_ n9_ n10_ n11_ n12_ n13_ n14_; intro HO_1186000 HO_1186003 HO_1186004 HO_1199000 HO_1199003 HO_1199004 HO_1212000 HO_1212003 HO_1212004 HO1216 HO1220 BK1185 BK1198 BK1211 HB; (try clear hb); (try clear hb2); (try clear hk); (try clear hi); (try clear ho0); have hnb76 := NB1198_1211.out; have hnc76 := NB1211_1198.out; have hcz77_0 : w75.cell? ⟨gb1198, 0, none⟩ = some (.slice Ao18 t1186.length co18) := (blk_cell BK1198.out 0).trans rfl; have hcz77_1 : w75.cell? ⟨gb1198, 1, none⟩ = some (.int .i64 t1189) := (blk_cell BK1198.out 1).trans rfl; have hcz77_2 : w75.cell? ⟨gb1198, 2, none⟩ = some (.bool t1190) := (blk_cell BK1198.out 2).trans rfl; have hcz77_3 : w75.cell? ⟨gb1198, 3, none⟩ = some (.slice Ao21 t1191.length co21) := (blk_cell BK1198.out 3).trans rfl; have hcz77_4 : w75.cell? ⟨gb1198, 4, none⟩ = some (.slice Ao22 t1194.length co22) := (blk_cell BK1198.out 4).trans rfl; have hfz77_0 := blk_frozen BK1198.out 0; have hfz77_1 := blk_frozen BK1198.out 1; have hfz77_2 := blk_frozen BK1198.out 2; have hfz77_3 := blk_frozen BK1198.out 3; have hfz77_4 := blk_frozen BK1198.out 4) | ((with_reducible refine gate_callee (f := 19) rfl ?_); refine goesL_ (some 77) rfl rfl Tryd.func19 (by kernel_rfl) rfl #[.agg #[.slice Ao18 t1186.length co18, .int .i64 t1189, .bool t1190, .slice Ao21 t1191.length co21, .slice Ao22 t1194.length co22], .string (rdOf ByteArray.empty y1214 (ji56))] rfl (by (try simp only [List.map_toArray, List.map_cons, List.map_nil]); first | done | (simp only [hji56]; rfl) | rfl | (simp only [List.length_drop, List.length_take]; rfl)) ?_; (with_reducible refine (impl_PsalmSing.calls kj8 _ _ t1186 t1189 t1190 _ _ t1191 _ _ t1194 (rdOf ByteArray.empty y1214 (ji56)) t1222 t1225 _ ?side1 ?side2 ?side3 ?side4 ?side5 ?side6 ?side7 A60.out).mono ?_); (case side1 => repeat (first | exact (Kd.R_reads' HO_1199000.out).2.2 | refine C_q ?_)); (case side2 => exact (Kd.R_reads' HO_1199000.out).2.1); (case side3 => repeat (first | exact (Kd.R_reads' HO_1199003.out).2.2 | refine C_q ?_)); (case side4 => exact (Kd.R_reads' HO_1199003.out).2.1); (case side5 => repeat (first | exact (Kd.R_reads' HO_1199004.out).2.2 | refine C_q ?_)); (case side6 => exact (Kd.R_reads' HO_1199004.out).2.1); (case side7 => exact GOk.sub (GOk.below HG.out upH) (by decide)); rintro e w78 ⟨v1223, rfl, ho0, hb⟩; refine ⟨_, rfl, ?_⟩; have n0_ := Q0_ (Kd.R_elder' (upR HO_1186000) (Kd.R_base ho0) hb); have n1_ := Q0_ (Kd.R_elder' (upR HO_1186003) (Kd.R_base ho0) hb); have n2_ := Q0_ (Kd.R_elder' (upR HO_1186004) (Kd.R_base ho0) hb); have n3_ := Q0_ (Kd.R_elder' (upR HO_1199000) (Kd.R_base ho0) hb); have n4_ := Q0_ (Kd.R_elder' (upR HO_1199003) (Kd.R_base ho0) hb); have n5_ := Q0_ (Kd.R_elder' (upR HO_1199004) (Kd.R_base ho0) hb); have n6_ := Q0_ (Kd.R_elder' (upR HO_1212000) (Kd.R_base ho0) hb); have n7_ := Q0_ (Kd.R_elder' (upR HO_1212003) (Kd.R_base ho0) hb); have n8_ := Q0_ (Kd.R_elder' (upR HO_1212004) (Kd.R_base ho0) hb); have n9_ := Q0_ (Kd.R_below (upR HO1216) hb); have n10_ := Q0_ (Kd.R_elder' (upR HO1220) (Kd.R_base ho0) hb); have n11_ := Q0_ (Kd.R_lower (Kd.R_new' (Kd.R_new' (Kd.R_new' (Kd.R_new' (Kd.R_new' (Kd.R_new' (Kd.R_new' (Kd.R_new' (Kd.R_new' (Kd.R_new' ho0 (Kd.R_lt (upR HO_1186000))) (Kd.R_lt (upR HO_1186003))) (Kd.R_lt (upR HO_1186004))) (Kd.R_lt (upR HO_1199000))) (Kd.R_lt (upR HO_1199003))) (Kd.R_lt (upR HO_1199004))) (Kd.R_lt (upR HO_1212000))) (Kd.R_lt (upR HO_1212003))) (Kd.R_lt (upR HO_1212004))) (Kd.R_lt (upR HO1220))) (below_size upH)); have n12_ := Q0_ (blk_below (upK BK1185) hb); have n13_ := Q0_ (blk_below (upK BK1198) hb); have n14_ := Q0_ (blk_below (upK BK1211) hb); have n15_ := Q0_ (below_step upH hb); clear HO_1186000 HO_1186003 HO_1186004 HO_1199000 HO_1199003 HO_1199004 HO_1212000 HO_1212003 HO_1212004 HO1216 HO1220 BK1185 BK1198 BK1211 HB; revert n0_ n1_ n2_ n3_ n4_ n5_ n6_ n7_ n8_ n9_ n10_ n11_ n12_ n13_ n14_ n15_; intro HO_1186000 HO_1186003 HO_1186004 HO_1199000 HO_1199003 HO_1199004 HO_1212000 HO_1212003 HO_1212004 HO1216 HO1220 HO1224 BK1185 BK1198 BK1211 HB; (try clear hb); (try clear hb2); (try clear hk); (try clear hi); (try clear ho0)))
     have n0_ := Q0_ (Kd.R_drew HO_1186000.out)
     have n1_ := Q0_ (Kd.R_drew HO_1186003.out)
     have n2_ := Q0_ (Kd.R_drew HO_1186004.out)
     have n3_ := Q0_ (Kd.R_drew HO_1199000.out)
     have n4_ := Q0_ (Kd.R_drew HO_1199003.out)
     have n5_ := Q0_ (Kd.R_drew HO_1199004.out)
     have n6_ := Q0_ (Kd.R_drew HO_1212000.out)
     have n7_ := Q0_ (Kd.R_drew HO_1212003.out)
     have n8_ := Q0_ (Kd.R_drew HO_1212004.out)
     have n9_ := Q0_ (Kd.R_drew HO1216.out)
     have n10_ := Q0_ (Kd.R_drew HO1220.out)
     have n11_ := Q0_ (Kd.R_drew HO1224.out)
     have n12_ := Q0_ (blk_drew BK1185.out)
     have n13_ := Q0_ (blk_drew BK1198.out)
     have n14_ := Q0_ (blk_drew BK1211.out)
     have n15_ := Q0_ (below_drew1 HB.out)
     clear HO_1186000 HO_1186003 HO_1186004 HO_1199000 HO_1199003 HO_1199004 HO_1212000 HO_1212003 HO_1212004 HO1216 HO1220 HO1224 BK1185 BK1198 BK1211 HB; revert n0_ n1_ n2_ n3_ n4_ n5_ n6_ n7_ n8_ n9_ n10_ n11_ n12_ n13_ n14_ n15_; intro HO_1186000 HO_1186003 HO_1186004 HO_1199000 HO_1199003 HO_1199004 HO_1212000 HO_1212003 HO_1212004 HO1216 HO1220 HO1224 BK1185 BK1198 BK1211 HB
     refine start_ (n := 26) (S := fun w' => w'.cell? ⟨gb1198, 0, none⟩ = some (.slice Ao18 t1186.length co18) ∧ w'.cell? ⟨gb1198, 1, none⟩ = some (.int .i64 t1189) ∧ w'.cell? ⟨gb1198, 2, none⟩ = some (.bool t1190) ∧ w'.cell? ⟨gb1198, 3, none⟩ = some (.slice Ao21 t1191.length co21) ∧ w'.cell? ⟨gb1198, 4, none⟩ = some (.slice Ao22 t1194.length co22) ∧ w'.cell? ⟨gb1185, 0, none⟩ = some (.slice Ao12 t1173.length co12) ∧ w'.cell? ⟨gb1185, 1, none⟩ = some (.int .i64 t1176) ∧ w'.cell? ⟨gb1185, 2, none⟩ = some (.bool t1177) ∧ w'.cell? ⟨gb1185, 3, none⟩ = some (.slice Ao14 t1178.length co14) ∧ w'.cell? ⟨gb1185, 4, none⟩ = some (.slice Ao15 t1181.length co15)) (ds := []) #[ff,ff,ff,ff,ff,ff,ff,ff,ff,ff,ff,ff,ff,ff,ff,ff,ff,ff,ff,ff,ff,ff,ff,ff,ff,ff] (by kernel_rfl) rfl rfl ⟨(blk_cell BK1198.out 0).trans rfl, (blk_cell BK1198.out 1).trans rfl, (blk_cell BK1198.out 2).trans rfl, (blk_cell BK1198.out 3).trans rfl, (blk_cell BK1198.out 4).trans rfl, (blk_cell BK1185.out 0).trans rfl, (blk_cell BK1185.out 1).trans rfl, (blk_cell BK1185.out 2).trans rfl, (blk_cell BK1185.out 3).trans rfl, (blk_cell BK1185.out 4).trans rfl⟩ (fun hHeld => ?_); refine with_tabW laws_FnPsalmMove.tab11 laws_FnPsalmMove.bits11 (fun HT_ HW_ => ?_)
     generalize w78.drew = w79 at HO_1186000 HO_1186003 HO_1186004 HO_1199000 HO_1199003 HO_1199004 HO_1212000 HO_1212003 HO_1212004 HO1216 HO1220 HO1224 BK1185 BK1198 BK1211 HB hHeld ⊢
     refine pQ HT_ 1 (some 81) #[ff,tt,ff,ff,ff,ff,ff,ff,ff,ff,ff,ff,ff,ff,ff,ff,ff,ff,ff,ff,ff,ff,ff,ff,ff,ff] rfl rfl ?_
     refine pQ HT_ 4 (some 84) #[ff,tt,ff,ff,tt,ff,ff,ff,ff,ff,ff,ff,ff,ff,ff,ff,ff,ff,ff,ff,ff,ff,ff,ff,ff,ff] rfl rfl ?_
     refine tQ HT_ HW_ 0 (some 80) #[tt,tt,ff,ff,tt,ff,ff,ff,ff,ff,ff,ff,ff,ff,ff,ff,ff,ff,ff,ff,ff,ff,ff,ff,ff,ff] rfl rfl hHeld (by rintro w' ⟨s0, s1, s2, s3, s4, s5, s6, s7, s8, s9⟩; go_simp; with_reducible rfl) ?_
     refine tQ HT_ HW_ 3 (some 83) #[tt,tt,ff,tt,tt,ff,ff,ff,ff,ff,ff,ff,ff,ff,ff,ff,ff,ff,ff,ff,ff,ff,ff,ff,ff,ff] rfl rfl hHeld (by rintro w' ⟨s0, s1, s2, s3, s4, s5, s6, s7, s8, s9⟩; go_simp; with_reducible rfl) ?_
     refine one_ (i := 2) (N := some 82) #[tt,tt,tt,tt,tt,ff,ff,ff,ff,ff,ff,ff,ff,ff,ff,ff,ff,ff,ff,ff,ff,ff,ff,ff,ff,ff] rfl rfl (one_of HT_.out (by kernel_rfl)) (by decide) (fun K hK => ?_)
     first | (refine goes_ Tryd.func16 (by kernel_rfl) rfl #[.agg #[.slice Ao18 t1186.length co18, .int .i64 t1189, .bool t1190, .slice Ao21 t1191.length co21, .slice Ao22 t1194.length co22], .string (rdOf ByteArray.empty y1214 (ji56))] (by rfl) rfl rfl (by (try simp only [List.map_toArray, List.map_cons, List.map_nil]); first | done | (simp only [hji56]; rfl) | rfl | (simp only [List.length_drop, List.length_take]; rfl)) ?_) | (refine goes_ Tryd.func16 (by kernel_rfl) rfl #[.agg #[.slice (some ad1217) t1186.length co18, .int .i64 t1189, .bool t1190, .slice (some ad1217) t1191.length co21, .slice (some ad1217) t1194.length co22], .string (rdOf ByteArray.empty y1214 (ji56))] (by rfl) rfl rfl (by (try simp only [List.map_toArray, List.map_cons, List.map_nil]); first | done | (simp only [hji56]; rfl) | rfl | (simp only [List.length_drop, List.length_take]; rfl)) ?_)
     with_reducible refine (impl_PsalmFits.calls kj8 _ _ t1186 t1189 t1190 _ _ t1191 _ _ t1194 (rdOf ByteArray.empty y1214 (ji56)) t1226 _ ?side1 ?side2 ?side3 ?side4 ?side5 ?side6 ?side7 A61.out).mono ?_
     (case side1 => repeat (first | exact (Kd.R_reads' HO_1199000.out).2.2 | refine C_q ?_))
     (case side2 => exact (Kd.R_reads' HO_1199000.out).2.1)
     (case side3 => repeat (first | exact (Kd.R_reads' HO_1199003.out).2.2 | refine C_q ?_))
     (case side4 => exact (Kd.R_reads' HO_1199003.out).2.1)
     (case side5 => repeat (first | exact (Kd.R_reads' HO_1199004.out).2.2 | refine C_q ?_))
     (case side6 => exact (Kd.R_reads' HO_1199004.out).2.1)
     (case side7 => exact GOk.sub (GOk.below HG.out upH) (by decide))
     rintro e w80 ⟨rfl, hb⟩
     refine ⟨_, rfl, ?_⟩
     have n0_ := Q0_ (Kd.R_below (upR HO_1186000) hb)
     have n1_ := Q0_ (Kd.R_below (upR HO_1186003) hb)
     have n2_ := Q0_ (Kd.R_below (upR HO_1186004) hb)
     have n3_ := Q0_ (Kd.R_below (upR HO_1199000) hb)
     have n4_ := Q0_ (Kd.R_below (upR HO_1199003) hb)
     have n5_ := Q0_ (Kd.R_below (upR HO_1199004) hb)
     have n6_ := Q0_ (Kd.R_below (upR HO_1212000) hb)
     have n7_ := Q0_ (Kd.R_below (upR HO_1212003) hb)
     have n8_ := Q0_ (Kd.R_below (upR HO_1212004) hb)
     have n9_ := Q0_ (Kd.R_below (upR HO1216) hb)
     have n10_ := Q0_ (Kd.R_below (upR HO1220) hb)
     have n11_ := Q0_ (Kd.R_below (upR HO1224) hb)
     have n12_ := Q0_ (blk_below (upK BK1185) hb)
     have n13_ := Q0_ (blk_below (upK BK1198) hb)
     have n14_ := Q0_ (blk_below (upK BK1211) hb)
     have n15_ := Q0_ (below_step upH hb)
     clear HO_1186000 HO_1186003 HO_1186004 HO_1199000 HO_1199003 HO_1199004 HO_1212000 HO_1212003 HO_1212004 HO1216 HO1220 HO1224 BK1185 BK1198 BK1211 HB; revert n0_ n1_ n2_ n3_ n4_ n5_ n6_ n7_ n8_ n9_ n10_ n11_ n12_ n13_ n14_ n15_; intro HO_1186000 HO_1186003 HO_1186004 HO_1199000 HO_1199003 HO_1199004 HO_1212000 HO_1212003 HO_1212004 HO1216 HO1220 HO1224 BK1185 BK1198 BK1211 HB
     (try clear hb)
     (try clear hb2)
     (try clear hk)
     (try clear hi)
     refine hK.out _ _ ⟨(blk_cell BK1198.out 0).trans rfl, (blk_cell BK1198.out 1).trans rfl, (blk_cell BK1198.out 2).trans rfl, (blk_cell BK1198.out 3).trans rfl, (blk_cell BK1198.out 4).trans rfl, (blk_cell BK1185.out 0).trans rfl, (blk_cell BK1185.out 1).trans rfl, (blk_cell BK1185.out 2).trans rfl, (blk_cell BK1185.out 3).trans rfl, (blk_cell BK1185.out 4).trans rfl⟩ (fun hHeld => ?_)
     clear hK K
     refine norm_ (a' := ?_) ?_ ?_
     rotate_left
     ·show Act.put _ (some 82) _ = _
      simp only [Act.put, sI, s0, sS, i64_w, i32_w]
      rfl
     refine one_ (i := 5) (N := some 85) #[tt,tt,tt,tt,tt,tt,ff,ff,ff,ff,ff,ff,ff,ff,ff,ff,ff,ff,ff,ff,ff,ff,ff,ff,ff,ff] rfl rfl (one_of HT_.out (by kernel_rfl)) (by decide) (fun K hK => ?_)
     first | (refine goes_ Tryd.func16 (by kernel_rfl) rfl #[.agg #[.slice Ao12 t1173.length co12, .int .i64 t1176, .bool t1177, .slice Ao14 t1178.length co14, .slice Ao15 t1181.length co15], .string (rdOf ByteArray.empty y1214 (ji56))] (by rfl) rfl rfl (by (try simp only [List.map_toArray, List.map_cons, List.map_nil]); first | done | (simp only [hji56]; rfl) | rfl | (simp only [List.length_drop, List.length_take]; rfl)) ?_) | (refine goes_ Tryd.func16 (by kernel_rfl) rfl #[.agg #[.slice (some ad1217) t1173.length co12, .int .i64 t1176, .bool t1177, .slice (some ad1217) t1178.length co14, .slice (some ad1217) t1181.length co15], .string (rdOf ByteArray.empty y1214 (ji56))] (by rfl) rfl rfl (by (try simp only [List.map_toArray, List.map_cons, List.map_nil]); first | done | (simp only [hji56]; rfl) | rfl | (simp only [List.length_drop, List.length_take]; rfl)) ?_)
     with_reducible refine (impl_PsalmFits.calls kj8 _ _ t1173 t1176 t1177 _ _ t1178 _ _ t1181 (rdOf ByteArray.empty y1214 (ji56)) t1227 _ ?side1 ?side2 ?side3 ?side4 ?side5 ?side6 ?side7 A62.out).mono ?_
     (case side1 => repeat (first | exact (Kd.R_reads' HO_1186000.out).2.2 | refine C_q ?_))
     (case side2 => exact (Kd.R_reads' HO_1186000.out).2.1)
     (case side3 => repeat (first | exact (Kd.R_reads' HO_1186003.out).2.2 | refine C_q ?_))
     (case side4 => exact (Kd.R_reads' HO_1186003.out).2.1)
     (case side5 => repeat (first | exact (Kd.R_reads' HO_1186004.out).2.2 | refine C_q ?_))
     (case side6 => exact (Kd.R_reads' HO_1186004.out).2.1)
     (case side7 => exact GOk.sub (GOk.below HG.out upH) (by decide))
     rintro e w81 ⟨rfl, hb⟩
     refine ⟨_, rfl, ?_⟩
     have n0_ := Q0_ (Kd.R_below (upR HO_1186000) hb)
     have n1_ := Q0_ (Kd.R_below (upR HO_1186003) hb)
     have n2_ := Q0_ (Kd.R_below (upR HO_1186004) hb)
     have n3_ := Q0_ (Kd.R_below (upR HO_1199000) hb)
     have n4_ := Q0_ (Kd.R_below (upR HO_1199003) hb)
     have n5_ := Q0_ (Kd.R_below (upR HO_1199004) hb)
     have n6_ := Q0_ (Kd.R_below (upR HO_1212000) hb)
     have n7_ := Q0_ (Kd.R_below (upR HO_1212003) hb)
     have n8_ := Q0_ (Kd.R_below (upR HO_1212004) hb)
     have n9_ := Q0_ (Kd.R_below (upR HO1216) hb)
     have n10_ := Q0_ (Kd.R_below (upR HO1220) hb)
     have n11_ := Q0_ (Kd.R_below (upR HO1224) hb)
     have n12_ := Q0_ (blk_below (upK BK1185) hb)
     have n13_ := Q0_ (blk_below (upK BK1198) hb)
     have n14_ := Q0_ (blk_below (upK BK1211) hb)
     have n15_ := Q0_ (below_step upH hb)
     clear HO_1186000 HO_1186003 HO_1186004 HO_1199000 HO_1199003 HO_1199004 HO_1212000 HO_1212003 HO_1212004 HO1216 HO1220 HO1224 BK1185 BK1198 BK1211 HB; revert n0_ n1_ n2_ n3_ n4_ n5_ n6_ n7_ n8_ n9_ n10_ n11_ n12_ n13_ n14_ n15_; intro HO_1186000 HO_1186003 HO_1186004 HO_1199000 HO_1199003 HO_1199004 HO_1212000 HO_1212003 HO_1212004 HO1216 HO1220 HO1224 BK1185 BK1198 BK1211 HB
     (try clear hb)
     (try clear hb2)
     (try clear hk)
     (try clear hi)
     obtain ⟨Ao82, co82, eo82⟩ := Kd.R_slice HO1220.out
     (first | subst eo82 | (injection eo82 with f1_ f2_ f3_; have f4_ := f1_.symm; have f5_ := f3_.symm; clear f1_ f2_ f3_; subst f4_; subst f5_))
     obtain ⟨Ao83, co83, eo83⟩ := Kd.R_slice HO1224.out
     (first | subst eo83 | (injection eo83 with f1_ f2_ f3_; have f4_ := f1_.symm; have f5_ := f3_.symm; clear f1_ f2_ f3_; subst f4_; subst f5_))
     refine hK.out _ _ ⟨(blk_cell BK1198.out 0).trans rfl, (blk_cell BK1198.out 1).trans rfl, (blk_cell BK1198.out 2).trans rfl, (blk_cell BK1198.out 3).trans rfl, (blk_cell BK1198.out 4).trans rfl, (blk_cell BK1185.out 0).trans rfl, (blk_cell BK1185.out 1).trans rfl, (blk_cell BK1185.out 2).trans rfl, (blk_cell BK1185.out 3).trans rfl, (blk_cell BK1185.out 4).trans rfl⟩ (fun hHeld => ?_)
     clear hK K
     refine norm_ (a' := ?_) ?_ ?_
     rotate_left
     ·show Act.put _ (some 85) _ = _
      simp only [Act.put, sI, s0, sS, i64_w, i32_w]
      rfl
     refine pQ HT_ 6 (some 86) #[tt,tt,tt,tt,tt,tt,tt,ff,ff,ff,ff,ff,ff,ff,ff,ff,ff,ff,ff,ff,ff,ff,ff,ff,ff,ff] rfl rfl ?_
     refine pQ HT_ 7 (some 87) #[tt,tt,tt,tt,tt,tt,tt,tt,ff,ff,ff,ff,ff,ff,ff,ff,ff,ff,ff,ff,ff,ff,ff,ff,ff,ff] rfl rfl ?_
     refine pQ HT_ 8 (some 88) #[tt,tt,tt,tt,tt,tt,tt,tt,tt,ff,ff,ff,ff,ff,ff,ff,ff,ff,ff,ff,ff,ff,ff,ff,ff,ff] rfl rfl ?_
     refine pQ HT_ 9 (some 89) #[tt,tt,tt,tt,tt,tt,tt,tt,tt,tt,ff,ff,ff,ff,ff,ff,ff,ff,ff,ff,ff,ff,ff,ff,ff,ff] rfl rfl ?_
     refine pQ HT_ 10 (some 90) #[tt,tt,tt,tt,tt,tt,tt,tt,tt,tt,tt,ff,ff,ff,ff,ff,ff,ff,ff,ff,ff,ff,ff,ff,ff,ff] rfl rfl ?_
     refine pQ HT_ 11 (some 91) #[tt,tt,tt,tt,tt,tt,tt,tt,tt,tt,tt,tt,ff,ff,ff,ff,ff,ff,ff,ff,ff,ff,ff,ff,ff,ff] rfl rfl ?_
     refine pQ HT_ 12 (some 92) #[tt,tt,tt,tt,tt,tt,tt,tt,tt,tt,tt,tt,tt,ff,ff,ff,ff,ff,ff,ff,ff,ff,ff,ff,ff,ff] rfl rfl ?_
     refine pQ HT_ 13 (some 93) #[tt,tt,tt,tt,tt,tt,tt,tt,tt,tt,tt,tt,tt,tt,ff,ff,ff,ff,ff,ff,ff,ff,ff,ff,ff,ff] rfl rfl ?_
     refine pQ HT_ 14 (some 94) #[tt,tt,tt,tt,tt,tt,tt,tt,tt,tt,tt,tt,tt,tt,tt,ff,ff,ff,ff,ff,ff,ff,ff,ff,ff,ff] rfl rfl ?_
     refine pQ HT_ 15 (some 95) #[tt,tt,tt,tt,tt,tt,tt,tt,tt,tt,tt,tt,tt,tt,tt,tt,ff,ff,ff,ff,ff,ff,ff,ff,ff,ff] rfl rfl ?_
     refine pQ HT_ 16 (some 96) #[tt,tt,tt,tt,tt,tt,tt,tt,tt,tt,tt,tt,tt,tt,tt,tt,tt,ff,ff,ff,ff,ff,ff,ff,ff,ff] rfl rfl ?_
     refine pQ HT_ 17 (some 97) #[tt,tt,tt,tt,tt,tt,tt,tt,tt,tt,tt,tt,tt,tt,tt,tt,tt,tt,ff,ff,ff,ff,ff,ff,ff,ff] rfl rfl ?_
     refine one_ (i := 18) (N := some 98) #[tt,tt,tt,tt,tt,tt,tt,tt,tt,tt,tt,tt,tt,tt,tt,tt,tt,tt,tt,ff,ff,ff,ff,ff,ff,ff] rfl rfl (one_of HT_.out (by kernel_rfl)) (by decide) (fun K hK => ?_)
     first | (refine goes_ Tryd.func55 (by kernel_rfl) rfl #[.slice Ao82 t1218.length co82, .slice Ao83 t1222.length co83] (by rfl) rfl rfl hM ?_) | (refine goes_ Tryd.func55 (by kernel_rfl) rfl #[.slice (some ad1217) t1218.length co82, .slice (some ad1217) t1222.length co83] (by rfl) rfl rfl hM ?_)
     with_reducible refine (impl_MelodySame.calls kj8 _ _ t1218 _ _ t1222 true _ ?side1 ?side2 ?side3 ?side4 ?side5 A66.out).mono ?_
     (case side1 => repeat (first | exact (Kd.R_reads' HO1220.out).2.2 | refine C_q ?_))
     (case side2 => exact (Kd.R_reads' HO1220.out).2.1)
     (case side3 => repeat (first | exact (Kd.R_reads' HO1224.out).2.2 | refine C_q ?_))
     (case side4 => exact (Kd.R_reads' HO1224.out).2.1)
     (case side5 => exact GOk.sub (GOk.below HG.out upH) (by decide))
     rintro e w84 ⟨rfl, hb⟩
     refine ⟨_, rfl, ?_⟩
     have n0_ := Q0_ (Kd.R_below (upR HO_1186000) hb)
     have n1_ := Q0_ (Kd.R_below (upR HO_1186003) hb)
     have n2_ := Q0_ (Kd.R_below (upR HO_1186004) hb)
     have n3_ := Q0_ (Kd.R_below (upR HO_1199000) hb)
     have n4_ := Q0_ (Kd.R_below (upR HO_1199003) hb)
     have n5_ := Q0_ (Kd.R_below (upR HO_1199004) hb)
     have n6_ := Q0_ (Kd.R_below (upR HO_1212000) hb)
     have n7_ := Q0_ (Kd.R_below (upR HO_1212003) hb)
     have n8_ := Q0_ (Kd.R_below (upR HO_1212004) hb)
     have n9_ := Q0_ (Kd.R_below (upR HO1216) hb)
     have n10_ := Q0_ (Kd.R_below (upR HO1220) hb)
     have n11_ := Q0_ (Kd.R_below (upR HO1224) hb)
     have n12_ := Q0_ (blk_below (upK BK1185) hb)
     have n13_ := Q0_ (blk_below (upK BK1198) hb)
     have n14_ := Q0_ (blk_below (upK BK1211) hb)
     have n15_ := Q0_ (below_step upH hb)
     clear HO_1186000 HO_1186003 HO_1186004 HO_1199000 HO_1199003 HO_1199004 HO_1212000 HO_1212003 HO_1212004 HO1216 HO1220 HO1224 BK1185 BK1198 BK1211 HB; revert n0_ n1_ n2_ n3_ n4_ n5_ n6_ n7_ n8_ n9_ n10_ n11_ n12_ n13_ n14_ n15_; intro HO_1186000 HO_1186003 HO_1186004 HO_1199000 HO_1199003 HO_1199004 HO_1212000 HO_1212003 HO_1212004 HO1216 HO1220 HO1224 BK1185 BK1198 BK1211 HB
     (try clear hb)
     (try clear hb2)
     (try clear hk)
     (try clear hi)
     refine hK.out _ _ ⟨(blk_cell BK1198.out 0).trans rfl, (blk_cell BK1198.out 1).trans rfl, (blk_cell BK1198.out 2).trans rfl, (blk_cell BK1198.out 3).trans rfl, (blk_cell BK1198.out 4).trans rfl, (blk_cell BK1185.out 0).trans rfl, (blk_cell BK1185.out 1).trans rfl, (blk_cell BK1185.out 2).trans rfl, (blk_cell BK1185.out 3).trans rfl, (blk_cell BK1185.out 4).trans rfl⟩ (fun hHeld => ?_)
     clear hK K
     refine norm_ (a' := ?_) ?_ ?_
     rotate_left
     ·show Act.put _ (some 98) _ = _
      simp only [Act.put, sI, s0, sS, i64_w, i32_w]
      rfl
     refine pQ HT_ 19 (some 99) #[tt,tt,tt,tt,tt,tt,tt,tt,tt,tt,tt,tt,tt,tt,tt,tt,tt,tt,tt,tt,ff,ff,ff,ff,ff,ff] rfl rfl ?_
     refine pQ HT_ 20 (some 100) #[tt,tt,tt,tt,tt,tt,tt,tt,tt,tt,tt,tt,tt,tt,tt,tt,tt,tt,tt,tt,tt,ff,ff,ff,ff,ff] rfl rfl ?_
     refine pQ HT_ 21 (some 101) #[tt,tt,tt,tt,tt,tt,tt,tt,tt,tt,tt,tt,tt,tt,tt,tt,tt,tt,tt,tt,tt,tt,ff,ff,ff,ff] rfl rfl ?_
     refine tQ HT_ HW_ 22 (some 102) #[tt,tt,tt,tt,tt,tt,tt,tt,tt,tt,tt,tt,tt,tt,tt,tt,tt,tt,tt,tt,tt,tt,tt,ff,ff,ff] rfl rfl hHeld (by rintro w' ⟨s0, s1, s2, s3, s4, s5, s6, s7, s8, s9⟩; go_simp; with_reducible rfl) ?_
     refine one_ (i := 23) (N := some 103) #[tt,tt,tt,tt,tt,tt,tt,tt,tt,tt,tt,tt,tt,tt,tt,tt,tt,tt,tt,tt,tt,tt,tt,tt,ff,ff] rfl rfl (one_of HT_.out (by kernel_rfl)) (by decide) (fun K hK => ?_)
     first | (refine goes_ Tryd.func20 (by kernel_rfl) rfl #[.agg #[.slice Ao18 t1186.length co18, .int .i64 t1189, .bool t1190, .slice Ao21 t1191.length co21, .slice Ao22 t1194.length co22]] (by rfl) rfl rfl hM ?_) | (refine goes_ Tryd.func20 (by kernel_rfl) rfl #[.agg #[.slice (some ad1217) t1186.length co18, .int .i64 t1189, .bool t1190, .slice (some ad1217) t1191.length co21, .slice (some ad1217) t1194.length co22]] (by rfl) rfl rfl hM ?_)
     with_reducible refine (impl_PsalmValid.calls kj8 _ _ t1186 t1189 t1190 _ _ t1191 _ _ t1194 t1229 _ ?side1 ?side2 ?side3 ?side4 ?side5 ?side6 A68.out).mono ?_
     (case side1 => repeat (first | exact (Kd.R_reads' HO_1199000.out).2.2 | refine C_q ?_))
     (case side2 => exact (Kd.R_reads' HO_1199000.out).2.1)
     (case side3 => repeat (first | exact (Kd.R_reads' HO_1199003.out).2.2 | refine C_q ?_))
     (case side4 => exact (Kd.R_reads' HO_1199003.out).2.1)
     (case side5 => repeat (first | exact (Kd.R_reads' HO_1199004.out).2.2 | refine C_q ?_))
     (case side6 => exact (Kd.R_reads' HO_1199004.out).2.1)
     rintro e w85 ⟨rfl, hb⟩
     refine ⟨_, rfl, ?_⟩
     have n0_ := Q0_ (Kd.R_below (upR HO_1186000) hb)
     have n1_ := Q0_ (Kd.R_below (upR HO_1186003) hb)
     have n2_ := Q0_ (Kd.R_below (upR HO_1186004) hb)
     have n3_ := Q0_ (Kd.R_below (upR HO_1199000) hb)
     have n4_ := Q0_ (Kd.R_below (upR HO_1199003) hb)
     have n5_ := Q0_ (Kd.R_below (upR HO_1199004) hb)
     have n6_ := Q0_ (Kd.R_below (upR HO_1212000) hb)
     have n7_ := Q0_ (Kd.R_below (upR HO_1212003) hb)
     have n8_ := Q0_ (Kd.R_below (upR HO_1212004) hb)
     have n9_ := Q0_ (Kd.R_below (upR HO1216) hb)
     have n10_ := Q0_ (Kd.R_below (upR HO1220) hb)
     have n11_ := Q0_ (Kd.R_below (upR HO1224) hb)
     have n12_ := Q0_ (blk_below (upK BK1185) hb)
     have n13_ := Q0_ (blk_below (upK BK1198) hb)
     have n14_ := Q0_ (blk_below (upK BK1211) hb)
     have n15_ := Q0_ (below_step upH hb)
     clear HO_1186000 HO_1186003 HO_1186004 HO_1199000 HO_1199003 HO_1199004 HO_1212000 HO_1212003 HO_1212004 HO1216 HO1220 HO1224 BK1185 BK1198 BK1211 HB; revert n0_ n1_ n2_ n3_ n4_ n5_ n6_ n7_ n8_ n9_ n10_ n11_ n12_ n13_ n14_ n15_; intro HO_1186000 HO_1186003 HO_1186004 HO_1199000 HO_1199003 HO_1199004 HO_1212000 HO_1212003 HO_1212004 HO1216 HO1220 HO1224 BK1185 BK1198 BK1211 HB
     (try clear hb)
     (try clear hb2)
     (try clear hk)
     (try clear hi)
     refine hK.out _ _ ⟨(blk_cell BK1198.out 0).trans rfl, (blk_cell BK1198.out 1).trans rfl, (blk_cell BK1198.out 2).trans rfl, (blk_cell BK1198.out 3).trans rfl, (blk_cell BK1198.out 4).trans rfl, (blk_cell BK1185.out 0).trans rfl, (blk_cell BK1185.out 1).trans rfl, (blk_cell BK1185.out 2).trans rfl, (blk_cell BK1185.out 3).trans rfl, (blk_cell BK1185.out 4).trans rfl⟩ (fun hHeld => ?_)
     clear hK K
     refine norm_ (a' := ?_) ?_ ?_
     rotate_left
     ·show Act.put _ (some 103) _ = _
      simp only [Act.put, sI, s0, sS, i64_w, i32_w]
      rfl
     refine pQ HT_ 24 (some 104) #[tt,tt,tt,tt,tt,tt,tt,tt,tt,tt,tt,tt,tt,tt,tt,tt,tt,tt,tt,tt,tt,tt,tt,tt,tt,ff] rfl rfl ?_
     refine pQ HT_ 25 (some 4) #[tt,tt,tt,tt,tt,tt,tt,tt,tt,tt,tt,tt,tt,tt,tt,tt,tt,tt,tt,tt,tt,tt,tt,tt,tt,tt] rfl rfl ?_
     refine done_ (done_of HT_.out (by kernel_rfl)) ?_
     try go_wp2
     go_ret
     exact ⟨by first | rfl | (simp [errW_none, errW_some] <;> rfl) | (simp only [← hji56]; first | rfl | (simp [errW_none, errW_some] <;> rfl)) | (simp [*, errW_none, errW_some] <;> rfl), by repeat (first | (with_reducible first | exact HB.out | apply below_alloc | apply pw_below_drewN | apply below_drew1 | refine below_set ?_ GE1185.out | refine below_set ?_ GE1198.out | refine below_set ?_ GE1211.out) | exact HB.out)⟩
def laws_FnPsalmMove.Pure : Prop := ∀ (l0 : List Int) (l1 : List Int), l0.length ≤ maxLen → l0.length * 1 ≤ 140737488351232 → (∀ x ∈ l0, (Lit.int .u8 x).wf = true) → l1.length ≤ maxLen → l1.length * 1 ≤ 140737488351232 → (∀ x ∈ l1, (Lit.int .u8 x).wf = true) → ∃ k, laws_FnPsalmMove.f k l0 l1 = some true
end Go.Proofs.YtdgmkfbmeaalpaaDoor.E
end
section
namespace Go.Proofs.YtdgmkfbmeaalpaaDoor.Pur
open Go.RowKit Go.Proofs.YtdgmkfbmeaalpaaDoorW.PrintWords
def EvP {α : Type} (g : Nat → Option α) (P : α → Prop) : Prop := ∃ r, Ev g r ∧ P r
section
variable {α β : Type}
theorem EvP.bind {g : Nat → Option α} {f : Nat → α → Option β} {P : α → Prop} {Q : β → Prop} (h : EvP g P) (k : ∀ a, P a → EvP (fun n => f n a) Q) : EvP (fun n => (g n).bind (f n)) Q := by
  obtain ⟨a, ha, hp⟩ := h
  obtain ⟨b, hb, hq⟩ := k a hp
  exact ⟨b, Ev.bind ha hb, hq⟩
theorem EvP.ret {P : α → Prop} {r : α} (h : P r) : EvP (fun _ => some r) P := ⟨r, Ev.now r, h⟩
theorem EvP.con {o : Option α} {P : α → Prop} {r : α} (h : o = some r) (hp : P r) : EvP (fun _ => o) P := by subst h; exact .ret hp
theorem EvP.ite {c : Prop} [Decidable c] {f g : Nat → Option α} {P : α → Prop} (h : c → EvP f P) (k : ¬ c → EvP g P) : EvP (fun n => if c then f n else g n) P := by
  by_cases hc : c
  · obtain ⟨r, hr, hp⟩ := h hc
    exact ⟨r, Ev.congr (fun n => if_pos hc) hr, hp⟩
  · obtain ⟨r, hr, hp⟩ := k hc
    exact ⟨r, Ev.congr (fun n => if_neg hc) hr, hp⟩
theorem EvP.yes {c : Prop} [Decidable c] {f g : Nat → Option α} {P : α → Prop} (hc : c) (h : EvP f P) : EvP (fun n => if c then f n else g n) P := .ite (fun _ => h) (fun k => absurd hc k)
theorem EvP.no {c : Prop} [Decidable c] {f g : Nat → Option α} {P : α → Prop} (hc : ¬ c) (h : EvP g P) : EvP (fun n => if c then f n else g n) P := .ite (fun k => absurd k hc) (fun _ => h)
theorem EvP.step {g f : Nat → Option α} {P : α → Prop} (h : ∀ k, g (k + 1) = f k) (k : EvP f P) : EvP g P := by
  obtain ⟨r, hr, hp⟩ := k
  exact ⟨r, Ev.step h hr, hp⟩
theorem EvP.succ {g : Nat → Option α} {P : α → Prop} (k : EvP (fun n => g (n + 1)) P) : EvP g P := EvP.step (fun _ => rfl) k
theorem EvP.mono {g : Nat → Option α} {P Q : α → Prop} (h : EvP g P) (k : ∀ r, P r → Q r) : EvP g Q := by
  obtain ⟨r, hr, hp⟩ := h
  exact ⟨r, hr, k r hp⟩
theorem EvP.rounds {g : Nat → Option α} {r : α} (h : EvP g (· = r)) : ∃ k, g k = some r := by
  obtain ⟨_, hr, rfl⟩ := h
  exact hr.rounds
end
structure Hd (p : Prop) : Prop where mk :: (out : p)
theorem w64 {i : Int} (h0 : -9223372036854775808 ≤ i) (h1 : i ≤ 9223372036854775807) : wrap64 i = i := by unfold wrap64; omega
theorem tmod_pos {a : Int} (b : Int) (h : 0 ≤ a) : Int.tmod a b = a % b := Int.tmod_eq_emod_of_nonneg h
theorem tdiv_pos {a : Int} (b : Int) (h : 0 ≤ a) : Int.tdiv a b = a / b := Int.tdiv_eq_ediv_of_nonneg h
theorem toNat_nat (n : Nat) : ((n : Int)).toNat = n := rfl
theorem toNat_succ (n : Nat) : ((n : Int) + 1).toNat = n + 1 := by omega
end Go.Proofs.YtdgmkfbmeaalpaaDoor.Pur
end
section
namespace Go.Proofs.YtdgmkfbmeaalpaaDoor.Pur
open Go.RowKit Go.Proofs.YtdgmkfbmeaalpaaDoorW.PrintWords Go.Proofs.YtdgmkfbmeaalpaaDoor.E
def okT (t : S25) : Bool := decide (0 ≤ t.f0) && decide (t.f0 ≤ 20) && (!t.f1 || decide (t.f0 % 7 = 2))
def okM (l : List S25) : Bool := l.all okT && decide (l.length ≤ 24)
theorem spec_valid (t : S25) : spec_ToneValid.f t.f0 t.f1 = some (okT t) := by
  obtain ⟨s, b⟩ := t
  unfold spec_ToneValid.f spec_l6In.f spec_l1Letter.f okT
  by_cases h0 : s ≥ 0
  · rw [if_pos h0]
    by_cases h1 : s ≤ 20
    · cases b <;> simp [h0, h1, tmod_pos, Bool.beq_eq_decide_eq]
    · simp [h0, h1]
  · simp [h0]
theorem impl_valid (t : S25) : impl_Tone_valid.f t.f0 t.f1 = some (okT t) := by
  obtain ⟨s, b⟩ := t
  unfold impl_Tone_valid.f okT
  by_cases h0 : s ≥ 0
  · rw [if_pos h0]
    by_cases h1 : s ≤ 20
    · cases b <;> simp [h0, h1, tmod_pos, Bool.beq_eq_decide_eq]
    · simp [h0, h1]
  · simp [h0]
theorem rdT_lt {l : List S25} {i : Nat} (h : i < l.length) : rd_T25 l (i : Int) = l[i] := by
  unfold rd_T25
  rw [toNat_nat, List.getD_eq_getElem?_getD, List.getElem?_eq_getElem h]
  rfl
theorem all_drop {l : List S25} {i : Nat} (h : i < l.length) : (l.drop i).all okT = (okT l[i] && (l.drop (i + 1)).all okT) := by
  rw [List.drop_eq_getElem_cons h, List.all_cons]
theorem spec_melody_loop (l : List S25) (hl : l.length < 9223372036854775807) : ∀ d i : Nat, i + d = l.length → EvP (fun k => spec_MelodyValid.l0 k l (i : Int)) (· = ((l.drop i).all okT && decide (l.length ≤ 24))) := by
  intro d
  induction d with
  | zero =>
    intro i hi
    refine EvP.succ ?_
    simp only [spec_MelodyValid.l0]
    refine (EvP.no (by omega) (EvP.ret ?_))
    rw [List.drop_of_length_le (by omega)]
    simp only [List.all_nil, Bool.true_and]
    by_cases h : l.length ≤ 24
    · have : (l.length : Int) ≤ 24 := by omega
      simp [h, this]
    · have : ¬ (l.length : Int) ≤ 24 := by omega
      simp [h, this]
  | succ d ih =>
    intro i hi
    have hlt : i < l.length := by omega
    refine EvP.step (fun k => rfl) (EvP.yes (by omega) (EvP.yes (by omega) ?_))
    rw [rdT_lt hlt, all_drop hlt]
    refine EvP.bind (P := (· = okT l[i])) (EvP.con (spec_valid _) rfl) (fun _ e => ?_)
    subst e
    refine EvP.ite (fun h => ?_) (fun h => EvP.ret ?_)
    · rw [w64 (by omega) (by omega), h, Bool.true_and]
      exact ih (i + 1) (by omega)
    · simp [h]
theorem spec_melody (l : List S25) (hl : l.length < 9223372036854775807) : EvP (fun k => spec_MelodyValid.f k l) (· = okM l) := spec_melody_loop l hl l.length 0 (by omega)
theorem impl_melody_loop (l : List S25) (hl : l.length ≤ 24) : ∀ d i : Nat, i + d = l.length → EvP (fun k => impl_MelodyValid.l0 k l (l.length : Int) (i : Int)) (· = (l.drop i).all okT) := by
  intro d
  induction d with
  | zero =>
    intro i hi
    refine EvP.step (fun k => rfl) (EvP.no (by omega) (EvP.ret ?_))
    rw [List.drop_of_length_le (by omega)]
    rfl
  | succ d ih =>
    intro i hi
    have hlt : i < l.length := by omega
    refine EvP.step (fun k => rfl) (EvP.yes (by omega) (EvP.yes (by omega) ?_))
    try refine EvP.yes (by omega) ?_
    rw [rdT_lt hlt, all_drop hlt]
    refine EvP.bind (P := (· = okT l[i])) (EvP.con (impl_valid _) rfl) (fun _ e => ?_)
    subst e
    refine EvP.ite (fun h => ?_) (fun h => EvP.ret ?_)
    · rw [w64 (by omega) (by omega), h, Bool.true_and]
      exact ih (i + 1) (by omega)
    · simp [h]
theorem impl_melody (l : List S25) : EvP (fun k => impl_MelodyValid.f k l) (· = okM l) := by
  unfold impl_MelodyValid.f
  refine EvP.ite (fun h => EvP.ret ?_) (fun h => ?_)
  · simp [okM]; intro; omega
  · have hl : l.length ≤ 24 := by omega
    refine (impl_melody_loop l hl l.length 0 (by omega)).mono (fun r e => ?_)
    rw [e]
    simp [okM, hl]
def above (s k : Int) (b : Bool) : Int × Bool × Bool := if -20 ≤ k ∧ k ≤ 20 ∧ okT ⟨s + k, b⟩ = true then (s + k, b, true) else (0, false, false)
theorem impl_above {s : Int} {c : Bool} (h : okT ⟨s, c⟩ = true) (k : Int) (b : Bool) : EvP (fun n => impl_ToneAbove.f n s c k b) (· = above s k b) := by
  simp only [impl_ToneAbove.f]
  refine EvP.bind (P := (· = true)) (EvP.con (impl_valid ⟨s, c⟩) h) (fun _ e => ?_)
  subst e
  have hs : 0 ≤ s ∧ s ≤ 20 := by
    unfold okT at h
    simp only [Bool.and_eq_true, decide_eq_true_eq] at h
    exact h.1
  refine EvP.yes rfl ?_
  refine EvP.ite (fun h1 => ?_) (fun h1 => ?_)
  · refine EvP.succ ?_
    simp only [impl_ToneAbove.j0]
    refine EvP.con (if_pos trivial) ?_
    unfold above
    rw [if_neg (by omega)]
  · refine EvP.succ ?_
    simp only [impl_ToneAbove.j0]
    refine EvP.ite (fun h2 => EvP.ret ?_) (fun h2 => ?_)
    · have h3 := of_decide_eq_true h2
      unfold above
      rw [if_neg (by omega)]
    · have h3 : ¬ k > 20 := fun e => h2 (decide_eq_true e)
      have e1 : Hd (wrap64 (s + k) = s + k) := ⟨w64 (by omega) (by omega)⟩
      rw [e1.out]
      refine EvP.bind (P := (· = okT ⟨s + k, b⟩)) (EvP.con (impl_valid ⟨s + k, b⟩) rfl) (fun _ e => ?_)
      subst e
      refine EvP.ite (fun h4 => EvP.ret ?_) (fun h4 => EvP.ret ?_)
      · unfold above
        rw [if_pos ⟨by omega, by omega, h4⟩]
      · unfold above
        rw [if_neg (fun e => h4 e.2.2)]
abbrev TnM := S25
def hgt (t : TnM) : Int := heights.getD (t.f0 % 7).toNat 0 + 12 * (t.f0 / 7) - (if t.f1 = true then 1 else 0)
theorem ok_range {t : TnM} (h : okT t = true) : 0 ≤ t.f0 ∧ t.f0 ≤ 20 := by
  unfold okT at h
  simp only [Bool.and_eq_true, decide_eq_true_eq] at h
  exact h.1
theorem hgt_range {t : TnM} (h : okT t = true) : -1 ≤ hgt t ∧ hgt t ≤ 100 := by
  obtain ⟨h0, h1⟩ := ok_range h
  have hh := heights_le (t.f0 % 7).toNat
  unfold hgt
  split <;> omega
theorem impl_h {t : TnM} (h : okT t = true) : impl_Tone_height.f t.f0 t.f1 = some (hgt t) := by
  obtain ⟨h0, h1⟩ := ok_range h
  unfold impl_Tone_height.f
  rw [if_pos h0, if_pos (by omega)]
  rfl
theorem spec_h {t : TnM} (h : okT t = true) : spec_l1Height.f t.f0 t.f1 = some (hgt t) := by
  obtain ⟨h0, h1⟩ := ok_range h
  have hh := heights_le (t.f0 % 7).toNat
  unfold spec_l1Height.f spec_l1Letter.f hgt
  simp only [Option.bind_some]
  rw [tmod_pos 7 h0, tdiv_pos 7 h0, w64 (i := t.f0 / 7) (by omega) (by omega), w64 (i := 12 * (t.f0 / 7)) (by omega) (by omega)]
  have e : rd ([0, 2, 4, 5, 7, 9, 10] : List Int) (t.f0 % 7) = heights.getD (t.f0 % 7).toNat 0 := rfl
  rw [e, if_pos (by omega), if_pos (by simp; omega), w64 (i := 12 * (t.f0 / 7) + _) (by omega) (by omega)]
  by_cases hb : t.f1 = true
  · rw [if_pos hb, if_pos hb, w64 (by omega) (by omega), Int.add_comm (12 * (t.f0 / 7))]
  · rw [if_neg hb, if_neg hb, Int.add_comm (12 * (t.f0 / 7)), Int.sub_zero]
def mv1 (k m : Int) (t : TnM) : Option TnM := if okT ⟨t.f0 + k, false⟩ = true ∧ hgt ⟨t.f0 + k, false⟩ - hgt t = m then some ⟨t.f0 + k, false⟩ else if okT ⟨t.f0 + k, true⟩ = true ∧ hgt ⟨t.f0 + k, true⟩ - hgt t = m then some ⟨t.f0 + k, true⟩ else none
def mvAll (k m : Int) : List TnM → Option (List TnM)
  | [] => some []
  | t :: ts => match mv1 k m t with
    | none => none
    | some x => (mvAll k m ts).map (x :: ·)
def resM (acc : List TnM) : Option (List TnM) → List TnM × Bool
  | some r => (acc ++ r, true)
  | none => ([], false)
theorem EvP.congr_ {α : Type} {f g : Nat → Option α} {P : α → Prop} (h : ∀ n, g n = f n) (k : EvP f P) : EvP g P := by
  obtain ⟨r, hr, hp⟩ := k
  exact ⟨r, Ev.congr h hr, hp⟩
theorem resM_cons (acc : List TnM) (k m : Int) (t : TnM) (ts : List TnM) : resM acc (mvAll k m (t :: ts)) = (match mv1 k m t with | none => ([], false) | some x => resM (acc ++ [x]) (mvAll k m ts)) := by
  simp only [mvAll]
  cases mv1 k m t with
  | none => rfl
  | some x =>
    cases mvAll k m ts with
    | none => rfl
    | some r => simp [resM]
theorem try_mv {t : TnM} (ht : okT t = true) {k : Int} (hk : -20 ≤ k ∧ k ≤ 20) (m : Int) (b : Bool) {good : Nat → TnM → Option (List TnM × Bool)} {bad : Nat → Option (List TnM × Bool)} {P : List TnM × Bool → Prop}
    (hg : (okT ⟨t.f0 + k, b⟩ = true ∧ hgt ⟨t.f0 + k, b⟩ - hgt t = m) → EvP (fun n => good n ⟨t.f0 + k, b⟩) P) (hb : ¬ (okT ⟨t.f0 + k, b⟩ = true ∧ hgt ⟨t.f0 + k, b⟩ - hgt t = m) → EvP bad P) :
    EvP (fun n => mmTry n k m t b (good n) (bad n)) P := by
  simp only [mmTry]
  refine EvP.bind (impl_above ht k b) (fun _ e => ?_)
  subst e
  unfold above
  by_cases h : okT ⟨t.f0 + k, b⟩ = true
  · rw [if_pos ⟨hk.1, hk.2, h⟩]
    have r1 := hgt_range h
    have r2 := hgt_range ht
    refine EvP.yes rfl ?_
    refine EvP.bind (P := (· = hgt ⟨t.f0 + k, b⟩)) (EvP.con (impl_h h) rfl) (fun _ e => ?_)
    subst e
    refine EvP.bind (P := (· = hgt t)) (EvP.con (impl_h ht) rfl) (fun _ e => ?_)
    subst e
    rw [w64 (by omega) (by omega)]
    exact EvP.ite (fun e => hg ⟨h, e⟩) (fun e => hb (fun q => e q.2))
  · rw [if_neg (fun q => h q.2.2)]
    exact EvP.no (by simp) (hb (fun q => h q.1))
theorem go_mv {k : Int} (hk : -20 ≤ k ∧ k ≤ 20) (m : Int) : ∀ (l acc : List TnM), l.all okT = true → EvP (fun n => mmGo n k m l acc) (· = resM acc (mvAll k m l))
  | [], acc, _ => EvP.ret (by simp [mvAll, resM])
  | t :: ts, acc, h => by
    rw [List.all_cons, Bool.and_eq_true] at h
    simp only [mmGo]
    rw [resM_cons]
    unfold mv1
    refine try_mv h.1 hk m false (fun q => ?_) (fun q => ?_)
    · rw [if_pos q]
      exact go_mv hk m ts _ h.2
    · rw [if_neg q]
      refine try_mv h.1 hk m true (fun q => ?_) (fun q => ?_)
      · rw [if_pos q]
        exact go_mv hk m ts _ h.2
      · rw [if_neg q]
        exact EvP.ret rfl
theorem impl_moved {k : Int} (hk : -20 ≤ k ∧ k ≤ 20) (m : Int) (l : List TnM) (hl : l.length ≤ 1000000) (h : l.all okT = true) : EvP (fun n => impl_movedMelody.f n l k m) (· = resM [] (mvAll k m l)) := by
  simp only [impl_movedMelody.f]
  exact EvP.yes hl (go_mv hk m l [] h)
def mvTryP (l : List TnM) (k : Int) (t : TnM) (b : Bool) (bad : List TnM × Bool) : List TnM × Bool := if okT ⟨t.f0 + k, b⟩ = true then (match mvAll k (hgt ⟨t.f0 + k, b⟩ - hgt t) l with | some r => (r, true) | none => bad) else bad
def mvM (l : List TnM) (k : Int) : List TnM × Bool := match l with
  | [] => ([], true)
  | t :: ts => if okM (t :: ts) = true ∧ -20 ≤ k ∧ k ≤ 20 then mvTryP (t :: ts) k t false (mvTryP (t :: ts) k t true ([], false)) else ([], false)
theorem impl_mvtry {l : List TnM} {t : TnM} {ts : List TnM} (e : l = t :: ts) (hl : l.length ≤ 24) (h : l.all okT = true) {k : Int} (b : Bool) {bad : Nat → Option (List TnM × Bool)} {d : List TnM × Bool} (hb : EvP bad (· = d)) :
    EvP (fun n => mvTry n l k b (bad n)) (· = (if -20 ≤ k ∧ k ≤ 20 then mvTryP l k t b d else d)) := by
  have hr : rd_T25 l 0 = t := by
    subst e
    exact rdT_lt (l := t :: ts) (i := 0) (by simp)
  have ht : okT t = true := by
    subst e
    rw [List.all_cons, Bool.and_eq_true] at h
    exact h.1
  simp only [mvTry]
  rw [hr]
  refine EvP.bind (impl_above ht k b) (fun _ e => ?_)
  subst e
  unfold above mvTryP
  by_cases hk : -20 ≤ k ∧ k ≤ 20
  · rw [if_pos hk]
    by_cases h2 : okT ⟨t.f0 + k, b⟩ = true
    · rw [if_pos ⟨hk.1, hk.2, h2⟩, if_pos h2]
      have r1 := hgt_range h2
      have r2 := hgt_range ht
      refine EvP.yes rfl ?_
      refine EvP.bind (P := (· = hgt ⟨t.f0 + k, b⟩)) (EvP.con (impl_h h2) rfl) (fun _ e => ?_)
      subst e
      refine EvP.bind (P := (· = hgt t)) (EvP.con (impl_h ht) rfl) (fun _ e => ?_)
      subst e
      rw [w64 (by omega) (by omega)]
      refine EvP.bind (impl_moved hk _ l (by omega) h) (fun _ e => ?_)
      subst e
      cases mvAll k (hgt ⟨t.f0 + k, b⟩ - hgt t) l with
      | none => exact EvP.no (by simp [resM]) hb
      | some r => exact EvP.yes rfl (EvP.ret (by simp [resM]))
    · rw [if_neg (fun q => h2 q.2.2), if_neg h2]
      exact EvP.no (by simp) hb
  · rw [if_neg (fun q => hk ⟨q.1, q.2.1⟩), if_neg hk]
    exact EvP.no (by simp) hb
theorem impl_mv (l : List TnM) (k : Int) (hl : l.length ≤ 1000000) : EvP (fun n => impl_MelodyMove.f n l k) (· = mvM l k) := by
  simp only [impl_MelodyMove.f]
  refine EvP.yes hl ?_
  refine EvP.bind (impl_melody l) (fun _ e => ?_)
  subst e
  cases l with
  | nil => exact EvP.yes (by rfl) (EvP.yes rfl (EvP.ret rfl))
  | cons t ts =>
    unfold mvM
    refine EvP.ite (fun h => ?_) (fun h => EvP.ret (by simp only; rw [if_neg (fun q => h q.1)]))
    simp only
    have hm : (t :: ts).all okT = true ∧ (t :: ts).length ≤ 24 := by
      unfold okM at h
      rw [Bool.and_eq_true, decide_eq_true_eq] at h
      exact h
    refine EvP.no (by simp) ?_
    simp only [mvIn]
    refine (impl_mvtry rfl hm.2 hm.1 false (impl_mvtry rfl hm.2 hm.1 true (EvP.ret rfl))).mono (fun r hr => ?_)
    rw [hr]
    by_cases hk : -20 ≤ k ∧ k ≤ 20
    · rw [if_pos hk, if_pos hk, if_pos ⟨h, hk⟩]
    · rw [if_neg hk, if_neg hk, if_neg (fun q => hk q.2)]
theorem spec_try {t : TnM} (ht : okT t = true) {k : Int} (hk : -20 ≤ k ∧ k ≤ 20) (m : Int) (b : Bool) {good bad : Nat → Option (List TnM × Bool)} {P : List TnM × Bool → Prop}
    (hg : (okT ⟨t.f0 + k, b⟩ = true ∧ hgt ⟨t.f0 + k, b⟩ - hgt t = m) → EvP good P) (hb : ¬ (okT ⟨t.f0 + k, b⟩ = true ∧ hgt ⟨t.f0 + k, b⟩ - hgt t = m) → EvP bad P) :
    EvP (fun n => (spec_ToneValid.f (t.f0 + k) b).bind fun v => if v = true then ((spec_l1Height.f (t.f0 + k) b).bind fun x => (spec_l1Height.f t.f0 t.f1).bind fun y => if wrap64 (x - y) = m then good n else bad n) else bad n) P := by
  refine EvP.bind (P := (· = okT ⟨t.f0 + k, b⟩)) (EvP.con (spec_valid ⟨t.f0 + k, b⟩) rfl) (fun _ e => ?_)
  subst e
  refine EvP.ite (fun h => ?_) (fun h => hb (fun q => h q.1))
  have r1 := hgt_range h
  have r2 := hgt_range ht
  refine EvP.bind (P := (· = hgt ⟨t.f0 + k, b⟩)) (EvP.con (spec_h h) rfl) (fun _ e => ?_)
  subst e
  refine EvP.bind (P := (· = hgt t)) (EvP.con (spec_h ht) rfl) (fun _ e => ?_)
  subst e
  rw [w64 (by omega) (by omega)]
  exact EvP.ite (fun e => hg ⟨h, e⟩) (fun e => hb (fun q => e q.2))
theorem spec_moved_loop {k : Int} (hk : -20 ≤ k ∧ k ≤ 20) (m : Int) (l : List TnM) (hl : l.length ≤ 24) (h : l.all okT = true) : ∀ (d i : Nat) (acc : List TnM), i + d = l.length → acc.length = i → EvP (fun n => spec_l2Moved.l0 n l k m acc (i : Int)) (· = resM acc (mvAll k m (l.drop i))) := by
  intro d
  induction d with
  | zero =>
    intro i acc hi ha
    refine EvP.succ ?_
    simp only [spec_l2Moved.l0]
    refine EvP.no (by omega) (EvP.ret ?_)
    rw [List.drop_of_length_le (by omega)]
    simp [mvAll, resM]
  | succ d ih =>
    intro i acc hi ha
    have hlt : i < l.length := by omega
    have hok : okT l[i] = true := List.all_eq_true.mp h _ (List.getElem_mem hlt)
    have hr := ok_range hok
    have e1 : Hd (wrap64 ((i : Int) + 1) = ((i + 1 : Nat) : Int)) := ⟨w64 (by omega) (by omega)⟩
    have e2 : Hd (wrap64 (l[i].f0 + k) = l[i].f0 + k) := ⟨w64 (by omega) (by omega)⟩
    have w1 : wrap64 ((0 : Int) + 1) = 1 := by decide +kernel
    have w2 : wrap64 ((1 : Int) + 1) = 2 := by decide +kernel
    have hend : ∀ acc' : List TnM, acc'.length = i + 1 → EvP (fun n => spec_l2Moved.l0 n l k m acc' ((i + 1 : Nat) : Int)) (· = resM acc' (mvAll k m (l.drop (i + 1)))) := fun acc' ha' => ih (i + 1) acc' (by omega) ha'
    have found : ∀ (acc' : List TnM) (j : Int), acc'.length = i + 1 → EvP (fun n => spec_l2Moved.l1 n l k m acc' (i : Int) true j) (· = resM acc' (mvAll k m (l.drop (i + 1)))) := by
      intro acc' j ha'
      refine EvP.succ ?_
      simp only [spec_l2Moved.l1]
      refine EvP.ite (fun _ => ?_) (fun _ => ?_)
      all_goals
        refine EvP.succ ?_
        simp only [spec_l2Moved.j2]
        refine EvP.no (by simp) ?_
        refine EvP.congr_ (fun _ => if_pos trivial) ?_
        rw [e1.out]
        exact hend acc' ha'
    rw [List.drop_eq_getElem_cons hlt, resM_cons]
    unfold mv1
    refine EvP.succ ?_
    simp only [spec_l2Moved.l0]
    refine EvP.yes (by omega) (EvP.succ ?_)
    simp only [spec_l2Moved.l1]
    refine EvP.yes (by decide) (EvP.succ ?_)
    simp only [spec_l2Moved.j2]
    refine EvP.yes (by trivial) (EvP.yes (by omega) (EvP.yes (by omega) ?_))
    rw [rdT_lt hlt, e2.out, w1, show ((0 : Int) == 1) = false from rfl]
    refine spec_try hok hk m false (fun q => ?_) (fun q => ?_)
    · rw [if_pos q]
      exact EvP.yes (by omega) (found _ 1 (by simp; omega))
    · rw [if_neg q]
      refine EvP.succ ?_
      simp only [spec_l2Moved.l1]
      refine EvP.yes (by decide) (EvP.succ ?_)
      simp only [spec_l2Moved.j2]
      refine EvP.yes (by trivial) (EvP.yes (by omega) (EvP.yes (by omega) ?_))
      rw [rdT_lt hlt, e2.out, w2, show ((1 : Int) == 1) = true from rfl]
      refine spec_try hok hk m true (fun q => ?_) (fun q => ?_)
      · rw [if_pos q]
        exact EvP.yes (by omega) (found _ 2 (by simp; omega))
      · rw [if_neg q]
        refine EvP.succ ?_
        simp only [spec_l2Moved.l1]
        refine EvP.no (by decide) (EvP.succ ?_)
        simp only [spec_l2Moved.j2]
        exact EvP.no (by simp) (EvP.no (by simp) (EvP.ret rfl))
theorem spec_moved {k : Int} (hk : -20 ≤ k ∧ k ≤ 20) (m : Int) (l : List TnM) (hl : l.length ≤ 24) (h : l.all okT = true) : EvP (fun n => spec_l2Moved.f n l k m) (· = resM [] (mvAll k m l)) := by
  simp only [spec_l2Moved.f]
  exact spec_moved_loop hk m l hl h l.length 0 [] (by omega) rfl
theorem spec_mvtry {l : List TnM} {t : TnM} {ts : List TnM} (e : l = t :: ts) (hl : l.length ≤ 24) (h : l.all okT = true) {k : Int} (hk : -20 ≤ k ∧ k ≤ 20) (b : Bool) {bad : Nat → Option (List TnM × Bool)} {d : List TnM × Bool} (hb : EvP bad (· = d)) :
    EvP (fun n => (spec_ToneValid.f (t.f0 + k) b).bind fun v => if v = true then ((spec_l1Height.f (t.f0 + k) b).bind fun x => (spec_l1Height.f t.f0 t.f1).bind fun y => (spec_l2Moved.f n l k (wrap64 (x - y))).bind fun q => if q.2 = true then some (q.1, true) else bad n) else bad n) (· = mvTryP l k t b d) := by
  have ht : okT t = true := by
    subst e
    rw [List.all_cons, Bool.and_eq_true] at h
    exact h.1
  unfold mvTryP
  refine EvP.bind (P := (· = okT ⟨t.f0 + k, b⟩)) (EvP.con (spec_valid ⟨t.f0 + k, b⟩) rfl) (fun _ e => ?_)
  subst e
  refine EvP.ite (fun h2 => ?_) (fun h2 => by rw [if_neg h2]; exact hb)
  rw [if_pos h2]
  have r1 := hgt_range h2
  have r2 := hgt_range ht
  refine EvP.bind (P := (· = hgt ⟨t.f0 + k, b⟩)) (EvP.con (spec_h h2) rfl) (fun _ e => ?_)
  subst e
  refine EvP.bind (P := (· = hgt t)) (EvP.con (spec_h ht) rfl) (fun _ e => ?_)
  subst e
  rw [w64 (by omega) (by omega)]
  refine EvP.bind (spec_moved hk _ l hl h) (fun _ e => ?_)
  subst e
  cases mvAll k (hgt ⟨t.f0 + k, b⟩ - hgt t) l with
  | none => exact EvP.no (by simp [resM]) hb
  | some r => exact EvP.yes rfl (EvP.ret (by simp [resM]))
theorem spec_mv (l : List TnM) (k : Int) (hl : l.length ≤ 1000000) : EvP (fun n => spec_MelodyMove.f n l k) (· = mvM l k) := by
  simp only [spec_MelodyMove.f]
  cases l with
  | nil => exact EvP.yes (by rfl) (EvP.ret rfl)
  | cons t ts =>
    unfold mvM
    refine EvP.no (by simp; omega) ?_
    refine EvP.bind (spec_melody (t :: ts) (by omega)) (fun _ e => ?_)
    subst e
    refine EvP.ite (fun h => ?_) (fun h => ?_)
    · have hm : (t :: ts).all okT = true ∧ (t :: ts).length ≤ 24 := by
        unfold okM at h
        rw [Bool.and_eq_true, decide_eq_true_eq] at h
        exact h
      have ht : okT t = true := by
        have := hm.1
        rw [List.all_cons, Bool.and_eq_true] at this
        exact this.1
      have hr := ok_range ht
      refine EvP.bind (P := (· = (decide (-20 ≤ k) && decide (k ≤ 20)))) (EvP.con ?_ rfl) (fun _ e => ?_)
      · unfold spec_l6In.f
        by_cases h1 : k ≥ -20
        · by_cases h2 : k ≤ 20 <;> simp [h1, h2]
        · simp [h1]
      subst e
      refine EvP.succ ?_
      simp only [spec_MelodyMove.j0]
      by_cases hk : -20 ≤ k ∧ k ≤ 20
      · rw [if_pos ⟨h, hk⟩]
        refine EvP.no (by simp [hk.1, hk.2]) ?_
        have e2 : Hd (wrap64 (t.f0 + k) = t.f0 + k) := ⟨w64 (by omega) (by omega)⟩
        have h0 : rd_T25 (t :: ts) 0 = t := rdT_lt (l := t :: ts) (i := 0) (by simp)
        have w1 : wrap64 ((0 : Int) + 1) = 1 := by decide +kernel
        have w2 : wrap64 ((1 : Int) + 1) = 2 := by decide +kernel
        refine EvP.succ ?_
        simp only [spec_MelodyMove.l0]
        refine EvP.yes (by decide) (EvP.yes (by simp) ?_)
        rw [h0, e2.out, w1, show ((0 : Int) == 1) = false from rfl]
        refine spec_mvtry rfl hm.2 hm.1 hk false ?_
        refine EvP.succ ?_
        simp only [spec_MelodyMove.l0]
        refine EvP.yes (by decide) (EvP.yes (by simp) ?_)
        rw [h0, e2.out, w2, show ((1 : Int) == 1) = true from rfl]
        refine spec_mvtry rfl hm.2 hm.1 hk true ?_
        refine EvP.succ ?_
        simp only [spec_MelodyMove.l0]
        exact EvP.no (by decide) (EvP.ret rfl)
      · rw [if_neg (fun q => hk q.2)]
        refine EvP.yes ?_ (EvP.ret rfl)
        rw [Bool.not_eq_true', Bool.eq_false_iff]
        intro q
        rw [Bool.and_eq_true, decide_eq_true_eq, decide_eq_true_eq] at q
        exact hk q
    · simp only
      rw [if_neg (fun q => h q.1)]
      refine EvP.succ ?_
      simp only [spec_MelodyMove.j0]
      exact EvP.congr_ (fun _ => if_pos trivial) (EvP.ret rfl)
end Go.Proofs.YtdgmkfbmeaalpaaDoor.Pur
end
section
namespace Go.Proofs.YtdgmkfbmeaalpaaDoor.E
open Go.RowKit Go.Proofs.YtdgmkfbmeaalpaaDoorW.PrintWords Go.Proofs.YtdgmkfbmeaalpaaDoorW.PrintLast Go.Proofs.YtdgmkfbmeaalpaaDoorW.PrintMore
attribute [local go_sem] max2_int min2_int max_two min_two max_three min_three max_four min_four
set_option linter.unusedVariables false
set_option linter.unusedSimpArgs false
attribute [local go_sem] str_leq_ str_gtr_ str_geq_
def spec_l4Halves.l0 : Nat → ByteArray → Int → Option (ByteArray × ByteArray)
 | 0, _, _ => none
 | k + 1, x0, x4 => if x4 < (x0.size : Int) then (if 0 ≤ x4 then (if (bt x0 x4) = 124 then (if x4 ≤ (x0.size : Int) then (if 0 ≤ (wrap64 (x4 + 1)) then (if (wrap64 (x4 + 1)) ≤ (x0.size : Int) then (some (x0.extract 0 (x4 : Int).toNat, x0.extract ((wrap64 (x4 + 1)) : Int).toNat x0.size)) else (none)) else (none)) else (none)) else (spec_l4Halves.l0 k x0 (wrap64 (x4 + 1)))) else (none)) else (some (x0, (⟨#[]⟩ : ByteArray)))
def spec_l4Halves.f (k : Nat) (a0 : ByteArray) : Option (ByteArray × ByteArray) := spec_l4Halves.l0 k a0 0
def spec_l4Half.l0 : Nat → ByteArray → Int → Option (Bool)
 | 0, _, _ => none
 | k + 1, x0, x3 => if x3 < (x0.size : Int) then (if 0 ≤ x3 then (if (bt x0 x3) = 120 then (spec_l4Half.l0 k x0 (wrap64 (x3 + 1))) else (if (bt x0 x3) = 47 then (spec_l4Half.l0 k x0 (wrap64 (x3 + 1))) else (some false))) else (none)) else (some (decide ((x0.size : Int) > 0)))
def spec_l4Half.f (k : Nat) (a0 : ByteArray) : Option (Bool) := spec_l4Half.l0 k a0 0
def spec_VerseValid.f (k : Nat) (a0 : ByteArray) : Option (Bool) := (spec_l4Halves.f k a0).bind fun bt240 => ((spec_l4Half.f k bt240.1).bind fun t242 => (if t242 = true then ((spec_l4Half.f k bt240.2).bind fun t243 => (if t243 = true then (some (decide ((wrap64 ((bt240.1.size : Int) + (bt240.2.size : Int))) ≤ 20))) else (some false))) else (some false)))
def impl_VerseValid.f (a0 : ByteArray) : Option (Bool) := (impl_VerseHalves.f a0).bind fun bt262 => (some bt262.2.2)
def spec_VerseSyllables.f (k : Nat) (a0 : ByteArray) : Option (Int) := (spec_VerseValid.f k a0).bind fun t314 => (if t314 = true then (some (wrap64 ((a0.size : Int) - 1))) else (some (-1)))
def impl_VerseSyllables.f (a0 : ByteArray) : Option (Int) := (impl_VerseHalves.f a0).bind fun bt613 => (if bt613.2.2 = true then (some (wrap64 ((bt613.1.size : Int) + (bt613.2.1.size : Int)))) else (some (-1)))
end Go.Proofs.YtdgmkfbmeaalpaaDoor.E
end
section
namespace Go.Proofs.YtdgmkfbmeaalpaaDoor.Pur
open Go.RowKit Go.Proofs.YtdgmkfbmeaalpaaDoorW.PrintWords Go.Proofs.YtdgmkfbmeaalpaaDoorW.PrintMore Go.Proofs.YtdgmkfbmeaalpaaDoor.E
theorem list_len (t : ByteArray) : t.data.toList.length = t.size := Array.length_toList
theorem ba_size (l : List UInt8) : (⟨l.toArray⟩ : ByteArray).size = l.length := by rw [← list_len]
def cutL : List UInt8 → List UInt8 × List UInt8 × Bool
  | [] => ([], [], false)
  | b :: l => if b = 124 then ([], l, true) else (b :: (cutL l).1, (cutL l).2.1, (cutL l).2.2)
theorem cut_is : ∀ l : List UInt8, Lib.cut l [124] = if (cutL l).2.2 = true then cutL l else (l, [], false)
  | [] => rfl
  | b :: l => by
    have ih := cut_is l
    have hge := Lib.index_ge l [124]
    have hp : List.isPrefixOf [(124 : UInt8)] (b :: l) = ((124 : UInt8) == b) := by simp [List.isPrefixOf]
    unfold Lib.cut at ih ⊢
    rw [Lib.index, hp, cutL]
    by_cases h : b = 124
    · subst h
      simp
    · rw [if_neg h, show ((124 : UInt8) == b) = false from beq_eq_false_iff_ne.mpr (fun e => h e.symm)]
      simp only [Bool.false_eq_true, if_false]
      by_cases g : Lib.index l [124] = -1
      · have e : (if (Lib.index l [124] == -1) = true then -1 else Lib.index l [124] + 1) = -1 := by rw [g]; rfl
        rw [e, if_neg (by decide)]
        rw [g, if_neg (by decide)] at ih
        by_cases k : (cutL l).2.2 = true
        · rw [if_pos k] at ih
          rw [← ih] at k
          exact absurd k Bool.false_ne_true
        · rw [if_neg k]
      · have e : (if (Lib.index l [124] == -1) = true then -1 else Lib.index l [124] + 1) = Lib.index l [124] + 1 := if_neg (fun h => g (by simpa using h))
        rw [e, if_pos (by omega)]
        rw [if_pos (by omega)] at ih
        by_cases k : (cutL l).2.2 = true
        · rw [if_pos k] at ih ⊢
          rw [← ih]
          obtain ⟨j, ej⟩ : ∃ j : Nat, Lib.index l [124] = (j : Int) := ⟨(Lib.index l [124]).toNat, by omega⟩
          rw [ej]
          simp only [toNat_nat, toNat_succ, List.take_succ_cons, List.length_singleton]
          rw [show j + 1 + 1 = (j + 1) + 1 from rfl, List.drop_succ_cons]
        · rw [if_neg k] at ih
          have := congrArg (fun x => x.2.2) ih
          exact absurd this (by simp)
theorem cut_miss : ∀ l : List UInt8, (cutL l).2.2 = false → cutL l = (l, [], false)
  | [], _ => rfl
  | b :: l, h => by
    rw [cutL] at h ⊢
    by_cases g : b = 124
    · rw [if_pos g] at h; cases h
    · rw [if_neg g] at h ⊢
      have := cut_miss l h
      rw [this]
theorem cut_eq (l : List UInt8) : Lib.cut l [124] = cutL l := by
  rw [cut_is]
  by_cases h : (cutL l).2.2 = true
  · rw [if_pos h]
  · rw [if_neg h, cut_miss l (Bool.eq_false_iff.mpr h)]
theorem cut_len : ∀ l : List UInt8, (cutL l).1.length + (cutL l).2.1.length + (if (cutL l).2.2 = true then 1 else 0) = l.length
  | [] => rfl
  | b :: l => by
    have ih := cut_len l
    rw [cutL]
    by_cases g : b = 124
    · rw [if_pos g]; simp
    · rw [if_neg g]
      simp only [List.length_cons]
      omega
def halfL (l : List UInt8) : Bool := !l.isEmpty && l.all (fun b => b == 120 || b == 47)
def verse (s : ByteArray) : Option (ByteArray × ByteArray) := if (cutL s.data.toList).2.2 = true ∧ halfL (cutL s.data.toList).1 = true ∧ halfL (cutL s.data.toList).2.1 = true ∧ (cutL s.data.toList).1.length + (cutL s.data.toList).2.1.length ≤ 20 then some (⟨(cutL s.data.toList).1.toArray⟩, ⟨(cutL s.data.toList).2.1.toArray⟩) else none
def halvesOf (s : ByteArray) : ByteArray × ByteArray × Bool := match verse s with
  | some (a, b) => (a, b, true)
  | none => (⟨#[]⟩, ⟨#[]⟩, false)
theorem verse_some {s a b : ByteArray} (h : verse s = some (a, b)) : a.size + b.size ≤ 20 ∧ 1 ≤ a.size ∧ 1 ≤ b.size ∧ s.size = a.size + b.size + 1 ∧ halfL a.data.toList = true ∧ halfL b.data.toList = true ∧ a.data.toList = (cutL s.data.toList).1 ∧ b.data.toList = (cutL s.data.toList).2.1 := by
  unfold verse at h
  split at h
  · rename_i g
    obtain ⟨g1, g2, g3, g4⟩ := g
    simp only [Option.some.injEq, Prod.mk.injEq] at h
    obtain ⟨rfl, rfl⟩ := h
    have hl := cut_len s.data.toList
    rw [if_pos g1, list_len s] at hl
    have n1 : 1 ≤ (cutL s.data.toList).1.length := by
      rw [halfL, Bool.and_eq_true] at g2
      have := g2.1
      rcases e : (cutL s.data.toList).1 with _ | ⟨x, y⟩
      · rw [e] at this; simp at this
      · simp
    have n2 : 1 ≤ (cutL s.data.toList).2.1.length := by
      rw [halfL, Bool.and_eq_true] at g3
      have := g3.1
      rcases e : (cutL s.data.toList).2.1 with _ | ⟨x, y⟩
      · rw [e] at this; simp at this
      · simp
    have e1 := ba_size (cutL s.data.toList).1
    have e2 := ba_size (cutL s.data.toList).2.1
    refine ⟨by omega, by omega, by omega, by omega, g2, g3, rfl, rfl⟩
  · cases h
theorem dropWhile_nil {α : Type} (p : α → Bool) : ∀ l : List α, l.dropWhile p = [] ↔ l.all p = true
  | [] => by simp
  | a :: l => by
    by_cases h : p a = true
    · simp [h, dropWhile_nil p l]
    · simp [h]
theorem trim_nil (l cs : List UInt8) : Lib.trimS l cs = [] ↔ l.all (cs.contains ·) = true := by
  unfold Lib.trimS Lib.trimLeftS Lib.trimRightS
  rw [dropWhile_nil, List.all_reverse]
  constructor
  · intro h
    rw [List.all_eq_true] at h ⊢
    intro x hx
    by_cases hm : x ∈ l.reverse.dropWhile (cs.contains ·)
    · exact h x hm
    · have hs := List.takeWhile_append_dropWhile (p := fun y => cs.contains y) (l := l.reverse)
      have hx' : x ∈ l.reverse := List.mem_reverse.mpr hx
      rw [← hs, List.mem_append] at hx'
      rcases hx' with g | g
      · have := List.all_takeWhile (p := fun y => cs.contains y) (l := l.reverse)
        rw [List.all_eq_true] at this
        exact this x g
      · exact absurd g hm
  · intro h
    rw [List.all_eq_true] at h ⊢
    intro x hx
    have := (List.dropWhile_sublist (fun y => cs.contains y) (l := l.reverse)).subset hx
    exact h x (List.mem_reverse.mp this)
theorem half_is (t : ByteArray) (ht : t.size ≤ 1000000) : impl_halfValid.f t = some (halfL t.data.toList) := by
  unfold impl_halfValid.f halfL
  rw [ByteArray.toList_eq]
  by_cases h0 : t.data.toList = ([] : List UInt8)
  · rw [if_pos h0, h0]
    rfl
  · rw [if_neg h0]
    unfold strings_Trim.f
    rw [if_pos (by omega), if_pos (by decide), if_pos (by decide)]
    simp only [Option.bind_some]
    congr 1
    have e : (t.data.toList.all (fun b => [120, 47].contains b)) = t.data.toList.all (fun b => b == 120 || b == 47) := by
      congr 1
      funext b
      simp only [List.contains, List.elem]
      cases b == 120 <;> cases b == 47 <;> rfl
    have hne : (!t.data.toList.isEmpty) = true := by
      rcases e : t.data.toList with _ | ⟨x, y⟩
      · exact absurd e h0
      · rfl
    rw [hne, Bool.true_and, ← e]
    rw [Bool.eq_iff_iff, beq_iff_eq, ByteArray.toList_eq]
    exact trim_nil t.data.toList [120, 47]
theorem impl_halves (s : ByteArray) (hs : s.size ≤ 100000000) : impl_VerseHalves.f s = some (halvesOf s) := by
  have hl := cut_len s.data.toList
  rw [list_len s] at hl
  have sz1 : (⟨(cutL s.data.toList).1.toArray⟩ : ByteArray).size = (cutL s.data.toList).1.length := ba_size _
  have sz2 : (⟨(cutL s.data.toList).2.1.toArray⟩ : ByteArray).size = (cutL s.data.toList).2.1.length := ba_size _
  unfold impl_VerseHalves.f strings_Cut.f halvesOf verse
  rw [if_pos (by omega), show (⟨#[124]⟩ : ByteArray).data.toList = [124] from rfl, cut_eq]
  simp only [Option.bind_some]
  by_cases g1 : (cutL s.data.toList).2.2 = true
  rotate_left
  · rw [if_neg g1, if_neg (fun h => g1 h.1)]
  rw [if_pos g1, sz1, sz2, w64 (by omega) (by omega)]
  by_cases g4 : (cutL s.data.toList).1.length + (cutL s.data.toList).2.1.length ≤ 20
  rotate_left
  · rw [if_pos (by omega), if_neg (fun h => g4 h.2.2.2)]
  rw [if_neg (by omega), half_is _ (by omega), half_is _ (by omega)]
  simp only [Option.bind_some]
  by_cases g2 : halfL (cutL s.data.toList).1 = true
  rotate_left
  · rw [if_neg g2, if_neg (fun h => g2 h.2.1)]
  rw [if_pos g2]
  by_cases g3 : halfL (cutL s.data.toList).2.1 = true
  · rw [if_pos g3, if_pos ⟨g1, g2, g3, g4⟩]
  · rw [if_neg g3, if_neg (fun h => g3 h.2.2.1)]
def hv (s : ByteArray) : ByteArray × ByteArray := (⟨(cutL s.data.toList).1.toArray⟩, ⟨(cutL s.data.toList).2.1.toArray⟩)
end Go.Proofs.YtdgmkfbmeaalpaaDoor.Pur
end
section
namespace Go.Proofs.YtdgmkfbmeaalpaaDoor.Pur
open Go.RowKit Go.Proofs.YtdgmkfbmeaalpaaDoorW.PrintWords
def sumN (f : Nat → Nat) : Nat → Nat
  | 0 => 0
  | n + 1 => sumN f n + f n
end Go.Proofs.YtdgmkfbmeaalpaaDoor.Pur
end
section
namespace Go.Proofs.YtdgmkfbmeaalpaaDoor.E
open Go.RowKit Go.Proofs.YtdgmkfbmeaalpaaDoorW.PrintWords Go.Proofs.YtdgmkfbmeaalpaaDoorW.PrintLast Go.Proofs.YtdgmkfbmeaalpaaDoorW.PrintMore
attribute [local go_sem] max2_int min2_int max_two min_two max_three min_three max_four min_four
set_option linter.unusedVariables false
set_option linter.unusedSimpArgs false
attribute [local go_sem] str_leq_ str_gtr_ str_geq_
def spec_PsalmFits.f (k : Nat) (l0_0 : List (S25)) (a0_1 : Int) (a0_2 : Bool) (l0_3 : List (S25)) (l0_4 : List (S25)) (a1 : ByteArray) : Option (Bool) := (spec_l4Halves.f k a1).bind fun bt245 => ((spec_PsalmValid.f k l0_0 a0_1 a0_2 l0_3 l0_4).bind fun t247 => (if t247 = true then ((spec_VerseValid.f k a1).bind fun t248 => (if t248 = true then (if (bt245.1.size : Int) ≥ (wrap64 ((l0_0.length : Int) + (l0_3.length : Int))) then (some (decide ((bt245.2.size : Int) ≥ (l0_4.length : Int)))) else (some false)) else (some false))) else (some false)))
def spec_PsalmTenors.f (k : Nat) (l0_0 : List (S25)) (a0_1 : Int) (a0_2 : Bool) (l0_3 : List (S25)) (l0_4 : List (S25)) (a1 : ByteArray) : Option (Int) := (spec_PsalmFits.f k l0_0 a0_1 a0_2 l0_3 l0_4 a1).bind fun t316 => (if t316 = true then ((spec_VerseSyllables.f k a1).bind fun t317 => (some (wrap64 ((wrap64 ((wrap64 (t317 - (l0_0.length : Int))) - (l0_3.length : Int))) - (l0_4.length : Int))))) else (some (-1)))
def impl_PsalmTenors.l0 : Nat → Int → List (S86) → Int → Int → Option (Int)
 | 0, _, _, _, _ => none
 | k + 1, x7, x18, x19, x20 => if x20 < x19 then (if 0 ≤ x20 then (if x20 < (x18.length : Int) then (if ((rd_T86 x18 x20).f1) = 1 then (impl_PsalmTenors.l0 k (wrap64 (x7 + 1)) x18 x19 (wrap64 (x20 + 1))) else (impl_PsalmTenors.l0 k x7 x18 x19 (wrap64 (x20 + 1)))) else (none)) else (none)) else (some x7)
def impl_PsalmTenors.f (k : Nat) (l0_0 : List (S25)) (a0_1 : Int) (a0_2 : Bool) (l0_3 : List (S25)) (l0_4 : List (S25)) (a1 : ByteArray) : Option (Int) := (impl_sungVerse.f k l0_0 a0_1 a0_2 l0_3 l0_4 a1).bind fun bt343 => (if bt343.2 = true then (impl_PsalmTenors.l0 k 0 bt343.1 (bt343.1.length : Int) 0) else (some (-1)))
mutual
def spec_PsalmSing.l0 : Nat → ByteArray → ByteArray → List (S25) → List (S25) → Int → Bool → List (S25) → List (S25) → Option ((List (S25)) × Bool)
 | 0, _, _, _, _, _, _, _, _ => none
 | k + 1, x6, x7, x8, x589000, x589001, x589002, x589003, x589004 => if (x8.length : Int) < (wrap64 ((x6.size : Int) - (x589003.length : Int))) then (if x8.length < 8796093022208 then (spec_PsalmSing.l0 k x6 x7 (x8 ++ [(⟨x589001, x589002⟩ : S25)]) x589000 x589001 x589002 x589003 x589004) else (none)) else (if x8.length + x589003.length < 8796093022208 then (spec_PsalmSing.l1 k x6 x7 (x8 ++ x589003) x589000 x589001 x589002 x589003 x589004) else (none))
def spec_PsalmSing.l1 : Nat → ByteArray → ByteArray → List (S25) → List (S25) → Int → Bool → List (S25) → List (S25) → Option ((List (S25)) × Bool)
 | 0, _, _, _, _, _, _, _, _ => none
 | k + 1, x6, x7, x8, x589000, x589001, x589002, x589003, x589004 => if (x8.length : Int) < (wrap64 ((wrap64 ((x6.size : Int) + (x7.size : Int))) - (x589004.length : Int))) then (if x8.length < 8796093022208 then (spec_PsalmSing.l1 k x6 x7 (x8 ++ [(⟨x589001, x589002⟩ : S25)]) x589000 x589001 x589002 x589003 x589004) else (none)) else (if x8.length + x589004.length < 8796093022208 then (some ((x8 ++ x589004), true)) else (none))
end
def spec_PsalmSing.f (k : Nat) (l0_0 : List (S25)) (a0_1 : Int) (a0_2 : Bool) (l0_3 : List (S25)) (l0_4 : List (S25)) (a1 : ByteArray) : Option ((List (S25)) × Bool) := (spec_PsalmFits.f k l0_0 a0_1 a0_2 l0_3 l0_4 a1).bind fun t589 => (if t589 = true then ((spec_l4Halves.f k a1).bind fun bt593 => ((some (([] : List (S25)) : List (S25))).bind fun y595 => (if y595.length + l0_0.length < 8796093022208 then (spec_PsalmSing.l0 k bt593.1 bt593.2 (y595 ++ l0_0) l0_0 a0_1 a0_2 l0_3 l0_4) else (none)))) else (some ((([] : List (S25))), false)))
end Go.Proofs.YtdgmkfbmeaalpaaDoor.E
end
section
namespace Go.Proofs.YtdgmkfbmeaalpaaDoor.Pur
open Go.RowKit Go.Proofs.YtdgmkfbmeaalpaaDoorW.PrintWords Go.Proofs.YtdgmkfbmeaalpaaDoor.E
abbrev TL := List S25
def tonesB (l : TL) (lo hi : Int) : Bool := decide (lo ≤ (l.length : Int)) && (decide ((l.length : Int) ≤ hi) && okM l)
theorem impl_tones (l : TL) (lo hi : Int) : EvP (fun k => impl_tonesValid.f k l lo hi) (· = tonesB l lo hi) := by
  simp only [impl_tonesValid.f, tonesB]
  refine EvP.ite (fun h => EvP.ite (fun g => ?_) (fun g => EvP.ret ?_)) (fun h => EvP.ret ?_)
  · refine EvP.bind (impl_melody l) (fun _ e => EvP.ret ?_)
    subst e
    rw [decide_eq_true (show lo ≤ (l.length : Int) from h), decide_eq_true g]
    rfl
  · rw [decide_eq_false g]
    simp
  · rw [decide_eq_false (show ¬ lo ≤ (l.length : Int) from h)]
    rfl
theorem spec_tones (l : TL) (hl : l.length < 9223372036854775807) (lo hi : Int) : EvP (fun k => spec_l4Tones.f k l lo hi) (· = tonesB l lo hi) := by
  simp only [spec_l4Tones.f, tonesB, spec_l6In.f]
  refine EvP.bind (spec_melody l hl) (fun _ e => ?_)
  subst e
  refine EvP.ite (fun h => ?_) (fun h => EvP.ret ?_)
  · by_cases g : lo ≤ (l.length : Int)
    · rw [if_pos (show (l.length : Int) ≥ lo from g)]
      refine EvP.ret ?_
      rw [decide_eq_true g, h]
      simp
    · rw [if_neg (show ¬ (l.length : Int) ≥ lo from g)]
      refine EvP.ret ?_
      rw [decide_eq_false g]
      rfl
  · rw [Bool.eq_false_iff.mpr h]
    simp
def okPs (ps : TL) (x : Int) (b : Bool) (pm pe : TL) : Bool := tonesB ps 0 3 && (okT ⟨x, b⟩ && (tonesB pm 1 4 && tonesB pe 1 4))
theorem impl_psalm (ps : TL) (x : Int) (b : Bool) (pm pe : TL) : EvP (fun k => impl_PsalmValid.f k ps x b pm pe) (· = okPs ps x b pm pe) := by
  simp only [impl_PsalmValid.f, okPs]
  refine EvP.bind (impl_tones ps 0 3) (fun _ e => ?_)
  subst e
  refine EvP.ite (fun h => ?_) (fun h => EvP.ret ?_)
  · rw [h, Bool.true_and]
    refine EvP.bind (EvP.con (impl_valid ⟨x, b⟩) (P := (· = okT ⟨x, b⟩)) rfl) (fun _ e => ?_)
    subst e
    refine EvP.ite (fun h => ?_) (fun h => EvP.ret ?_)
    · rw [h, Bool.true_and]
      refine EvP.bind (impl_tones pm 1 4) (fun _ e => ?_)
      subst e
      refine EvP.ite (fun h => ?_) (fun h => EvP.ret ?_)
      · rw [h, Bool.true_and]
        refine EvP.bind (impl_tones pe 1 4) (fun _ e => EvP.ret e)
      · rw [Bool.eq_false_iff.mpr h, Bool.false_and]
    · rw [Bool.eq_false_iff.mpr h, Bool.false_and]
  · rw [Bool.eq_false_iff.mpr h, Bool.false_and]
theorem spec_psalm (ps : TL) (x : Int) (b : Bool) (pm pe : TL) (hs : ps.length < 9223372036854775807) (hm : pm.length < 9223372036854775807) (he : pe.length < 9223372036854775807) : EvP (fun k => spec_PsalmValid.f k ps x b pm pe) (· = okPs ps x b pm pe) := by
  simp only [spec_PsalmValid.f, okPs]
  refine EvP.bind (spec_tones ps hs 0 3) (fun _ e => ?_)
  subst e
  refine EvP.ite (fun h => ?_) (fun h => EvP.ret ?_)
  · rw [h, Bool.true_and]
    refine EvP.bind (EvP.con (spec_valid ⟨x, b⟩) (P := (· = okT ⟨x, b⟩)) rfl) (fun _ e => ?_)
    subst e
    refine EvP.ite (fun h => ?_) (fun h => EvP.ret ?_)
    · rw [h, Bool.true_and]
      refine EvP.bind (spec_tones pm hm 1 4) (fun _ e => ?_)
      subst e
      refine EvP.ite (fun h => ?_) (fun h => EvP.ret ?_)
      · rw [h, Bool.true_and]
        refine EvP.bind (spec_tones pe he 1 4) (fun _ e => EvP.ret e)
      · rw [Bool.eq_false_iff.mpr h, Bool.false_and]
    · rw [Bool.eq_false_iff.mpr h, Bool.false_and]
  · rw [Bool.eq_false_iff.mpr h, Bool.false_and]
theorem okPs_lens {ps pm pe : TL} {x : Int} {b : Bool} (h : okPs ps x b pm pe = true) : ps.length ≤ 3 ∧ 1 ≤ pm.length ∧ pm.length ≤ 4 ∧ 1 ≤ pe.length ∧ pe.length ≤ 4 ∧ okM ps = true ∧ okT ⟨x, b⟩ = true ∧ okM pm = true ∧ okM pe = true := by
  simp only [okPs, tonesB, Bool.and_eq_true, decide_eq_true_eq] at h
  obtain ⟨⟨_, h1, h2⟩, h3, ⟨h4, h5, h6⟩, h7, h8, h9⟩ := h
  exact ⟨by omega, by omega, by omega, by omega, by omega, h2, h3, h6, h9⟩
def fitP (ps : TL) (x : Int) (b : Bool) (pm pe : TL) (s : ByteArray) : Option (ByteArray × ByteArray) := if okPs ps x b pm pe = true then (verse s).bind (fun q => if ps.length + pm.length ≤ q.1.size ∧ pe.length ≤ q.2.size then some q else none) else none
theorem fit_some {ps pm pe : TL} {x : Int} {b : Bool} {s u v : ByteArray} (h : fitP ps x b pm pe s = some (u, v)) : okPs ps x b pm pe = true ∧ verse s = some (u, v) ∧ ps.length + pm.length ≤ u.size ∧ pe.length ≤ v.size := by
  unfold fitP at h
  split at h
  · rename_i g
    rw [Option.bind_eq_some_iff] at h
    obtain ⟨q, hq, h⟩ := h
    split at h
    · rename_i g2
      cases h
      exact ⟨g, hq, g2.1, g2.2⟩
    · cases h
  · cases h
theorem fit_of {ps pm pe : TL} {x : Int} {b : Bool} {s u v : ByteArray} (h : okPs ps x b pm pe = true) (hv : verse s = some (u, v)) (h1 : ps.length + pm.length ≤ u.size) (h2 : pe.length ≤ v.size) : fitP ps x b pm pe s = some (u, v) := by
  unfold fitP
  rw [if_pos h, hv]
  simp only [Option.bind_some]
  rw [if_pos ⟨h1, h2⟩]
theorem fit_bad {ps pm pe : TL} {x : Int} {b : Bool} {s : ByteArray} (h : okPs ps x b pm pe = false) : fitP ps x b pm pe s = none := by
  unfold fitP
  rw [h]
  rfl
theorem fit_none {ps pm pe : TL} {x : Int} {b : Bool} {s : ByteArray} (h : verse s = none) : fitP ps x b pm pe s = none := by
  unfold fitP
  rw [h]
  simp
theorem fit_short {ps pm pe : TL} {x : Int} {b : Bool} {s u v : ByteArray} (hv : verse s = some (u, v)) (h1 : ¬ (ps.length + pm.length ≤ u.size ∧ pe.length ≤ v.size)) : fitP ps x b pm pe s = none := by
  unfold fitP
  rw [hv]
  simp only [Option.bind_some]
  rw [if_neg h1]
  simp
def sungR (ps : TL) (x : Int) (b : Bool) (pm pe : TL) : Option (ByteArray × ByteArray) → List S86 × Bool
  | some q => (sungOf ps ⟨x, b⟩ pm pe q.1.size q.2.size, true)
  | none => ([], false)
theorem impl_sung (ps : TL) (x : Int) (b : Bool) (pm pe : TL) (s : ByteArray) (hs : s.size ≤ 100000000) : EvP (fun k => impl_sungVerse.f k ps x b pm pe s) (· = sungR ps x b pm pe (fitP ps x b pm pe s)) := by
  simp only [impl_sungVerse.f]
  refine EvP.bind (EvP.con (impl_halves s hs) (P := (· = halvesOf s)) rfl) (fun _ e => ?_)
  subst e
  rcases hv : verse s with _ | ⟨u, v⟩
  · have hh : halvesOf s = (⟨#[]⟩, ⟨#[]⟩, false) := by unfold halvesOf; rw [hv]
    rw [hh, fit_none hv]
    exact EvP.ret rfl
  · have hh : halvesOf s = (u, v, true) := by unfold halvesOf; rw [hv]
    rw [hh]
    refine EvP.yes rfl ?_
    refine EvP.bind (impl_psalm ps x b pm pe) (fun _ e => ?_)
    subst e
    refine EvP.ite (fun h => ?_) (fun h => EvP.ret ?_)
    · obtain ⟨l1, l2, l3, l4, l5, _⟩ := okPs_lens h
      have hl := (verse_some hv).1
      refine EvP.yes (by omega) ?_
      refine EvP.ite (fun g => EvP.ret ?_) (fun g => EvP.ite (fun g2 => EvP.ret ?_) (fun g2 => EvP.yes (by simp only []; omega) (EvP.ret ?_)))
      · rw [fit_short hv (by simp only [] at g; omega)]
        rfl
      · rw [fit_short hv (by simp only [] at g2; omega)]
        rfl
      · rw [fit_of h hv (by simp only [] at g; omega) (by simp only [] at g2; omega)]
        rfl
    · rw [fit_bad (Bool.eq_false_iff.mpr h)]
      rfl
theorem impl_fits (ps : TL) (x : Int) (b : Bool) (pm pe : TL) (s : ByteArray) (hs : s.size ≤ 100000000) : EvP (fun k => impl_PsalmFits.f k ps x b pm pe s) (· = (fitP ps x b pm pe s).isSome) := by
  simp only [impl_PsalmFits.f]
  refine EvP.bind (impl_sung ps x b pm pe s hs) (fun _ e => EvP.ret ?_)
  subst e
  cases fitP ps x b pm pe s <;> rfl
def singOf (ps : TL) (x : Int) (b : Bool) (pm pe : TL) (m n : Nat) : TL := ps ++ (List.replicate (m - pm.length - ps.length) ⟨x, b⟩ ++ (pm ++ (List.replicate (n - pe.length) ⟨x, b⟩ ++ pe)))
theorem sing_map (ps : TL) (x : Int) (b : Bool) (pm pe : TL) (m n : Nat) : (sungOf ps ⟨x, b⟩ pm pe m n).map (·.f0) = singOf ps x b pm pe m n := by
  unfold sungOf singOf
  simp only [List.map_append, List.map_map, List.map_replicate]
  have hid : ∀ (l : TL) (n : Int), l.map ((fun y : S86 => y.f0) ∘ fun y => ⟨y, n⟩) = l := fun l n => List.map_id l
  rw [hid, hid, hid]
theorem sing_len {ps pm pe : TL} {x : Int} {b : Bool} {m n : Nat} (h1 : ps.length + pm.length ≤ m) (h2 : pe.length ≤ n) : (singOf ps x b pm pe m n).length = m + n := by
  simp only [singOf, List.length_append, List.length_replicate]
  omega
def singR (ps : TL) (x : Int) (b : Bool) (pm pe : TL) : Option (ByteArray × ByteArray) → TL × Bool
  | some q => (singOf ps x b pm pe q.1.size q.2.size, true)
  | none => ([], false)
theorem rdS_lt {l : List S86} {i : Nat} (h : i < l.length) : rd_T86 l (i : Int) = l[i] := by
  unfold rd_T86
  rw [toNat_nat, List.getD_eq_getElem?_getD, List.getElem?_eq_getElem h]
  rfl
theorem impl_sing_loop (L : List S86) (hl : L.length ≤ 1000) : ∀ (d i : Nat) (xs : TL), i + d = L.length → xs.length = i → EvP (fun k => impl_PsalmSing.l0 k xs L (L.length : Int) (i : Int)) (· = (xs ++ (L.drop i).map (·.f0), true)) := by
  intro d
  induction d with
  | zero =>
    intro i xs hi hx
    refine EvP.succ ?_
    simp only [impl_PsalmSing.l0]
    refine EvP.no (by omega) (EvP.ret ?_)
    rw [List.drop_of_length_le (by omega)]
    simp
  | succ d ih =>
    intro i xs hi hx
    have hlt : i < L.length := by omega
    refine EvP.succ ?_
    simp only [impl_PsalmSing.l0]
    refine EvP.yes (by omega) (EvP.yes (by omega) (EvP.yes (by omega) (EvP.yes (by omega) ?_)))
    rw [rdS_lt hlt, w64 (by omega) (by omega), show (i : Int) + 1 = ((i + 1 : Nat) : Int) by omega]
    refine (ih (i + 1) (xs ++ [L[i].f0]) (by omega) (by simp; omega)).mono ?_
    intro r e
    rw [e, List.drop_eq_getElem_cons hlt, List.map_cons, List.append_assoc]
    rfl
theorem impl_sing (ps : TL) (x : Int) (b : Bool) (pm pe : TL) (s : ByteArray) (hs : s.size ≤ 100000000) : EvP (fun k => impl_PsalmSing.f k ps x b pm pe s) (· = singR ps x b pm pe (fitP ps x b pm pe s)) := by
  simp only [impl_PsalmSing.f]
  refine EvP.bind (impl_sung ps x b pm pe s hs) (fun _ e => ?_)
  subst e
  rcases hf : fitP ps x b pm pe s with _ | ⟨u, v⟩
  · exact EvP.ret rfl
  · refine EvP.yes rfl ?_
    obtain ⟨h, hv, h1, h2⟩ := fit_some hf
    have hl := (verse_some hv).1
    have hlen := sung_len (t := ⟨x, b⟩) h1 h2
    refine (impl_sing_loop (sungOf ps ⟨x, b⟩ pm pe u.size v.size) (by omega) _ 0 [] (by rw [Nat.zero_add]) rfl).mono ?_
    intro r e
    rw [e, List.drop_zero, List.nil_append, sing_map]
    rfl
def tenR (ps pm pe : TL) : Option (ByteArray × ByteArray) → Int
  | some q => (q.1.size : Int) + q.2.size - ps.length - pm.length - pe.length
  | none => -1
end Go.Proofs.YtdgmkfbmeaalpaaDoor.Pur
end
section
namespace Go.Proofs.YtdgmkfbmeaalpaaDoor.E
open Go.RowKit Go.Proofs.YtdgmkfbmeaalpaaDoorW.PrintWords Go.Proofs.YtdgmkfbmeaalpaaDoorW.PrintLast Go.Proofs.YtdgmkfbmeaalpaaDoorW.PrintMore
attribute [local go_sem] max2_int min2_int max_two min_two max_three min_three max_four min_four
set_option linter.unusedVariables false
set_option linter.unusedSimpArgs false
attribute [local go_sem] str_leq_ str_gtr_ str_geq_
def impl_VerseAccents.l0 : Nat → List Int → ByteArray → Int → Int → Option (List Int)
 | 0, _, _, _, _ => none
 | k + 1, x3, x7, x23, x24 => if x24 < x23 then (if 0 ≤ x24 then (if x24 < (x7.size : Int) then (if (bt x7 x24) = 47 then (if x3.length < 17592186044416 then (impl_VerseAccents.l0 k (x3 ++ [x24]) x7 x23 (wrap64 (x24 + 1))) else (none)) else (impl_VerseAccents.l0 k x3 x7 x23 (wrap64 (x24 + 1)))) else (none)) else (none)) else (some x3)
def impl_VerseAccents.f (k : Nat) (a0 : ByteArray) : Option (List Int) := (some (([] : List Int) : List Int)).bind fun y416 => ((impl_VerseHalves.f a0).bind fun bt419 => (if bt419.2.2 = true then (if bt419.1.size + bt419.2.1.size ≤ 9223372036854775807 then (impl_VerseAccents.l0 k y416 (bt419.1 ++ bt419.2.1) ((bt419.1 ++ bt419.2.1).size : Int) 0) else (none)) else (some y416)))
def impl_PsalmAccents.l0 : Nat → List (S86) → Int → List Int → Int → Int → Option (Int)
 | 0, _, _, _, _, _ => none
 | k + 1, x5, x7, x20, x21, x22 => if x22 < x21 then (if 0 ≤ x22 then (if x22 < (x20.length : Int) then (if 0 ≤ (rd x20 x22) then (if (rd x20 x22) < (x5.length : Int) then (if ((rd_T86 x5 (rd x20 x22)).f1) = 2 then (impl_PsalmAccents.l0 k x5 (wrap64 (x7 + 1)) x20 x21 (wrap64 (x22 + 1))) else (if ((rd_T86 x5 (rd x20 x22)).f1) = 3 then (impl_PsalmAccents.l0 k x5 (wrap64 (x7 + 1)) x20 x21 (wrap64 (x22 + 1))) else (impl_PsalmAccents.l0 k x5 x7 x20 x21 (wrap64 (x22 + 1))))) else (none)) else (none)) else (none)) else (none)) else (some x7)
def impl_PsalmAccents.f (k : Nat) (l0_0 : List (S25)) (a0_1 : Int) (a0_2 : Bool) (l0_3 : List (S25)) (l0_4 : List (S25)) (a1 : ByteArray) : Option (Int) := (impl_sungVerse.f k l0_0 a0_1 a0_2 l0_3 l0_4 a1).bind fun bt426 => (if bt426.2 = true then ((impl_VerseAccents.f k a1).bind fun t430 => (impl_PsalmAccents.l0 k bt426.1 0 t430 (t430.length : Int) 0)) else (some (-1)))
mutual
def spec_PsalmAccents.l0 : Nat → ByteArray → ByteArray → Int → Int → List (S25) → Int → Bool → List (S25) → List (S25) → Option (Int)
 | 0, _, _, _, _, _, _, _, _, _ => none
 | k + 1, x5, x6, x7, x8, x436000, x436001, x436002, x436003, x436004 => if x8 < (x5.size : Int) then (if 0 ≤ x8 then (if (bt x5 x8) = 47 then (spec_PsalmAccents.l0 k x5 x6 (wrap64 (x7 + 1)) (wrap64 (x8 + 1)) x436000 x436001 x436002 x436003 x436004) else (spec_PsalmAccents.l0 k x5 x6 x7 (wrap64 (x8 + 1)) x436000 x436001 x436002 x436003 x436004)) else (none)) else (spec_PsalmAccents.l1 k x6 x7 (wrap64 ((x6.size : Int) - (x436004.length : Int))))
def spec_PsalmAccents.l1 : Nat → ByteArray → Int → Int → Option (Int)
 | 0, _, _, _ => none
 | k + 1, x6, x7, x9 => if x9 < (x6.size : Int) then (if 0 ≤ x9 then (if (bt x6 x9) = 47 then (spec_PsalmAccents.l1 k x6 (wrap64 (x7 + 1)) (wrap64 (x9 + 1))) else (spec_PsalmAccents.l1 k x6 x7 (wrap64 (x9 + 1)))) else (none)) else (some x7)
end
def spec_PsalmAccents.f (k : Nat) (l0_0 : List (S25)) (a0_1 : Int) (a0_2 : Bool) (l0_3 : List (S25)) (l0_4 : List (S25)) (a1 : ByteArray) : Option (Int) := (spec_PsalmFits.f k l0_0 a0_1 a0_2 l0_3 l0_4 a1).bind fun t436 => (if t436 = true then ((spec_l4Halves.f k a1).bind fun bt437 => (spec_PsalmAccents.l0 k bt437.1 bt437.2 0 (wrap64 ((bt437.1.size : Int) - (l0_3.length : Int))) l0_0 a0_1 a0_2 l0_3 l0_4)) else (some (-1)))
end Go.Proofs.YtdgmkfbmeaalpaaDoor.E
end
section
namespace Go.Proofs.YtdgmkfbmeaalpaaDoor.Pur
open Go.RowKit Go.Proofs.YtdgmkfbmeaalpaaDoorW.PrintWords Go.Proofs.YtdgmkfbmeaalpaaDoor.E
def isA (v : ByteArray) (z : Nat) : Nat := if v.data.toList[z]? = some 47 then 1 else 0
def accN (u v : ByteArray) (m e : Nat) : Nat := sumN (fun j => isA u (u.size - m + j)) m + sumN (fun j => isA v (v.size - e + j)) e
def accR (pm pe : TL) : Option (ByteArray × ByteArray) → Int
  | some q => (accN q.1 q.2 pm.length pe.length : Int)
  | none => -1
def accFrom : List UInt8 → Nat → List Int
  | [], _ => []
  | b :: l, i => if b = 47 then (i : Int) :: accFrom l (i + 1) else accFrom l (i + 1)
def accL : Option (ByteArray × ByteArray) → List Int
  | some q => accFrom (q.1 ++ q.2).data.toList 0
  | none => []
end Go.Proofs.YtdgmkfbmeaalpaaDoor.Pur
end
section
namespace Go.Proofs.YtdgmkfbmeaalpaaDoor.E
open Go.RowKit Go.Proofs.YtdgmkfbmeaalpaaDoorW.PrintWords Go.Proofs.YtdgmkfbmeaalpaaDoorW.PrintLast Go.Proofs.YtdgmkfbmeaalpaaDoorW.PrintMore
attribute [local go_sem] max2_int min2_int max_two min_two max_three min_three max_four min_four
set_option linter.unusedVariables false
set_option linter.unusedSimpArgs false
attribute [local go_sem] str_leq_ str_gtr_ str_geq_
def laws_szToneS.f (l0 : List (S39)) (a1 : Int) : Option (Int) := if (wrap64 (a1 - (l0.length : Int))) < 0 then (some (-1)) else (some (wrap64 (a1 - (l0.length : Int))))
def laws_toTone.f (a0_0 : Int) (a0_1 : Bool) : Option (Int × Bool) := some (a0_0, a0_1)
def laws_toToneS.l0 : Nat → List (S39) → List (S25) → Int → Option ((List (S25)))
 | 0, _, _, _ => none
 | k + 1, x0, x3, x4 => if x4 < (x0.length : Int) then (if 0 ≤ x4 then ((laws_toTone.f ((rd_T39 x0 x4).f0) ((rd_T39 x0 x4).f1)).bind fun bt325 => (if x4 < (x3.length : Int) then (laws_toToneS.l0 k x0 (x3.set (x4 : Int).toNat (⟨bt325.1, bt325.2⟩ : S25)) (wrap64 (x4 + 1))) else (none))) else (none)) else (some x3)
def laws_toToneS.f (k : Nat) (l0 : List (S39)) : Option ((List (S25))) := if 0 ≤ (l0.length : Int) then (if ((l0.length : Int) : Int).toNat ≤ 17592186044416 then (laws_toToneS.l0 k l0 (List.replicate ((l0.length : Int) : Int).toNat z25) 0) else (none)) else (none)
def laws_eqTone.f (a0_0 : Int) (a0_1 : Bool) (a1_0 : Int) (a1_1 : Bool) : Option (Bool) := if a0_0 = a1_0 then (if (a0_1 != a1_1) = true then (some false) else (some true)) else (some false)
def laws_eqToneS.l0 : Nat → List (S25) → List (S25) → Int → Option (Bool)
 | 0, _, _, _ => none
 | k + 1, x0, x1, x5 => if x5 < (x0.length : Int) then (if 0 ≤ x5 then (if x5 < (x1.length : Int) then ((laws_eqTone.f ((rd_T25 x0 x5).f0) ((rd_T25 x0 x5).f1) ((rd_T25 x1 x5).f0) ((rd_T25 x1 x5).f1)).bind fun t353 => (if t353 = true then (laws_eqToneS.l0 k x0 x1 (wrap64 (x5 + 1))) else (some false))) else (none)) else (none)) else (some true)
def laws_eqToneS.f (k : Nat) (l0 : List (S25)) (l1 : List (S25)) : Option (Bool) := if (l0.length : Int) = (l1.length : Int) then (laws_eqToneS.l0 k l0 l1 0) else (some false)
def laws_eqToneS.T6 : Bool × List (List Nat × List Nat) := (true, [([], []), ([], []), ([0, 1], [0, 1]), ([2], [2]), ([], []), ([], []), ([4, 5], [4, 5]), ([6], [6]), ([3, 7], [3, 7]), ([8], [8])])
def laws_eqToneS.B6 : List Nat := [0, 0, 3, 7, 0, 0, 48, 112, 255, 511]
end Go.Proofs.YtdgmkfbmeaalpaaDoor.E
end
section
namespace Go.Proofs.YtdgmkfbmeaalpaaDoor.Pur
open Go.RowKit Go.Proofs.YtdgmkfbmeaalpaaDoorW.PrintWords Go.Proofs.YtdgmkfbmeaalpaaDoor.E
abbrev Tn' := S25
def cv (t : S39) : S25 := ⟨t.f0, t.f1⟩
end Go.Proofs.YtdgmkfbmeaalpaaDoor.Pur
end
section
namespace Go.Proofs.YtdgmkfbmeaalpaaDoor.E
open Go.RowKit Go.Proofs.YtdgmkfbmeaalpaaDoorW.PrintWords Go.Proofs.YtdgmkfbmeaalpaaDoorW.PrintLast Go.Proofs.YtdgmkfbmeaalpaaDoorW.PrintMore
attribute [local go_sem] max2_int min2_int max_two min_two max_three min_three max_four min_four
set_option linter.unusedVariables false
set_option linter.unusedSimpArgs false
attribute [local go_sem] str_leq_ str_gtr_ str_geq_
def laws_szPsalm.f (l0_0 : List (S39)) (a0_1 : Int) (a0_2 : Bool) (l0_3 : List (S39)) (l0_4 : List (S39)) (a1 : Int) : Option (Int) := (laws_szToneS.f l0_0 a1).bind fun t311 => (if t311 < 0 then (some (-1)) else ((laws_szToneS.f l0_3 t311).bind fun t312 => (if t312 < 0 then (some (-1)) else ((laws_szToneS.f l0_4 t312).bind fun t313 => (if t313 < 0 then (some (-1)) else (some t313))))))
def laws_toPsalm.f (k : Nat) (l0_0 : List (S39)) (a0_1 : Int) (a0_2 : Bool) (l0_3 : List (S39)) (l0_4 : List (S39)) : Option ((List (S25)) × Int × Bool × (List (S25)) × (List (S25))) := (laws_toToneS.f k l0_0).bind fun t331 => ((laws_toTone.f a0_1 a0_2).bind fun bt334 => ((laws_toToneS.f k l0_3).bind fun t336 => ((laws_toToneS.f k l0_4).bind fun t339 => (some (t331, bt334.1, bt334.2, t336, t339)))))
def laws_eqPsalm.f (k : Nat) (l0_0 : List (S25)) (a0_1 : Int) (a0_2 : Bool) (l0_3 : List (S25)) (l0_4 : List (S25)) (l1_0 : List (S25)) (a1_1 : Int) (a1_2 : Bool) (l1_3 : List (S25)) (l1_4 : List (S25)) : Option (Bool) := (laws_eqToneS.f k l0_0 l1_0).bind fun t356 => (if t356 = true then ((laws_eqTone.f a0_1 a0_2 a1_1 a1_2).bind fun t357 => (if t357 = true then ((laws_eqToneS.f k l0_3 l1_3).bind fun t358 => (if t358 = true then ((laws_eqToneS.f k l0_4 l1_4).bind fun t359 => (if t359 = true then (some true) else (some false))) else (some false))) else (some false))) else (some false))
def laws_FnExactPsalmTenors.f (k : Nat) (l0_0 : List (S39)) (a0_1 : Int) (a0_2 : Bool) (l0_3 : List (S39)) (l0_4 : List (S39)) (a1 : ByteArray) : Option (Bool) := if (a1.size : Int) > 1048576 then (some true) else ((laws_szPsalm.f l0_0 a0_1 a0_2 l0_3 l0_4 1048576).bind fun t361 => (if t361 < 0 then (some true) else ((laws_toPsalm.f k l0_0 a0_1 a0_2 l0_3 l0_4).bind fun bt362 => ((spec_PsalmTenors.f k bt362.1 bt362.2.1 bt362.2.2.1 bt362.2.2.2.1 bt362.2.2.2.2 a1).bind fun t373 => ((laws_toPsalm.f k l0_0 a0_1 a0_2 l0_3 l0_4).bind fun bt374 => ((impl_PsalmTenors.f k bt374.1 bt374.2.1 bt374.2.2.1 bt374.2.2.2.1 bt374.2.2.2.2 a1).bind fun t386 => (if t386 = t373 then ((laws_toPsalm.f k l0_0 a0_1 a0_2 l0_3 l0_4).bind fun bt387 => ((laws_eqPsalm.f k bt374.1 bt374.2.1 bt374.2.2.1 bt374.2.2.2.1 bt374.2.2.2.2 bt387.1 bt387.2.1 bt387.2.2.1 bt387.2.2.2.1 bt387.2.2.2.2).bind fun t398 => (if t398 = true then (some true) else (none)))) else (none))))))))
def laws_FnExactPsalmAccents.f (k : Nat) (l0_0 : List (S39)) (a0_1 : Int) (a0_2 : Bool) (l0_3 : List (S39)) (l0_4 : List (S39)) (a1 : ByteArray) : Option (Bool) := if (a1.size : Int) > 1048576 then (some true) else ((laws_szPsalm.f l0_0 a0_1 a0_2 l0_3 l0_4 1048576).bind fun t462 => (if t462 < 0 then (some true) else ((laws_toPsalm.f k l0_0 a0_1 a0_2 l0_3 l0_4).bind fun bt463 => ((spec_PsalmAccents.f k bt463.1 bt463.2.1 bt463.2.2.1 bt463.2.2.2.1 bt463.2.2.2.2 a1).bind fun t474 => ((laws_toPsalm.f k l0_0 a0_1 a0_2 l0_3 l0_4).bind fun bt475 => ((impl_PsalmAccents.f k bt475.1 bt475.2.1 bt475.2.2.1 bt475.2.2.2.1 bt475.2.2.2.2 a1).bind fun t487 => (if t487 = t474 then ((laws_toPsalm.f k l0_0 a0_1 a0_2 l0_3 l0_4).bind fun bt488 => ((laws_eqPsalm.f k bt475.1 bt475.2.1 bt475.2.2.1 bt475.2.2.2.1 bt475.2.2.2.2 bt488.1 bt488.2.1 bt488.2.2.1 bt488.2.2.2.1 bt488.2.2.2.2).bind fun t499 => (if t499 = true then (some true) else (none)))) else (none))))))))
end Go.Proofs.YtdgmkfbmeaalpaaDoor.E
end
section
namespace Go.Proofs.YtdgmkfbmeaalpaaDoor.Pur
open Go.RowKit Go.Proofs.YtdgmkfbmeaalpaaDoorW.PrintWords Go.Proofs.YtdgmkfbmeaalpaaDoor.E
abbrev LT := List S39
end Go.Proofs.YtdgmkfbmeaalpaaDoor.Pur
end
section
namespace Go.Proofs.YtdgmkfbmeaalpaaDoor.E
open Go.RowKit Go.Proofs.YtdgmkfbmeaalpaaDoorW.PrintWords Go.Proofs.YtdgmkfbmeaalpaaDoorW.PrintLast Go.Proofs.YtdgmkfbmeaalpaaDoorW.PrintMore
attribute [local go_sem] max2_int min2_int max_two min_two max_three min_three max_four min_four
set_option linter.unusedVariables false
set_option linter.unusedSimpArgs false
attribute [local go_sem] str_leq_ str_gtr_ str_geq_
def laws_markToneS.l0 : Nat → List (S25) → Int → Int → Option (Int × (List (S25)))
 | 0, _, _, _ => none
 | k + 1, x0, x1, x5 => if x5 < (x0.length : Int) then (if 0 ≤ x5 then ((some (x0.set (x5 : Int).toNat (⟨x1, (rd_T25 x0 x5).f1⟩ : S25) : List (S25))).bind fun y660 => (laws_markToneS.l0 k (y660.set (x5 : Int).toNat (⟨(rd_T25 y660 x5).f0, ((Int.tmod (wrap64 (x1 + 1)) 3) == 0)⟩ : S25)) (wrap64 ((wrap64 (x1 + 1)) + 1)) (wrap64 (x5 + 1)))) else (none)) else (some (x1, x0))
def laws_markToneS.f (k : Nat) (l0 : List (S25)) (a1 : Int) : Option (Int × (List (S25))) := laws_markToneS.l0 k l0 a1 0
def laws_heldToneS.l0 : Nat → List (S25) → Int → Int → Option (Int)
 | 0, _, _, _ => none
 | k + 1, x0, x1, x5 => if x5 < (x0.length : Int) then (if 0 ≤ x5 then (if ((rd_T25 x0 x5).f0) = x1 then (if (((rd_T25 x0 x5).f1) != ((Int.tmod (wrap64 (x1 + 1)) 3) == 0)) = true then (some (-1)) else (laws_heldToneS.l0 k x0 (wrap64 ((wrap64 (x1 + 1)) + 1)) (wrap64 (x5 + 1)))) else (some (-1))) else (none)) else (some x1)
def laws_heldToneS.f (k : Nat) (l0 : List (S25)) (a1 : Int) : Option (Int) := laws_heldToneS.l0 k l0 a1 0
end Go.Proofs.YtdgmkfbmeaalpaaDoor.E
end
section
namespace Go.Proofs.YtdgmkfbmeaalpaaDoor.Pur
open Go.RowKit Go.Proofs.YtdgmkfbmeaalpaaDoorW.PrintWords Go.Proofs.YtdgmkfbmeaalpaaDoor.E
def toneM (j : Nat) : Tn' := ⟨1 + 2 * (j : Int), (Int.tmod (2 + 2 * (j : Int)) 3 == 0)⟩
def MarkedT (i : Nat) (xs : List Tn') : Prop := ∀ j : Nat, j < i → xs[j]? = some (toneM j)
end Go.Proofs.YtdgmkfbmeaalpaaDoor.Pur
end
section
namespace Go.Proofs.YtdgmkfbmeaalpaaDoor.E
open Go.RowKit Go.Proofs.YtdgmkfbmeaalpaaDoorW.PrintWords Go.Proofs.YtdgmkfbmeaalpaaDoorW.PrintLast Go.Proofs.YtdgmkfbmeaalpaaDoorW.PrintMore
attribute [local go_sem] max2_int min2_int max_two min_two max_three min_three max_four min_four
set_option linter.unusedVariables false
set_option linter.unusedSimpArgs false
attribute [local go_sem] str_leq_ str_gtr_ str_geq_
def laws_markPsalm.f (k : Nat) (l0_0 : List (S25)) (a0_1 : Int) (a0_2 : Bool) (l0_3 : List (S25)) (l0_4 : List (S25)) (a1 : Int) : Option (Int × (List (S25)) × (List (S25)) × (List (S25))) := (laws_markToneS.f k l0_0 a1).bind fun bt663 => ((laws_markToneS.f k l0_3 bt663.1).bind fun bt665 => ((laws_markToneS.f k l0_4 bt665.1).bind fun bt667 => (some (bt667.1, bt663.2, bt665.2, bt667.2))))
mutual
def laws_FnExactPsalmSing.j0 : Nat → ByteArray → List (S25) → Bool → List (S25) → Bool → Bool → List (S39) → Int → Bool → List (S39) → List (S39) → List (S25) → Int → Bool → List (S25) → List (S25) → Option (Bool)
 | 0, _, _, _, _, _, _, _, _, _, _, _, _, _, _, _, _ => none
 | k + 1, x1, x6, x7, x9, x10, x47, x672000, x672001, x672002, x672003, x672004, x700000, x700001, x700002, x700003, x700004 => if x47 = true then (none) else ((laws_toPsalm.f k x672000 x672001 x672002 x672003 x672004).bind fun bt705 => ((laws_eqPsalm.f k x700000 x700001 x700002 x700003 x700004 bt705.1 bt705.2.1 bt705.2.2.1 bt705.2.2.2.1 bt705.2.2.2.2).bind fun t716 => (if t716 = true then ((laws_markPsalm.f k x700000 x700001 x700002 x700003 x700004 1).bind fun bt717 => (if bt717.1 < 0 then (laws_FnExactPsalmSing.j1 k x1 x6 x7 x9 true x672000 x672001 x672002 x672003 x672004) else ((laws_eqToneS.f k x9 x6).bind fun t721 => (if t721 = true then (laws_FnExactPsalmSing.j1 k x1 x6 x7 x9 (x10 != x7) x672000 x672001 x672002 x672003 x672004) else (laws_FnExactPsalmSing.j1 k x1 x6 x7 x9 true x672000 x672001 x672002 x672003 x672004))))) else (none))))
def laws_FnExactPsalmSing.j1 : Nat → ByteArray → List (S25) → Bool → List (S25) → Bool → List (S39) → Int → Bool → List (S39) → List (S39) → Option (Bool)
 | 0, _, _, _, _, _, _, _, _, _, _ => none
 | k + 1, x1, x6, x7, x9, x68, x672000, x672001, x672002, x672003, x672004 => if x68 = true then (none) else ((laws_markToneS.f k x9 1).bind fun bt722 => ((laws_heldToneS.f k bt722.2 1).bind fun t724 => (if t724 < 0 then (none) else (if t724 = bt722.1 then ((laws_toPsalm.f k x672000 x672001 x672002 x672003 x672004).bind fun bt725 => ((impl_PsalmSing.f k bt725.1 bt725.2.1 bt725.2.2.1 bt725.2.2.2.1 bt725.2.2.2.2 x1).bind fun bt736 => ((laws_eqToneS.f k bt736.1 x6).bind fun t740 => (if t740 = true then (laws_FnExactPsalmSing.j2 k bt722.2 bt722.1 (bt736.2 != x7)) else (laws_FnExactPsalmSing.j2 k bt722.2 bt722.1 true))))) else (none)))))
def laws_FnExactPsalmSing.j2 : Nat → List (S25) → Int → Bool → Option (Bool)
 | 0, _, _, _ => none
 | k + 1, x9, x12, x95 => if x95 = true then (none) else ((laws_heldToneS.f k x9 1).bind fun t741 => (if t741 < 0 then (none) else (if t741 = x12 then (some true) else (none))))
end
def laws_FnExactPsalmSing.f (k : Nat) (l0_0 : List (S39)) (a0_1 : Int) (a0_2 : Bool) (l0_3 : List (S39)) (l0_4 : List (S39)) (a1 : ByteArray) : Option (Bool) := if (a1.size : Int) > 1048576 then (some true) else ((laws_szPsalm.f l0_0 a0_1 a0_2 l0_3 l0_4 1048576).bind fun t672 => (if t672 < 0 then (some true) else ((laws_toPsalm.f k l0_0 a0_1 a0_2 l0_3 l0_4).bind fun bt673 => ((spec_PsalmSing.f k bt673.1 bt673.2.1 bt673.2.2.1 bt673.2.2.2.1 bt673.2.2.2.2 a1).bind fun bt684 => ((laws_toPsalm.f k l0_0 a0_1 a0_2 l0_3 l0_4).bind fun bt688 => ((impl_PsalmSing.f k bt688.1 bt688.2.1 bt688.2.2.1 bt688.2.2.2.1 bt688.2.2.2.2 a1).bind fun bt700 => ((laws_eqToneS.f k bt700.1 bt684.1).bind fun t704 => (if t704 = true then (laws_FnExactPsalmSing.j0 k a1 bt684.1 bt684.2 bt700.1 bt700.2 (bt700.2 != bt684.2) l0_0 a0_1 a0_2 l0_3 l0_4 bt688.1 bt688.2.1 bt688.2.2.1 bt688.2.2.2.1 bt688.2.2.2.2) else (laws_FnExactPsalmSing.j0 k a1 bt684.1 bt684.2 bt700.1 bt700.2 true l0_0 a0_1 a0_2 l0_3 l0_4 bt688.1 bt688.2.1 bt688.2.2.1 bt688.2.2.2.1 bt688.2.2.2.2)))))))))
end Go.Proofs.YtdgmkfbmeaalpaaDoor.E
end
section
namespace Go.Proofs.YtdgmkfbmeaalpaaDoor.Pur
open Go.RowKit Go.Proofs.YtdgmkfbmeaalpaaDoorW.PrintWords Go.Proofs.YtdgmkfbmeaalpaaDoor.E
theorem singR_short {ps pm pe : TL} {x : Int} {b : Bool} {s : ByteArray} : (singR ps x b pm pe (fitP ps x b pm pe s)).1.length ≤ 20 := by
  rcases hf : fitP ps x b pm pe s with _ | ⟨u, v⟩
  · exact Nat.zero_le _
  · obtain ⟨h, hv, h1, h2⟩ := fit_some hf
    have hl := (verse_some hv).1
    simp only [singR]
    rw [sing_len h1 h2]
    exact hl
end Go.Proofs.YtdgmkfbmeaalpaaDoor.Pur
end
section
namespace Go.Proofs.YtdgmkfbmeaalpaaDoor.E
open Go.RowKit Go.Proofs.YtdgmkfbmeaalpaaDoorW.PrintWords Go.Proofs.YtdgmkfbmeaalpaaDoorW.PrintLast Go.Proofs.YtdgmkfbmeaalpaaDoorW.PrintMore
attribute [local go_sem] max2_int min2_int max_two min_two max_three min_three max_four min_four
set_option linter.unusedVariables false
set_option linter.unusedSimpArgs false
attribute [local go_sem high] eqA25
attribute [local go_sem] str_leq_ str_gtr_ str_geq_
def impl_equalTones.l0 : Nat → List (S25) → List (S25) → Int → Int → Option (Bool)
 | 0, _, _, _, _ => none
 | k + 1, x1, x12, x13, x14 => if x14 < x13 then (if 0 ≤ x14 then (if x14 < (x12.length : Int) then (if x14 < (x1.length : Int) then (if (!(((rd_T25 x12 x14).f0) == ((rd_T25 x1 x14).f0)) || (!(((rd_T25 x12 x14).f1) == ((rd_T25 x1 x14).f1)))) = true then (some false) else (impl_equalTones.l0 k x1 x12 x13 (wrap64 (x14 + 1)))) else (none)) else (none)) else (none)) else (some true)
def impl_equalTones.f (k : Nat) (l0 : List (S25)) (l1 : List (S25)) : Option (Bool) := if (l0.length : Int) = (l1.length : Int) then (impl_equalTones.l0 k l1 l0 (l0.length : Int) 0) else (some false)
def spec_l4Equal.l0 : Nat → List (S25) → List (S25) → Int → Option (Bool)
 | 0, _, _, _ => none
 | k + 1, x0, x1, x5 => if x5 < (x0.length : Int) then (if 0 ≤ x5 then (if x5 < (x1.length : Int) then (if (!(((rd_T25 x0 x5).f0) == ((rd_T25 x1 x5).f0)) || (!(((rd_T25 x0 x5).f1) == ((rd_T25 x1 x5).f1)))) = true then (some false) else (spec_l4Equal.l0 k x0 x1 (wrap64 (x5 + 1)))) else (none)) else (none)) else (some true)
def spec_l4Equal.f (k : Nat) (l0 : List (S25)) (l1 : List (S25)) : Option (Bool) := if (l0.length : Int) = (l1.length : Int) then (spec_l4Equal.l0 k l0 l1 0) else (some false)
end Go.Proofs.YtdgmkfbmeaalpaaDoor.E
end
section
namespace Go.Proofs.YtdgmkfbmeaalpaaDoor.Pur
open Go.RowKit Go.Proofs.YtdgmkfbmeaalpaaDoorW.PrintWords Go.Proofs.YtdgmkfbmeaalpaaDoor.E
instance decT : DecidableEq S25 := fun a b => if h : a.f0 = b.f0 ∧ a.f1 = b.f1 then .isTrue (by
    cases a
    cases b
    obtain ⟨h1, h2⟩ := h
    simp only [] at h1 h2
    rw [h1, h2]) else .isFalse (fun e => h (by rw [e]; exact ⟨rfl, rfl⟩))
theorem neq_t {a b : S25} : (!(a.f0 == b.f0) || (!(a.f1 == b.f1))) = true ↔ a ≠ b := by
  obtain ⟨a0, a1⟩ := a
  obtain ⟨b0, b1⟩ := b
  simp only [Bool.or_eq_true, Bool.not_eq_true', beq_eq_false_iff_ne, ne_eq, S25.mk.injEq]
  constructor
  · rintro (h | h) ⟨e1, e2⟩
    · exact h e1
    · exact h e2
  · intro h
    by_cases e : a0 = b0
    · exact .inr (fun e2 => h ⟨e, e2⟩)
    · exact .inl e
theorem eq_step {a b : TL} {i : Nat} (ha : i < a.length) (hb : i < b.length) : decide (a.drop i = b.drop i) = (decide (a[i] = b[i]) && decide (a.drop (i + 1) = b.drop (i + 1))) := by
  rw [List.drop_eq_getElem_cons ha, List.drop_eq_getElem_cons hb]
  simp only [List.cons.injEq, Bool.decide_and]
theorem len_ne {a b : TL} (h : ¬ (a.length : Int) = (b.length : Int)) : decide (a = b) = false := decide_eq_false (fun e => h (by rw [e]))
theorem law_eqT_loop (a b : TL) (h : a.length = b.length) (hl : a.length ≤ 1000000000) : ∀ d i : Nat, i + d = a.length → EvP (fun k => laws_sameTones.l0 k a b (i : Int)) (· = decide (a.drop i = b.drop i)) := by
  intro d
  induction d with
  | zero =>
    intro i hi
    refine EvP.succ ?_
    simp only [laws_sameTones.l0]
    refine EvP.no (by omega) (EvP.ret ?_)
    rw [List.drop_of_length_le (by omega), List.drop_of_length_le (by omega)]
    rfl
  | succ d ih =>
    intro i hi
    have ha : i < a.length := by omega
    have hb : i < b.length := by omega
    refine EvP.succ ?_
    simp only [laws_sameTones.l0]
    refine EvP.yes (by omega) (EvP.yes (by omega) (EvP.yes (by omega) (?_)))
    rw [rdT_lt ha, rdT_lt hb, eq_step ha hb]
    refine EvP.ite (fun g => EvP.ret ?_) (fun g => ?_)
    · rw [decide_eq_false (neq_t.mp g)]
      rfl
    · have e : a[i] = b[i] := Classical.byContradiction (fun hn => g (neq_t.mpr hn))
      rw [decide_eq_true e, Bool.true_and, w64 (by omega) (by omega), show (i : Int) + 1 = ((i + 1 : Nat) : Int) by omega]
      exact ih (i + 1) (by omega)
theorem law_eqT (a b : TL) (hl : a.length ≤ 1000000000) : EvP (fun k => laws_sameTones.f k a b) (· = decide (a = b)) := by
  simp only [laws_sameTones.f]
  refine EvP.ite (fun h => ?_) (fun h => EvP.ret (len_ne h).symm)
  exact law_eqT_loop a b (by omega) hl a.length 0 (by omega)
end Go.Proofs.YtdgmkfbmeaalpaaDoor.Pur
end
section
namespace Go.Proofs.YtdgmkfbmeaalpaaDoor.Pur
open Go Go.RowKit Go.Proofs.YtdgmkfbmeaalpaaDoorW.PrintWords Go.Proofs.YtdgmkfbmeaalpaaDoorW.PrintMore Go.Proofs.YtdgmkfbmeaalpaaDoor.E
theorem mv1_of {k m : Int} {t x : TnM} (h : mv1 k m t = some x) : okT x = true ∧ hgt x - hgt t = m ∧ x.f0 = t.f0 + k := by
  unfold mv1 at h
  split at h
  · rename_i hc
    obtain rfl := Option.some.inj h
    exact ⟨hc.1, hc.2, rfl⟩
  · split at h
    · rename_i hc
      obtain rfl := Option.some.inj h
      exact ⟨hc.1, hc.2, rfl⟩
    · cases h
theorem mvAll_cons {k m : Int} {t : TnM} {ts r : List TnM} (h : mvAll k m (t :: ts) = some r) : ∃ x xs, r = x :: xs ∧ mv1 k m t = some x ∧ mvAll k m ts = some xs := by
  simp only [mvAll] at h
  cases h1 : mv1 k m t with
  | none => rw [h1] at h; cases h
  | some x =>
    rw [h1] at h
    obtain ⟨xs, h2, rfl⟩ := Option.map_eq_some_iff.mp h
    exact ⟨x, xs, rfl, rfl, h2⟩
theorem mvAll_mk {k m : Int} {t x : TnM} {ts xs : List TnM} (h1 : mv1 k m t = some x) (h2 : mvAll k m ts = some xs) : mvAll k m (t :: ts) = some (x :: xs) := by
  simp only [mvAll, h1, h2, Option.map_some]
theorem mvAll_app {k m : Int} : ∀ {a b r1 r2 : List TnM}, mvAll k m a = some r1 → mvAll k m b = some r2 → mvAll k m (a ++ b) = some (r1 ++ r2)
  | [], b, r1, r2, h1, h2 => by
    obtain rfl := Option.some.inj h1
    exact h2
  | t :: ts, b, r1, r2, h1, h2 => by
    obtain ⟨x, xs, rfl, e1, e2⟩ := mvAll_cons h1
    exact mvAll_mk e1 (mvAll_app e2 h2)
theorem mvAll_cut {k m : Int} : ∀ {a b r : List TnM}, mvAll k m (a ++ b) = some r → ∃ r1 r2, r = r1 ++ r2 ∧ mvAll k m a = some r1 ∧ mvAll k m b = some r2
  | [], b, r, h => ⟨[], r, rfl, rfl, h⟩
  | t :: ts, b, r, h => by
    obtain ⟨x, xs, rfl, e1, e2⟩ := mvAll_cons h
    obtain ⟨r1, r2, rfl, e3, e4⟩ := mvAll_cut e2
    exact ⟨x :: r1, r2, rfl, mvAll_mk e1 e3, e4⟩
theorem mvAll_rep {k m : Int} {t x : TnM} (h : mv1 k m t = some x) : ∀ n : Nat, mvAll k m (List.replicate n t) = some (List.replicate n x)
  | 0 => rfl
  | n + 1 => by
    rw [List.replicate_succ, List.replicate_succ]
    exact mvAll_mk h (mvAll_rep h n)
theorem mvAll_len {k m : Int} : ∀ {a r : List TnM}, mvAll k m a = some r → r.length = a.length ∧ r.all okT = true
  | [], r, h => by
    obtain rfl := Option.some.inj h
    exact ⟨rfl, rfl⟩
  | t :: ts, r, h => by
    obtain ⟨x, xs, rfl, e1, e2⟩ := mvAll_cons h
    obtain ⟨h1, h2⟩ := mvAll_len e2
    refine ⟨by rw [List.length_cons, List.length_cons, h1], ?_⟩
    rw [List.all_cons, (mv1_of e1).1, h2]
    rfl
theorem mvM_all {l : List TnM} {k : Int} {r : List TnM} (hne : l ≠ []) (h : mvM l k = (r, true)) : ∃ m, mvAll k m l = some r := by
  cases l with
  | nil => exact absurd rfl hne
  | cons t ts =>
    have h : (if okM (t :: ts) = true ∧ -20 ≤ k ∧ k ≤ 20 then mvTryP (t :: ts) k t false (mvTryP (t :: ts) k t true ([], false)) else ([], false)) = (r, true) := h
    split at h
    · rename_i hc
      have try_of : ∀ (b : Bool) (bad : List TnM × Bool), mvTryP (t :: ts) k t b bad = (r, true) → (∃ m, mvAll k m (t :: ts) = some r) ∨ bad = (r, true) := by
        intro b bad hh
        unfold mvTryP at hh
        split at hh
        · cases ha : mvAll k (hgt ⟨t.f0 + k, b⟩ - hgt t) (t :: ts) with
          | none => rw [ha] at hh; exact .inr hh
          | some q =>
            rw [ha] at hh
            obtain rfl := (Prod.mk.inj hh).1
            exact .inl ⟨_, ha⟩
        · exact .inr hh
      rcases try_of _ _ h with h1 | h1
      · exact h1
      · rcases try_of _ _ h1 with h2 | h2
        · exact h2
        · exact absurd (Prod.mk.inj h2).2 (by simp)
    · exact absurd (Prod.mk.inj h).2 (by simp)
def whole (ps : TL) (x : Int) (b : Bool) (pm pe : TL) : TL := ps ++ ⟨x, b⟩ :: (pm ++ pe)
abbrev PsR := TL × Int × Bool × TL × TL × Bool
def psOf (ps pm : TL) (m : TL) : PsR := (m.take ps.length, (rd_T25 m (ps.length : Int)).f0, (rd_T25 m (ps.length : Int)).f1, (m.take (ps.length + 1 + pm.length)).drop (ps.length + 1), m.drop (ps.length + 1 + pm.length), true)
def psMv (ps : TL) (x : Int) (b : Bool) (pm pe : TL) (k : Int) : PsR := if okPs ps x b pm pe = true then (if (mvM (whole ps x b pm pe) k).2 = true then psOf ps pm (mvM (whole ps x b pm pe) k).1 else ([], 0, false, [], [], false)) else ([], 0, false, [], [], false)
theorem psMv_of {ps pm pe : TL} {x : Int} {b : Bool} {k : Int} (h : (mvM (whole ps x b pm pe) k).2 = true) : ∃ m r1 t r3 r4, (mvM (whole ps x b pm pe) k).1 = r1 ++ t :: (r3 ++ r4) ∧ mvAll k m ps = some r1 ∧ mv1 k m ⟨x, b⟩ = some t ∧ mvAll k m pm = some r3 ∧ mvAll k m pe = some r4 := by
  have hne : whole ps x b pm pe ≠ [] := by unfold whole; simp
  obtain ⟨m, hm⟩ := mvM_all (r := (mvM (whole ps x b pm pe) k).1) hne (by rw [← h])
  unfold whole at hm
  obtain ⟨r1, r2, e, h1, h2⟩ := mvAll_cut hm
  obtain ⟨t, r', rfl, ht, h3⟩ := mvAll_cons h2
  obtain ⟨r3, r4, rfl, h4, h5⟩ := mvAll_cut h3
  exact ⟨m, r1, t, r3, r4, e, h1, ht, h4, h5⟩
theorem psOf_is {ps pm r1 r3 r4 : TL} {t : TnM} (h1 : r1.length = ps.length) (h3 : r3.length = pm.length) : psOf ps pm (r1 ++ t :: (r3 ++ r4)) = (r1, t.f0, t.f1, r3, r4, true) := by
  have hr : rd_T25 (r1 ++ t :: (r3 ++ r4)) (ps.length : Int) = t := by
    rw [rdT_lt (by rw [List.length_append, List.length_cons]; omega)]
    simp [← h1]
  unfold psOf
  rw [hr, ← h1, ← h3]
  have e1 : (r1 ++ t :: (r3 ++ r4)).take r1.length = r1 := List.take_left' rfl
  have e2 : (r1 ++ t :: (r3 ++ r4)).drop (r1.length + 1 + r3.length) = r4 := by
    rw [show r1 ++ t :: (r3 ++ r4) = (r1 ++ t :: r3) ++ r4 by simp]
    exact List.drop_left' (by simp; omega)
  have e3 : ((r1 ++ t :: (r3 ++ r4)).take (r1.length + 1 + r3.length)).drop (r1.length + 1) = r3 := by
    rw [show r1 ++ t :: (r3 ++ r4) = (r1 ++ t :: r3) ++ r4 by simp, List.take_left' (by simp; omega), show r1 ++ t :: r3 = (r1 ++ [t]) ++ r3 by simp]
    exact List.drop_left' (by simp)
  rw [e1, e2, e3]
theorem impl_psmove (ps : TL) (x : Int) (b : Bool) (pm pe : TL) (k : Int) : EvP (fun n => impl_PsalmMove.f n ps x b pm pe k) (· = psMv ps x b pm pe k) := by
  simp only [impl_PsalmMove.f]
  refine EvP.bind (impl_psalm ps x b pm pe) (fun _ e => ?_)
  subst e
  unfold psMv
  refine EvP.ite (fun h => ?_) (fun h => EvP.ret (by rw [if_neg h]))
  rw [if_pos h]
  obtain ⟨l1, _, l3, _, l4, _, _, _, _⟩ := okPs_lens h
  refine EvP.bind (P := (· = ps)) (EvP.con (show impl_copiedTones.f _ = _ from if_pos (by omega)) rfl) (fun y e => ?_)
  rw [e]
  clear e y
  refine EvP.bind (P := (· = [(⟨x, b⟩ : TnM)])) (EvP.ret rfl) (fun y e => ?_)
  rw [e]
  clear e y
  refine EvP.yes (by simp only [List.length_cons, List.length_nil]; omega) ?_
  refine EvP.bind (P := (· = ps ++ [(⟨x, b⟩ : TnM)])) (EvP.ret rfl) (fun y e => ?_)
  rw [e]
  clear e y
  refine EvP.yes (by simp only [List.length_append, List.length_cons, List.length_nil]; omega) ?_
  refine EvP.bind (P := (· = (ps ++ [(⟨x, b⟩ : TnM)]) ++ pm)) (EvP.ret rfl) (fun y e => ?_)
  rw [e]
  clear e y
  refine EvP.yes (by simp only [List.length_append, List.length_cons, List.length_nil]; omega) ?_
  have hw : (ps ++ [(⟨x, b⟩ : TnM)]) ++ pm ++ pe = whole ps x b pm pe := by unfold whole; simp
  have hwl : (whole ps x b pm pe).length = ps.length + 1 + pm.length + pe.length := by unfold whole; simp; omega
  rw [hw]
  refine EvP.bind (impl_mv _ k (by omega)) (fun y e => ?_)
  rw [e]
  clear e y
  refine EvP.ite (fun hm => ?_) (fun hm => EvP.ret (by rw [if_neg hm]))
  rw [if_pos hm]
  obtain ⟨m, r1, t, r3, r4, er, h1, ht, h3, h4⟩ := psMv_of hm
  have k1 := (mvAll_len h1).1
  have k3 := (mvAll_len h3).1
  have k4 := (mvAll_len h4).1
  have hl : (mvM (whole ps x b pm pe) k).1.length = ps.length + 1 + pm.length + pe.length := by rw [er]; simp; omega
  generalize (mvM (whole ps x b pm pe) k).1 = M at *
  have w1 : wrap64 ((ps.length : Int) + 1) = ((ps.length + 1 : Nat) : Int) := w64 (by omega) (by omega)
  have w2 : wrap64 (((ps.length + 1 : Nat) : Int) + (pm.length : Int)) = ((ps.length + 1 + pm.length : Nat) : Int) := by rw [w64 (by omega) (by omega)]; omega
  simp only [w1, w2, toNat_nat]
  clear w1 w2
  refine EvP.yes (by omega) (EvP.yes (by omega) ?_)
  refine EvP.bind (P := (· = M.take ps.length)) (EvP.con (show impl_copiedTones.f _ = _ from if_pos (by rw [List.length_take]; omega)) rfl) (fun y e => ?_)
  rw [e]
  clear e y
  refine EvP.yes (by omega) (EvP.yes (by omega) (EvP.yes (by omega) (EvP.yes (by omega) ?_)))
  refine EvP.bind (P := (· = (M.take (ps.length + 1 + pm.length)).drop (ps.length + 1))) (EvP.con (show impl_copiedTones.f _ = _ from if_pos (by rw [List.length_drop, List.length_take]; omega)) rfl) (fun y e => ?_)
  rw [e]
  clear e y
  refine EvP.yes (by omega) ?_
  refine EvP.bind (P := (· = M.drop (ps.length + 1 + pm.length))) (EvP.con (show impl_copiedTones.f _ = _ from if_pos (by rw [List.length_drop]; omega)) rfl) (fun y e => ?_)
  rw [e]
  exact EvP.ret rfl
theorem spec_psmove (ps : TL) (x : Int) (b : Bool) (pm pe : TL) (k : Int) (hs : ps.length ≤ 1000) (hpm : pm.length ≤ 1000) (hpe : pe.length ≤ 1000) : EvP (fun n => spec_PsalmMove.f n ps x b pm pe k) (· = psMv ps x b pm pe k) := by
  simp only [spec_PsalmMove.f]
  refine EvP.bind (spec_psalm ps x b pm pe (by omega) (by omega) (by omega)) (fun _ e => ?_)
  subst e
  unfold psMv
  refine EvP.ite (fun h => ?_) (fun h => EvP.ret (by rw [if_neg h]))
  rw [if_pos h]
  obtain ⟨l1, _, l3, _, l4, _, _, _, _⟩ := okPs_lens h
  have hwl : (whole ps x b pm pe).length = ps.length + 1 + pm.length + pe.length := by unfold whole; simp; omega
  have h4 : spec_l4Melody.f ps x b pm pe = some (whole ps x b pm pe) := by
    unfold spec_l4Melody.f whole
    simp only [Option.bind_some, List.nil_append]
    rw [if_pos (by simp; omega), if_pos (by omega), if_pos (by simp; omega), if_pos (by simp; omega)]
    simp
  refine EvP.bind (P := (· = whole ps x b pm pe)) (EvP.con h4 rfl) (fun y e => ?_)
  rw [e]
  clear e y
  refine EvP.bind (spec_mv _ k (by omega)) (fun y e => ?_)
  rw [e]
  clear e y
  refine EvP.ite (fun hm => ?_) (fun hm => EvP.ret (by rw [if_neg hm]))
  rw [if_pos hm]
  obtain ⟨m, r1, t, r3, r4, er, h1, ht, h3, h4⟩ := psMv_of hm
  have k1 := (mvAll_len h1).1
  have k3 := (mvAll_len h3).1
  have k4 := (mvAll_len h4).1
  have hl : (mvM (whole ps x b pm pe) k).1.length = ps.length + 1 + pm.length + pe.length := by rw [er]; simp; omega
  generalize (mvM (whole ps x b pm pe) k).1 = M at *
  have w1 : wrap64 ((ps.length : Int) + 1) = ((ps.length + 1 : Nat) : Int) := w64 (by omega) (by omega)
  have w2 : wrap64 (((ps.length + 1 : Nat) : Int) + (pm.length : Int)) = ((ps.length + 1 + pm.length : Nat) : Int) := by rw [w64 (by omega) (by omega)]; omega
  simp only [w1, w2, toNat_nat]
  clear w1 w2
  refine EvP.bind (P := (· = ([] : TL))) (EvP.ret rfl) (fun y e => ?_)
  rw [e]
  clear e y
  refine EvP.yes (by omega) (EvP.yes (by omega) ?_)
  refine EvP.bind (P := (· = M.take ps.length)) (EvP.ret rfl) (fun y e => ?_)
  rw [e]
  clear e y
  refine EvP.yes (by rw [List.length_nil, List.length_take]; omega) (EvP.yes (by omega) ?_)
  refine EvP.bind (P := (· = ([] : TL))) (EvP.ret rfl) (fun y e => ?_)
  rw [e]
  clear e y
  refine EvP.yes (by omega) (EvP.yes (by omega) (EvP.yes (by omega) ?_))
  refine EvP.bind (P := (· = (M.take (ps.length + 1 + pm.length)).drop (ps.length + 1))) (EvP.ret rfl) (fun y e => ?_)
  rw [e]
  clear e y
  refine EvP.yes (by rw [List.length_nil, List.length_drop, List.length_take]; omega) ?_
  refine EvP.bind (P := (· = ([] : TL))) (EvP.ret rfl) (fun y e => ?_)
  rw [e]
  clear e y
  refine EvP.yes (by omega) ?_
  refine EvP.bind (P := (· = M.drop (ps.length + 1 + pm.length))) (EvP.ret rfl) (fun y e => ?_)
  rw [e]
  exact EvP.yes (by rw [List.length_nil, List.length_drop]; omega) (EvP.ret rfl)
def semL : TnM → List TnM → List Int
  | _, [] => []
  | t, u :: us => (hgt u - hgt t) :: semL u us
def stepL : TnM → List TnM → List Int
  | _, [] => []
  | t, u :: us => (u.f0 - t.f0) :: stepL u us
theorem semL_len : ∀ (us : List TnM) (t : TnM), (semL t us).length = us.length
  | [], _ => rfl
  | u :: us, t => by simp only [semL, List.length_cons, semL_len us u]
theorem stepL_len : ∀ (us : List TnM) (t : TnM), (stepL t us).length = us.length
  | [], _ => rfl
  | u :: us, t => by simp only [stepL, List.length_cons, stepL_len us u]
theorem semL_mv {k m : Int} : ∀ {us vs : List TnM} {t x : TnM}, mv1 k m t = some x → mvAll k m us = some vs → semL x vs = semL t us
  | [], vs, t, x, _, h2 => by
    obtain rfl := Option.some.inj h2
    rfl
  | u :: us, vs, t, x, h1, h2 => by
    obtain ⟨v, vs', rfl, e1, e2⟩ := mvAll_cons h2
    simp only [semL, semL_mv e1 e2]
    have a1 := (mv1_of h1).2.1
    have a2 := (mv1_of e1).2.1
    congr 1
    omega
theorem stepL_mv {k m : Int} : ∀ {us vs : List TnM} {t x : TnM}, mv1 k m t = some x → mvAll k m us = some vs → stepL x vs = stepL t us
  | [], vs, t, x, _, h2 => by
    obtain rfl := Option.some.inj h2
    rfl
  | u :: us, vs, t, x, h1, h2 => by
    obtain ⟨v, vs', rfl, e1, e2⟩ := mvAll_cons h2
    simp only [stepL, stepL_mv e1 e2]
    have a1 := (mv1_of h1).2.2
    have a2 := (mv1_of e1).2.2
    congr 1
    omega
theorem tone_semis {t u : TnM} (ht : okT t = true) (hu : okT u = true) : EvP (fun n => impl_ToneSemis.f n t.f0 t.f1 u.f0 u.f1) (· = (hgt u - hgt t, true)) := by
  simp only [impl_ToneSemis.f]
  refine EvP.bind (P := (· = true)) (EvP.con ((impl_valid t).trans (congrArg some ht)) rfl) (fun _ e => ?_)
  subst e
  refine EvP.yes rfl ?_
  refine EvP.bind (P := (· = true)) (EvP.con ((impl_valid u).trans (congrArg some hu)) rfl) (fun _ e => ?_)
  subst e
  refine EvP.succ ?_
  simp only [impl_ToneSemis.j0]
  refine EvP.no (by decide) ?_
  refine EvP.bind (P := (· = hgt u)) (EvP.con (impl_h hu) rfl) (fun _ e => ?_)
  subst e
  refine EvP.bind (P := (· = hgt t)) (EvP.con (impl_h ht) rfl) (fun _ e => ?_)
  subst e
  have r1 := hgt_range ht
  have r2 := hgt_range hu
  exact EvP.ret (by rw [w64 (by omega) (by omega)])
theorem tone_steps {t u : TnM} (ht : okT t = true) (hu : okT u = true) : impl_ToneSteps.f t.f0 t.f1 u.f0 u.f1 = some (u.f0 - t.f0, true) := by
  unfold impl_ToneSteps.f
  have r1 := ok_range ht
  have r2 := ok_range hu
  rw [impl_valid t, ht, Option.bind_some, if_pos rfl, impl_valid u, hu, Option.bind_some, if_pos rfl, w64 (by omega) (by omega)]
theorem go_semis : ∀ (us : List TnM) (t : TnM) (acc : List Int), okT t = true → us.all okT = true → EvP (fun n => dfGo (fun t u => impl_ToneSemis.f n t.f0 t.f1 u.f0 u.f1) t us acc) (· = acc ++ semL t us)
  | [], t, acc, _, _ => by
    simp only [dfGo, semL, List.append_nil]
    exact EvP.ret rfl
  | u :: us, t, acc, ht, hu => by
    rw [List.all_cons, Bool.and_eq_true] at hu
    simp only [dfGo]
    refine EvP.bind (tone_semis ht hu.1) (fun _ e => ?_)
    subst e
    refine (go_semis us u _ hu.1 hu.2).mono (fun r hr => ?_)
    rw [hr]
    simp [semL]
theorem go_steps : ∀ (us : List TnM) (t : TnM) (acc : List Int), okT t = true → us.all okT = true → dfGo (fun t u => impl_ToneSteps.f t.f0 t.f1 u.f0 u.f1) t us acc = some (acc ++ stepL t us)
  | [], t, acc, _, _ => by simp only [dfGo, stepL, List.append_nil]
  | u :: us, t, acc, ht, hu => by
    rw [List.all_cons, Bool.and_eq_true] at hu
    simp only [dfGo]
    rw [tone_steps ht hu.1, Option.bind_some, go_steps us u _ hu.1 hu.2]
    simp [stepL]
theorem impl_semis {t : TnM} {ts : List TnM} (h : okM (t :: ts) = true) : EvP (fun n => impl_MelodySemis.f n (t :: ts)) (· = semL t ts) := by
  obtain ⟨h1, h2⟩ : (t :: ts).all okT = true ∧ (t :: ts).length ≤ 24 := by unfold okM at h; simpa using h
  simp only [impl_MelodySemis.f, differences.f, dfAll]
  refine EvP.yes (by omega) ?_
  refine EvP.bind (impl_melody _) (fun _ e => ?_)
  subst e
  refine EvP.yes h ?_
  rw [List.all_cons, Bool.and_eq_true] at h1
  exact go_semis ts t [] h1.1 h1.2
theorem impl_steps {t : TnM} {ts : List TnM} (h : okM (t :: ts) = true) : EvP (fun n => impl_MelodySteps.f n (t :: ts)) (· = stepL t ts) := by
  obtain ⟨h1, h2⟩ : (t :: ts).all okT = true ∧ (t :: ts).length ≤ 24 := by unfold okM at h; simpa using h
  simp only [impl_MelodySteps.f, differences.f, dfAll]
  refine EvP.yes (by omega) ?_
  refine EvP.bind (impl_melody _) (fun _ e => ?_)
  subst e
  refine EvP.yes h ?_
  rw [List.all_cons, Bool.and_eq_true] at h1
  exact EvP.con (go_steps ts t [] h1.1 h1.2) rfl
theorem eqN_loop (l : List Int) (hl : l.length ≤ 1000000) : ∀ d i : Nat, i + d = l.length → EvP (fun n => impl_equalNumbers.l0 n l l (l.length : Int) (i : Int)) (· = true) := by
  intro d
  induction d with
  | zero =>
    intro i hi
    refine EvP.succ ?_
    simp only [impl_equalNumbers.l0]
    exact EvP.no (by omega) (EvP.ret rfl)
  | succ d ih =>
    intro i hi
    refine EvP.succ ?_
    simp only [impl_equalNumbers.l0]
    refine EvP.yes (by omega) (EvP.yes (by omega) (EvP.yes (by omega) (EvP.yes (by omega) (EvP.yes (by first | rfl | trivial) ?_))))
    rw [w64 (by omega) (by omega)]
    exact ih (i + 1) (by omega)
theorem eqN_ok (l : List Int) (hl : l.length ≤ 1000000) : EvP (fun n => impl_equalNumbers.f n l l) (· = true) := by
  unfold impl_equalNumbers.f
  exact EvP.yes (by first | rfl | trivial) (eqN_loop l hl l.length 0 (by omega))
theorem same_mv {k m : Int} {a r : List TnM} (ha : okM a = true) (hne : a ≠ []) (h : mvAll k m a = some r) : EvP (fun n => impl_MelodySame.f n a r) (· = true) := by
  obtain ⟨h1, h2⟩ : a.all okT = true ∧ a.length ≤ 24 := by unfold okM at ha; simpa using ha
  obtain ⟨k1, k2⟩ := mvAll_len h
  have hr : okM r = true := by
    unfold okM
    rw [k2, k1, decide_eq_true h2]
    rfl
  cases a with
  | nil => exact absurd rfl hne
  | cons t ts =>
    obtain ⟨x, xs, rfl, e1, e2⟩ := mvAll_cons h
    rw [List.length_cons] at h2
    simp only [impl_MelodySame.f]
    refine EvP.bind (impl_melody _) (fun _ e => ?_)
    subst e
    refine EvP.yes ha ?_
    refine EvP.bind (impl_melody _) (fun _ e => ?_)
    subst e
    refine EvP.yes hr (EvP.yes (by rw [k1]) ?_)
    refine EvP.bind (impl_semis ha) (fun _ e => ?_)
    subst e
    refine EvP.bind (impl_semis hr) (fun _ e => ?_)
    subst e
    rw [semL_mv e1 e2]
    refine EvP.bind (eqN_ok _ (by rw [semL_len]; omega)) (fun _ e => ?_)
    subst e
    refine EvP.yes rfl ?_
    refine EvP.bind (impl_steps ha) (fun _ e => ?_)
    subst e
    refine EvP.bind (impl_steps hr) (fun _ e => ?_)
    subst e
    rw [stepL_mv e1 e2]
    exact EvP.bind (eqN_ok _ (by rw [stepL_len]; omega)) (fun _ e => EvP.ret e)
end Go.Proofs.YtdgmkfbmeaalpaaDoor.Pur
end
section
namespace Go.Proofs.YtdgmkfbmeaalpaaDoor.Pur
open Go.RowKit Go.Proofs.YtdgmkfbmeaalpaaDoorW.PrintWords Go.Proofs.YtdgmkfbmeaalpaaDoorW.PrintMore Go.Proofs.YtdgmkfbmeaalpaaDoor.E
def okB (B : List Int) : Prop := B.length ≤ 2000 ∧ ∀ x ∈ B, 0 ≤ x ∧ x ≤ 255
theorem byte_range {x : Int} (h : (Lit.int .u8 x).wf = true) : 0 ≤ x ∧ x ≤ 255 := by
  simp [Lit.wf, IntKind.min, IntKind.max, IntKind.signed, IntKind.bits] at h
  omega
theorem okB_rd {B : List Int} (h : okB B) (i : Int) : 0 ≤ rd B i ∧ rd B i ≤ 255 := by
  unfold rd
  rw [List.getD_eq_getElem?_getD]
  cases e : B[i.toNat]? with
  | none => simp
  | some v => simpa using h.2 v (List.mem_of_getElem? e)
theorem open_code (l : List Int) (h : ∀ x ∈ l, (Lit.int .u8 x).wf = true) : EvP (fun _ => spec_l6Open.f l) (fun r => okB r.1 ∧ r.2 = 0) := by
  unfold spec_l6Open.f
  refine EvP.ite (fun h1 => EvP.yes (by omega) (EvP.ret ⟨⟨by simp; omega, fun x hx => byte_range (h x (List.mem_of_mem_take hx))⟩, rfl⟩)) (fun h1 => EvP.ret ⟨⟨by dsimp only; omega, fun x hx => byte_range (h x hx)⟩, rfl⟩)
theorem xor_nn {x y : Int} (hx : 0 ≤ x) (hx' : x < 4611686018427387904) (hy : 0 ≤ y) (hy' : y < 4611686018427387904) : 0 ≤ Go.bits .xor .i64 x y := by
  obtain ⟨a, rfl⟩ := Int.eq_ofNat_of_zero_le hx
  obtain ⟨b, rfl⟩ := Int.eq_ofNat_of_zero_le hy
  have ha : a < 2 ^ 62 := by omega
  have hb : b < 2 ^ 62 := by omega
  have hx : a ^^^ b < 2 ^ 62 := Nat.xor_lt_two_pow ha hb
  have ea : a % 2 ^ IntKind.i64.bits = a := Nat.mod_eq_of_lt (by simp [IntKind.bits]; omega)
  have eb : b % 2 ^ IntKind.i64.bits = b := Nat.mod_eq_of_lt (by simp [IntKind.bits]; omega)
  simp only [Go.bits, BitVec.ofInt_natCast, BitVec.toNat_xor, BitVec.toNat_ofNat, ea, eb]
  rw [IntKind.wrap_i64]
  omega
theorem mix_ok (E n : Int) (h0 : 0 ≤ E) (h1 : E < 4611686018427387904) (hn : 1 ≤ n) :
    0 ≤ Int.tmod (Go.bits .xor .i64 E (wrap64 (Int.tdiv E 64))) n ∧ Int.tmod (Go.bits .xor .i64 E (wrap64 (Int.tdiv E 64))) n < n := by
  have hd : Int.tdiv E 64 = E / 64 := tdiv_pos 64 h0
  have h2 := xor_nn h0 h1 (y := wrap64 (Int.tdiv E 64)) (by rw [hd, w64 (by omega) (by omega)]; omega) (by rw [hd, w64 (by omega) (by omega)]; omega)
  exact ⟨Int.tmod_nonneg n h2, Int.tmod_lt_of_pos _ (by omega)⟩
theorem mixE (r1 r2 p q : Int) (a1 : 0 ≤ r1 ∧ r1 ≤ 255) (a2 : 0 ≤ r2 ∧ r2 ≤ 255) (hp : 0 ≤ p ∧ p ≤ 1000000000) (hq : 0 ≤ q ∧ q ≤ 1000000000) :
    (wrap64 ((wrap64 ((wrap64 ((wrap64 ((wrap64 r1) * 131)) + (wrap64 ((wrap64 r2) * 1117)))) + (wrap64 (p * 29)))) + (wrap64 ((wrap64 q) * 53)))) = r1 * 131 + r2 * 1117 + p * 29 + q * 53 := by
  rw [w64 (i := r1) (by omega) (by omega), w64 (i := r2) (by omega) (by omega), w64 (i := q) (by omega) (by omega), w64 (i := r1 * 131) (by omega) (by omega), w64 (i := r2 * 1117) (by omega) (by omega), w64 (i := p * 29) (by omega) (by omega),
    w64 (i := q * 53) (by omega) (by omega), w64 (i := r1 * 131 + r2 * 1117) (by omega) (by omega), w64 (i := r1 * 131 + r2 * 1117 + p * 29) (by omega) (by omega), w64 (by omega) (by omega)]
theorem pick_ok {B : List Int} (hB : okB B) (p n : Int) (hp : 0 ≤ p ∧ p ≤ 100000000) (hn : 1 ≤ n ∧ n ≤ 1000000) : EvP (fun k => spec_l6Rd_pick.f k B p n) (fun r => 0 ≤ r.1 ∧ r.1 < n ∧ r.2 = p + 1) := by
  unfold spec_l6Rd_pick.f
  have e1 : wrap64 (p + 1) = p + 1 := w64 (by omega) (by omega)
  have e2 : wrap64 (p + 1 - 1) = p := by rw [w64 (by omega) (by omega)]; omega
  have hl := hB.1
  rw [e1]
  refine EvP.no (by omega) ?_
  refine EvP.succ ?_
  simp only [spec_l6Rd_pick.j0, e2]
  clear e1 e2
  refine EvP.ite (fun h0 => EvP.ret ⟨by omega, by dsimp only; omega, rfl⟩) (fun h0 => ?_)
  have hpos : 0 < (B.length : Int) := by
    rw [beq_iff_eq] at h0
    omega
  refine EvP.ite (fun h1 => ?_) (fun h1 => ?_)
  · have hr := okB_rd hB p
    refine EvP.yes (by omega) (EvP.no (by omega) (EvP.ret ⟨?_, ?_, rfl⟩))
    · rw [w64 (by omega) (by omega)]; exact Int.tmod_nonneg n hr.1
    · exact Int.tmod_lt_of_pos _ (by omega)
  · refine EvP.no (by omega) ?_
    have m1 : Int.tmod p (B.length : Int) = p % (B.length : Int) := tmod_pos _ hp.1
    have hm1 : 0 ≤ Int.tmod p (B.length : Int) ∧ Int.tmod p (B.length : Int) < (B.length : Int) := by rw [m1]; exact ⟨Int.emod_nonneg _ (by omega), Int.emod_lt_of_pos _ hpos⟩
    have e3 : wrap64 ((wrap64 (p * 7)) + 3) = p * 7 + 3 := by rw [w64 (i := p * 7) (by omega) (by omega), w64 (by omega) (by omega)]
    rw [e3]
    clear e3
    have hm2 : 0 ≤ Int.tmod (p * 7 + 3) (B.length : Int) ∧ Int.tmod (p * 7 + 3) (B.length : Int) < (B.length : Int) := by rw [tmod_pos _ (by omega)]; exact ⟨Int.emod_nonneg _ (by omega), Int.emod_lt_of_pos _ hpos⟩
    have hq : 0 ≤ Int.tdiv p (B.length : Int) ∧ Int.tdiv p (B.length : Int) ≤ 1000000000 := by
      rw [tdiv_pos _ hp.1]
      have := Int.ediv_le_self (B.length : Int) hp.1
      exact ⟨Int.ediv_nonneg hp.1 (by omega), by omega⟩
    have a1 := okB_rd hB (Int.tmod p (B.length : Int))
    have a2 := okB_rd hB (Int.tmod (p * 7 + 3) (B.length : Int))
    refine EvP.yes hm1.1 (EvP.yes hm1.2 (EvP.yes hm2.1 (EvP.yes hm2.2 (EvP.no (by omega) ?_))))
    rw [mixE _ _ p _ a1 a2 (by omega) hq]
    have := mix_ok (rd B (Int.tmod p (B.length : Int)) * 131 + rd B (Int.tmod (p * 7 + 3) (B.length : Int)) * 1117 + p * 29 + Int.tdiv p (B.length : Int) * 53) n (by omega) (by omega) hn.1
    exact EvP.ret ⟨this.1, this.2, rfl⟩
end Go.Proofs.YtdgmkfbmeaalpaaDoor.Pur
end
section
namespace Go.Proofs.YtdgmkfbmeaalpaaDoor.E
open Go.RowKit Go.Proofs.YtdgmkfbmeaalpaaDoorW.PrintWords Go.Proofs.YtdgmkfbmeaalpaaDoorW.PrintLast Go.Proofs.YtdgmkfbmeaalpaaDoorW.PrintMore
attribute [local go_sem] max2_int min2_int max_two min_two max_three min_three max_four min_four
set_option linter.unusedVariables false
set_option linter.unusedSimpArgs false
attribute [local go_sem] str_leq_ str_gtr_ str_geq_
def spec_l6Rd_of.f (k : Nat) (s0_0 : List Int) (s0_1 : Int) (l1 : List ByteArray) : Option (ByteArray × Int) := (spec_l6Rd_pick.f k s0_0 s0_1 (l1.length : Int)).bind fun bt104 => (if 0 ≤ bt104.1 then (if bt104.1 < (l1.length : Int) then (some (rdOf ByteArray.empty l1 bt104.1, bt104.2)) else (none)) else (none))
mutual
def spec_l91Verse.l0 : Nat → ByteArray → Int → List Int → Int → Option (ByteArray × Int)
 | 0, _, _, _, _ => none
 | k + 1, x3, x4, x1000, x1001 => if x4 < 2 then ((spec_l6Rd_pick.f k x1000 x1001 8).bind fun bt107 => (spec_l91Verse.l1 k x3 x4 (wrap64 (1 + bt107.1)) 0 x1000 bt107.2)) else ((spec_l6Rd_pick.f k x1000 x1001 24).bind fun bt114 => (if bt114.1 = 0 then ((spec_l6Rd_of.f k x1000 bt114.2 (([(⟨#[124, 120]⟩ : ByteArray), (⟨#[121]⟩ : ByteArray), (⟨#[]⟩ : ByteArray)] : List ByteArray))).bind fun bt119 => (if x3.size + bt119.1.size ≤ 9223372036854775807 then (some (x3 ++ bt119.1, bt119.2)) else (none))) else (if bt114.1 = 1 then ((spec_l6Rd_of.f k x1000 bt114.2 (([(⟨#[]⟩ : ByteArray), (⟨#[124]⟩ : ByteArray), (⟨#[120, 124]⟩ : ByteArray), (⟨#[124, 120]⟩ : ByteArray), (⟨#[120, 120]⟩ : ByteArray), (⟨#[120, 124, 47]⟩ : ByteArray)] : List ByteArray))).bind fun bt124 => (some (bt124.1, bt124.2))) else (if bt114.1 = 2 then (if x3.size + 12 ≤ 9223372036854775807 then (some (x3 ++ (⟨#[120, 120, 120, 120, 120, 120, 120, 120, 120, 120, 120, 120]⟩ : ByteArray), bt114.2)) else (none)) else (some (x3, bt114.2))))))
def spec_l91Verse.l1 : Nat → ByteArray → Int → Int → Int → List Int → Int → Option (ByteArray × Int)
 | 0, _, _, _, _, _, _ => none
 | k + 1, x3, x4, x5, x6, x1000, x1001 => if x6 < x5 then ((spec_l6Rd_of.f k x1000 x1001 (([(⟨#[120]⟩ : ByteArray), (⟨#[47]⟩ : ByteArray), (⟨#[120]⟩ : ByteArray)] : List ByteArray))).bind fun bt112 => (if x3.size + bt112.1.size ≤ 9223372036854775807 then (spec_l91Verse.l1 k (x3 ++ bt112.1) x4 x5 (wrap64 (x6 + 1)) x1000 bt112.2) else (none))) else (if x4 = 0 then (if x3.size + 1 ≤ 9223372036854775807 then (spec_l91Verse.l0 k (x3 ++ (⟨#[124]⟩ : ByteArray)) (wrap64 (x4 + 1)) x1000 x1001) else (none)) else (spec_l91Verse.l0 k x3 (wrap64 (x4 + 1)) x1000 x1001))
end
def spec_l91Verse.f (k : Nat) (s0_0 : List Int) (s0_1 : Int) : Option (ByteArray × Int) := spec_l91Verse.l0 k (⟨#[]⟩ : ByteArray) 0 s0_0 s0_1
def spec_l91Sing.f (k : Nat) (s0_0 : List Int) (s0_1 : Int) : Option ((List (S25)) × Int × Bool × (List (S25)) × (List (S25)) × ByteArray × Int) := (spec_l91Psalm.f k s0_0 s0_1).bind fun bt172 => ((spec_l91Verse.f k s0_0 bt172.2.2.2.2.2).bind fun bt185 => (some (bt172.1, bt172.2.1, bt172.2.2.1, bt172.2.2.2.1, bt172.2.2.2.2.1, bt185.1, bt185.2)))
def spec_DrawPsalmAccents.f (k : Nat) (l0 : List Int) : Option ((List (S25)) × Int × Bool × (List (S25)) × (List (S25)) × ByteArray) := (spec_l6Open.f l0).bind fun bt400 => ((spec_l91Sing.f k bt400.1 bt400.2).bind fun bt403 => (some (bt403.1, bt403.2.1, bt403.2.2.1, bt403.2.2.2.1, bt403.2.2.2.2.1, bt403.2.2.2.2.2.1)))
end Go.Proofs.YtdgmkfbmeaalpaaDoor.E
end
