/- Proved: for all arguments the given program's laws.FnExactGroupsRead returns true, and its arguments and the package-level variables that it is given read afterwards as they read before (the given constant Rows.FnExactGroupsReadCardSaid).
Conditions: none ahead of the given statement; the statement itself begins in a world whose listed package-level variables hold what the program's text lays there, and its card ties them to that text. -/
import Derived.Test.YtldepdaglapdeaaDoorRowFnExactGroupsReadK1
section
namespace Go.Proofs.YtldepdaglapdeaaDoor.E
open Go.RowKit Go.Proofs.YtldepdaglapdeaaDoorW.PrintWords Go.Proofs.YtldepdaglapdeaaDoorW.PrintLast Go.Proofs.YtldepdaglapdeaaDoorW.PrintMore
attribute [local go_sem] max2_int min2_int max_two min_two max_three min_three max_four min_four
set_option linter.unusedVariables false
set_option linter.unusedSimpArgs false
attribute [local go_sem] str_leq_ str_gtr_ str_geq_
def impl_GroupsRead.f (k : Nat) (l0 : List (S56)) (l1 : List (S42)) (a2 : ByteArray) : Option (Bool) := (impl_GroupsValid.f k l0 l1).bind fun t234 => (if t234 = true then ((impl_GroupsNames.f k l0 l1).bind fun t235 => (some (a2.toList == t235.toList))) else (some false))
set_option maxHeartbeats 8000000 in
set_option maxRecDepth 100000 in
theorem impl_GroupsRead.calls (k : Nat) (A0 : Option Addr) (c0 : Nat) (l0 : List (S56)) (A1 : Option Addr) (c1 : Nat) (l1 : List (S42)) (a2 : ByteArray) (r : Bool) (w : World) (hr0 : Kd.C k56 w A0 l0.length l0) (hc0 : l0.length ≤ c0) (hr1 : Kd.C k42 w A1 l1.length l1) (hc1 : l1.length ≤ c1) (hG : GOk [0] w) (h : impl_GroupsRead.f k l0 l1 a2 = some r) :
  Calls Tryd.prog 18 #[.slice A0 l0.length c0, .slice A1 l1.length c1, .string a2] w fun e w' => e = .returned (.bool r) ∧ Below w.heap.size w w' := by
 have HR0 := Aside0.mk hr0
 have HC0 := Aside0.mk hc0
 clear hr0 hc0
 have HR1 := Aside0.mk hr1
 have HC1 := Aside0.mk hc1
 clear hr1 hc1
 have HB := Aside0.mk (Below.refl w.heap.size w)
 have HG := Aside0.mk hG
 clear hG
 have H : ((impl_GroupsValid.f k l0 l1).bind fun t234 => (if t234 = true then ((impl_GroupsNames.f k l0 l1).bind fun t235 => (some (a2.toList == t235.toList))) else (some false))) = some r := h
 clear h
 replace H := Option.bind_eq_some_iff.mp H
 obtain ⟨t234, A40, H⟩ := H
 replace H : (if t234 = true then ((impl_GroupsNames.f k l0 l1).bind fun t235 => (some (a2.toList == t235.toList))) else (some false)) = some r := H
 have A4 := Aside0.mk A40
 clear A40
 by_cases c5 : t234 = true
 rotate_left
 ·replace c5 := Bool.eq_false_iff.mpr c5
  subst c5
  have H1 : (some false) = some r := by rw [if_neg (show ¬ (false = true) by decide)] at H; exact H
  clear H
  have H := H1
  clear H1
  obtain rfl := Option.some.inj H
  go_enter Tryd.func18, Tryd.ntmps18
  go_wp2_with (first | ((with_reducible refine gate_callee (f := 42) rfl ?_); refine goesL_ (some 9) rfl rfl Tryd.func42 (by kernel_rfl) rfl #[.slice A0 l0.length c0, .slice A1 l1.length c1] rfl (by (try simp only [List.map_toArray, List.map_cons, List.map_nil]); first | done | rfl | (simp only [List.length_drop, List.length_take]; rfl)) ?_; (with_reducible refine (impl_GroupsValid.calls k _ _ l0 _ _ l1 false _ ?side1 ?side2 ?side3 ?side4 A4.out).mono ?_); (case side1 => repeat (first | exact HR0.out | (with_reducible refine Kd.C_alloc ?_ _) | (with_reducible refine Kd.C_drewN ?_ _) | (with_reducible refine Kd.C_drew ?_))); (case side2 => exact HC0.out); (case side3 => repeat (first | exact HR1.out | (with_reducible refine Kd.C_alloc ?_ _) | (with_reducible refine Kd.C_drewN ?_ _) | (with_reducible refine Kd.C_drew ?_))); (case side4 => exact HC1.out); rintro e w9 ⟨rfl, hb⟩; refine ⟨_, rfl, ?_⟩; have n0_ := Aside0.mk (below_step (by repeat (first | (with_reducible first | exact HB.out | apply below_alloc | apply pw_below_drewN | apply below_drew1) | exact HB.out)) hb); clear HB; have HB := n0_; clear n0_; (try clear hb); (try clear hb2); (try clear hk); (try clear hi)))
  go_ret
  exact ⟨by first | rfl | (simp [errW_none, errW_some] <;> rfl) | (simp [*, errW_none, errW_some] <;> rfl), by repeat (first | (with_reducible first | exact HB.out | apply below_alloc | apply pw_below_drewN | apply below_drew1) | exact HB.out)⟩
 subst c5
 have H1 : ((impl_GroupsNames.f k l0 l1).bind fun t235 => (some (a2.toList == t235.toList))) = some r := by rw [if_pos rfl] at H; exact H
 clear H
 have H := H1
 clear H1
 replace H := Option.bind_eq_some_iff.mp H
 obtain ⟨t235, A60, H⟩ := H
 replace H : (some (a2.toList == t235.toList)) = some r := H
 have A6 := Aside0.mk A60
 clear A60
 obtain rfl := Option.some.inj H
 go_enter Tryd.func18, Tryd.ntmps18
 go_wp2_with (first | ((with_reducible refine gate_callee (f := 42) rfl ?_); refine goesL_ (some 9) rfl rfl Tryd.func42 (by kernel_rfl) rfl #[.slice A0 l0.length c0, .slice A1 l1.length c1] rfl (by (try simp only [List.map_toArray, List.map_cons, List.map_nil]); first | done | rfl | (simp only [List.length_drop, List.length_take]; rfl)) ?_; (with_reducible refine (impl_GroupsValid.calls k _ _ l0 _ _ l1 true _ ?side1 ?side2 ?side3 ?side4 A4.out).mono ?_); (case side1 => repeat (first | exact HR0.out | (with_reducible refine Kd.C_alloc ?_ _) | (with_reducible refine Kd.C_drewN ?_ _) | (with_reducible refine Kd.C_drew ?_))); (case side2 => exact HC0.out); (case side3 => repeat (first | exact HR1.out | (with_reducible refine Kd.C_alloc ?_ _) | (with_reducible refine Kd.C_drewN ?_ _) | (with_reducible refine Kd.C_drew ?_))); (case side4 => exact HC1.out); rintro e w7 ⟨rfl, hb⟩; refine ⟨_, rfl, ?_⟩; have n0_ := Aside0.mk (below_step (by repeat (first | (with_reducible first | exact HB.out | apply below_alloc | apply pw_below_drewN | apply below_drew1) | exact HB.out)) hb); clear HB; have HB := n0_; clear n0_; (try clear hb); (try clear hb2); (try clear hk); (try clear hi)) | (go_at_call 14; (with_reducible refine (impl_GroupsNames.calls k _ _ l0 _ _ l1 t235 _ ?side1 ?side2 ?side3 ?side4 ?side5 A6.out).mono ?_); (case side1 => repeat (first | exact (Kd.C_below HR0.out HB.out) | (with_reducible refine Kd.C_alloc ?_ _) | (with_reducible refine Kd.C_drewN ?_ _) | (with_reducible refine Kd.C_drew ?_))); (case side2 => exact HC0.out); (case side3 => repeat (first | exact (Kd.C_below HR1.out HB.out) | (with_reducible refine Kd.C_alloc ?_ _) | (with_reducible refine Kd.C_drewN ?_ _) | (with_reducible refine Kd.C_drew ?_))); (case side4 => exact HC1.out); (case side5 => exact GOk.sub (GOk.below HG.out (by repeat (first | (with_reducible first | exact HB.out | apply below_alloc | apply pw_below_drewN | apply below_drew1) | exact HB.out))) (by decide)); rintro e w8 ⟨rfl, hb⟩; have n0_ := Aside0.mk (below_step (by repeat (first | (with_reducible first | exact HB.out | apply below_alloc | apply pw_below_drewN | apply below_drew1) | exact HB.out)) hb); clear HB; have HB := n0_; clear n0_; (try clear hb); (try clear hb2); (try clear hk); (try clear hi)))
 go_ret
 exact ⟨by first | rfl | (simp [errW_none, errW_some] <;> rfl) | (simp [*, errW_none, errW_some] <;> rfl), by repeat (first | (with_reducible first | exact HB.out | apply below_alloc | apply pw_below_drewN | apply below_drew1) | exact HB.out)⟩
end Go.Proofs.YtldepdaglapdeaaDoor.E
end
section
namespace Go.Proofs.YtldepdaglapdeaaDoor.E
open Go.RowKit Go.Proofs.YtldepdaglapdeaaDoorW.PrintWords Go.Proofs.YtldepdaglapdeaaDoorW.PrintLast Go.Proofs.YtldepdaglapdeaaDoorW.PrintMore
attribute [local go_sem] max2_int min2_int max_two min_two max_three min_three max_four min_four
set_option linter.unusedVariables false
set_option linter.unusedSimpArgs false
attribute [local go_sem] str_leq_ str_gtr_ str_geq_
def laws_FnExactGroupsRead.f (k : Nat) (l0 : List (S64)) (l1 : List (S66)) (a2 : ByteArray) : Option (Bool) := if (a2.size : Int) > 1048576 then (some true) else ((laws_szToneS.f l0 1048576).bind fun t236 => (if t236 < 0 then (some true) else ((laws_szMelismaS.f l1 t236).bind fun t237 => (if t237 < 0 then (some true) else ((laws_toToneS.f k l0).bind fun t238 => ((laws_toMelismaS.f k l1).bind fun t241 => ((spec_GroupsRead.f k t238 t241 a2).bind fun t244 => ((laws_toToneS.f k l0).bind fun t245 => ((laws_toMelismaS.f k l1).bind fun t248 => ((impl_GroupsRead.f k t245 t248 a2).bind fun t251 => (if (t251 != t244) = true then (none) else ((laws_toToneS.f k l0).bind fun t252 => ((laws_eqToneS.f k t245 t252).bind fun t255 => (if t255 = true then ((laws_toMelismaS.f k l1).bind fun t256 => ((laws_eqMelismaS.f k t248 t256).bind fun t259 => (if t259 = true then (some true) else (none)))) else (none)))))))))))))))
set_option maxHeartbeats 8000000 in
set_option maxRecDepth 100000 in
theorem laws_FnExactGroupsRead.calls (k : Nat) (A0 : Option Addr) (c0 : Nat) (l0 : List (S64)) (A1 : Option Addr) (c1 : Nat) (l1 : List (S66)) (a2 : ByteArray) (r : Bool) (w : World) (hr0 : Kd.C k64 w A0 l0.length l0) (hc0 : l0.length ≤ c0) (hr1 : Kd.C k66 w A1 l1.length l1) (hc1 : l1.length ≤ c1) (hG : GOk [0] w) (h : laws_FnExactGroupsRead.f k l0 l1 a2 = some r) :
  Calls Tryd.prog 4 #[.slice A0 l0.length c0, .slice A1 l1.length c1, .string a2] w fun e w' => e = .returned (.bool r) ∧ Below w.heap.size w w' := by
 have HR0 := Aside0.mk hr0
 have HC0 := Aside0.mk hc0
 clear hr0 hc0
 have HR1 := Aside0.mk hr1
 have HC1 := Aside0.mk hc1
 clear hr1 hc1
 have HB := Aside0.mk (Below.refl w.heap.size w)
 have HG := Aside0.mk hG
 clear hG
 have H : (if (a2.size : Int) > 1048576 then (some true) else ((laws_szToneS.f l0 1048576).bind fun t236 => (if t236 < 0 then (some true) else ((laws_szMelismaS.f l1 t236).bind fun t237 => (if t237 < 0 then (some true) else ((laws_toToneS.f k l0).bind fun t238 => ((laws_toMelismaS.f k l1).bind fun t241 => ((spec_GroupsRead.f k t238 t241 a2).bind fun t244 => ((laws_toToneS.f k l0).bind fun t245 => ((laws_toMelismaS.f k l1).bind fun t248 => ((impl_GroupsRead.f k t245 t248 a2).bind fun t251 => (if (t251 != t244) = true then (none) else ((laws_toToneS.f k l0).bind fun t252 => ((laws_eqToneS.f k t245 t252).bind fun t255 => (if t255 = true then ((laws_toMelismaS.f k l1).bind fun t256 => ((laws_eqMelismaS.f k t248 t256).bind fun t259 => (if t259 = true then (some true) else (none)))) else (none)))))))))))))))) = some r := h
 clear h
 by_cases c4 : (a2.size : Int) > 1048576
 ·rw [if_pos c4] at H
  have c4b0 : decide (1048576 < (a2.size : Int)) = true := decide_eq_true c4
  have c4b1 : decide (1048576 < a2.size) = true := decide_eq_true (by omega)
  clear c4
  obtain rfl := Option.some.inj H
  go_enter Tryd.func4, Tryd.ntmps4
  go_wp2
  go_ret
  exact ⟨by first | rfl | (simp [errW_none, errW_some] <;> rfl) | (simp [*, errW_none, errW_some] <;> rfl), by repeat (first | (with_reducible first | exact HB.out | apply below_alloc | apply pw_below_drewN | apply below_drew1) | exact HB.out)⟩
 rw [if_neg c4] at H
 have c4b0 : decide (1048576 < (a2.size : Int)) = false := decide_eq_false c4
 have c4b1 : decide (1048576 < a2.size) = false := decide_eq_false (by omega)
 clear c4
 replace H := Option.bind_eq_some_iff.mp H
 obtain ⟨t236, A50, H⟩ := H
 replace H : (if t236 < 0 then (some true) else ((laws_szMelismaS.f l1 t236).bind fun t237 => (if t237 < 0 then (some true) else ((laws_toToneS.f k l0).bind fun t238 => ((laws_toMelismaS.f k l1).bind fun t241 => ((spec_GroupsRead.f k t238 t241 a2).bind fun t244 => ((laws_toToneS.f k l0).bind fun t245 => ((laws_toMelismaS.f k l1).bind fun t248 => ((impl_GroupsRead.f k t245 t248 a2).bind fun t251 => (if (t251 != t244) = true then (none) else ((laws_toToneS.f k l0).bind fun t252 => ((laws_eqToneS.f k t245 t252).bind fun t255 => (if t255 = true then ((laws_toMelismaS.f k l1).bind fun t256 => ((laws_eqMelismaS.f k t248 t256).bind fun t259 => (if t259 = true then (some true) else (none)))) else (none)))))))))))))) = some r := H
 have A5 := Aside0.mk A50
 clear A50
 by_cases c6 : t236 < 0
 ·rw [if_pos c6] at H
  have c6b0 : decide (t236 < 0) = true := decide_eq_true c6
  clear c6
  obtain rfl := Option.some.inj H
  go_enter Tryd.func4, Tryd.ntmps4
  go_wp2_with (first | ((with_reducible refine gate_callee (f := 9) rfl ?_); refine goesL_ (some 17) rfl rfl Tryd.func9 (by kernel_rfl) rfl #[.slice A0 l0.length c0, .int .i64 1048576] rfl (by (try simp only [List.map_toArray, List.map_cons, List.map_nil]); first | done | rfl | (simp only [List.length_drop, List.length_take]; rfl)) ?_; (with_reducible refine (laws_szToneS.calls _ _ l0 1048576 t236 _ ?side1 ?side2 A5.out).mono ?_); (case side1 => repeat (first | exact HR0.out | (with_reducible refine Kd.C_alloc ?_ _) | (with_reducible refine Kd.C_drewN ?_ _) | (with_reducible refine Kd.C_drew ?_))); (case side2 => exact HC0.out); rintro e w' ⟨rfl, ⟨nd, rfl⟩⟩; refine ⟨_, rfl, ?_⟩))
  go_ret
  exact ⟨by first | rfl | (simp [errW_none, errW_some] <;> rfl) | (simp [*, errW_none, errW_some] <;> rfl), by repeat (first | (with_reducible first | exact HB.out | apply below_alloc | apply pw_below_drewN | apply below_drew1) | exact HB.out)⟩
 rw [if_neg c6] at H
 have c6b0 : decide (t236 < 0) = false := decide_eq_false c6
 clear c6
 replace H := Option.bind_eq_some_iff.mp H
 obtain ⟨t237, A70, H⟩ := H
 replace H : (if t237 < 0 then (some true) else ((laws_toToneS.f k l0).bind fun t238 => ((laws_toMelismaS.f k l1).bind fun t241 => ((spec_GroupsRead.f k t238 t241 a2).bind fun t244 => ((laws_toToneS.f k l0).bind fun t245 => ((laws_toMelismaS.f k l1).bind fun t248 => ((impl_GroupsRead.f k t245 t248 a2).bind fun t251 => (if (t251 != t244) = true then (none) else ((laws_toToneS.f k l0).bind fun t252 => ((laws_eqToneS.f k t245 t252).bind fun t255 => (if t255 = true then ((laws_toMelismaS.f k l1).bind fun t256 => ((laws_eqMelismaS.f k t248 t256).bind fun t259 => (if t259 = true then (some true) else (none)))) else (none)))))))))))) = some r := H
 have A7 := Aside0.mk A70
 clear A70
 by_cases c8 : t237 < 0
 ·rw [if_pos c8] at H
  have c8b0 : decide (t237 < 0) = true := decide_eq_true c8
  clear c8
  obtain rfl := Option.some.inj H
  go_enter Tryd.func4, Tryd.ntmps4
  go_wp2_with (first | ((with_reducible refine gate_callee (f := 9) rfl ?_); refine goesL_ (some 17) rfl rfl Tryd.func9 (by kernel_rfl) rfl #[.slice A0 l0.length c0, .int .i64 1048576] rfl (by (try simp only [List.map_toArray, List.map_cons, List.map_nil]); first | done | rfl | (simp only [List.length_drop, List.length_take]; rfl)) ?_; (with_reducible refine (laws_szToneS.calls _ _ l0 1048576 t236 _ ?side1 ?side2 A5.out).mono ?_); (case side1 => repeat (first | exact HR0.out | (with_reducible refine Kd.C_alloc ?_ _) | (with_reducible refine Kd.C_drewN ?_ _) | (with_reducible refine Kd.C_drew ?_))); (case side2 => exact HC0.out); rintro e w' ⟨rfl, ⟨nd, rfl⟩⟩; refine ⟨_, rfl, ?_⟩) | ((with_reducible refine gate_callee (f := 10) rfl ?_); refine goesL_ (some 22) rfl rfl Tryd.func10 (by kernel_rfl) rfl #[.slice A1 l1.length c1, .int .i64 t236] rfl (by (try simp only [List.map_toArray, List.map_cons, List.map_nil]); first | done | rfl | (simp only [List.length_drop, List.length_take]; rfl)) ?_; (with_reducible refine (laws_szMelismaS.calls _ _ l1 t236 t237 _ ?side1 ?side2 A7.out).mono ?_); (case side1 => repeat (first | exact HR1.out | (with_reducible refine Kd.C_alloc ?_ _) | (with_reducible refine Kd.C_drewN ?_ _) | (with_reducible refine Kd.C_drew ?_))); (case side2 => exact HC1.out); rintro e w' ⟨rfl, ⟨nd, rfl⟩⟩; refine ⟨_, rfl, ?_⟩))
  go_ret
  exact ⟨by first | rfl | (simp [errW_none, errW_some] <;> rfl) | (simp [*, errW_none, errW_some] <;> rfl), by repeat (first | (with_reducible first | exact HB.out | apply below_alloc | apply pw_below_drewN | apply below_drew1) | exact HB.out)⟩
 rw [if_neg c8] at H
 have c8b0 : decide (t237 < 0) = false := decide_eq_false c8
 clear c8
 replace H := Option.bind_eq_some_iff.mp H
 obtain ⟨t238, A90, H⟩ := H
 replace H : ((laws_toMelismaS.f k l1).bind fun t241 => ((spec_GroupsRead.f k t238 t241 a2).bind fun t244 => ((laws_toToneS.f k l0).bind fun t245 => ((laws_toMelismaS.f k l1).bind fun t248 => ((impl_GroupsRead.f k t245 t248 a2).bind fun t251 => (if (t251 != t244) = true then (none) else ((laws_toToneS.f k l0).bind fun t252 => ((laws_eqToneS.f k t245 t252).bind fun t255 => (if t255 = true then ((laws_toMelismaS.f k l1).bind fun t256 => ((laws_eqMelismaS.f k t248 t256).bind fun t259 => (if t259 = true then (some true) else (none)))) else (none)))))))))) = some r := H
 have A9 := Aside0.mk A90
 clear A90
 replace H := Option.bind_eq_some_iff.mp H
 obtain ⟨t241, A100, H⟩ := H
 replace H : ((spec_GroupsRead.f k t238 t241 a2).bind fun t244 => ((laws_toToneS.f k l0).bind fun t245 => ((laws_toMelismaS.f k l1).bind fun t248 => ((impl_GroupsRead.f k t245 t248 a2).bind fun t251 => (if (t251 != t244) = true then (none) else ((laws_toToneS.f k l0).bind fun t252 => ((laws_eqToneS.f k t245 t252).bind fun t255 => (if t255 = true then ((laws_toMelismaS.f k l1).bind fun t256 => ((laws_eqMelismaS.f k t248 t256).bind fun t259 => (if t259 = true then (some true) else (none)))) else (none))))))))) = some r := H
 have A10 := Aside0.mk A100
 clear A100
 replace H := Option.bind_eq_some_iff.mp H
 obtain ⟨t244, A110, H⟩ := H
 replace H : ((laws_toToneS.f k l0).bind fun t245 => ((laws_toMelismaS.f k l1).bind fun t248 => ((impl_GroupsRead.f k t245 t248 a2).bind fun t251 => (if (t251 != t244) = true then (none) else ((laws_toToneS.f k l0).bind fun t252 => ((laws_eqToneS.f k t245 t252).bind fun t255 => (if t255 = true then ((laws_toMelismaS.f k l1).bind fun t256 => ((laws_eqMelismaS.f k t248 t256).bind fun t259 => (if t259 = true then (some true) else (none)))) else (none)))))))) = some r := H
 have A11 := Aside0.mk A110
 clear A110
 replace H := Option.bind_eq_some_iff.mp H
 obtain ⟨t245, A120, H⟩ := H
 replace H : ((laws_toMelismaS.f k l1).bind fun t248 => ((impl_GroupsRead.f k t245 t248 a2).bind fun t251 => (if (t251 != t244) = true then (none) else ((laws_toToneS.f k l0).bind fun t252 => ((laws_eqToneS.f k t245 t252).bind fun t255 => (if t255 = true then ((laws_toMelismaS.f k l1).bind fun t256 => ((laws_eqMelismaS.f k t248 t256).bind fun t259 => (if t259 = true then (some true) else (none)))) else (none))))))) = some r := H
 have A12 := Aside0.mk A120
 clear A120
 replace H := Option.bind_eq_some_iff.mp H
 obtain ⟨t248, A130, H⟩ := H
 replace H : ((impl_GroupsRead.f k t245 t248 a2).bind fun t251 => (if (t251 != t244) = true then (none) else ((laws_toToneS.f k l0).bind fun t252 => ((laws_eqToneS.f k t245 t252).bind fun t255 => (if t255 = true then ((laws_toMelismaS.f k l1).bind fun t256 => ((laws_eqMelismaS.f k t248 t256).bind fun t259 => (if t259 = true then (some true) else (none)))) else (none)))))) = some r := H
 have A13 := Aside0.mk A130
 clear A130
 replace H := Option.bind_eq_some_iff.mp H
 obtain ⟨t251, A140, H⟩ := H
 replace H : (if (t251 != t244) = true then (none) else ((laws_toToneS.f k l0).bind fun t252 => ((laws_eqToneS.f k t245 t252).bind fun t255 => (if t255 = true then ((laws_toMelismaS.f k l1).bind fun t256 => ((laws_eqMelismaS.f k t248 t256).bind fun t259 => (if t259 = true then (some true) else (none)))) else (none))))) = some r := H
 have A14 := Aside0.mk A140
 clear A140
 by_cases c15 : (t251 != t244) = true
 ·rw [if_pos c15] at H
  exact absurd H (by simp)
 rw [if_neg c15] at H
 have c15b0 : (t251 != t244) = false := by simpa using c15
 (try (have c15b1 : decide (t251 = t244) = true := by simpa using c15))
 (try (have c15b2 : (t251 == t244) = true := by simpa using c15))
 clear c15
 replace H := Option.bind_eq_some_iff.mp H
 obtain ⟨t252, A160, H⟩ := H
 replace H : ((laws_eqToneS.f k t245 t252).bind fun t255 => (if t255 = true then ((laws_toMelismaS.f k l1).bind fun t256 => ((laws_eqMelismaS.f k t248 t256).bind fun t259 => (if t259 = true then (some true) else (none)))) else (none))) = some r := H
 have A16 := Aside0.mk A160
 clear A160
 replace H := Option.bind_eq_some_iff.mp H
 obtain ⟨t255, A170, H⟩ := H
 replace H : (if t255 = true then ((laws_toMelismaS.f k l1).bind fun t256 => ((laws_eqMelismaS.f k t248 t256).bind fun t259 => (if t259 = true then (some true) else (none)))) else (none)) = some r := H
 have A17 := Aside0.mk A170
 clear A170
 by_cases c18 : t255 = true
 rotate_left
 ·replace c18 := Bool.eq_false_iff.mpr c18
  subst c18
  have H1 : (none) = some r := by rw [if_neg (show ¬ (false = true) by decide)] at H; exact H
  clear H
  have H := H1
  clear H1
  exact absurd H (by simp)
 subst c18
 have H1 : ((laws_toMelismaS.f k l1).bind fun t256 => ((laws_eqMelismaS.f k t248 t256).bind fun t259 => (if t259 = true then (some true) else (none)))) = some r := by rw [if_pos rfl] at H; exact H
 clear H
 have H := H1
 clear H1
 replace H := Option.bind_eq_some_iff.mp H
 obtain ⟨t256, A190, H⟩ := H
 replace H : ((laws_eqMelismaS.f k t248 t256).bind fun t259 => (if t259 = true then (some true) else (none))) = some r := H
 have A19 := Aside0.mk A190
 clear A190
 replace H := Option.bind_eq_some_iff.mp H
 obtain ⟨t259, A200, H⟩ := H
 replace H : (if t259 = true then (some true) else (none)) = some r := H
 have A20 := Aside0.mk A200
 clear A200
 by_cases c21 : t259 = true
 rotate_left
 ·replace c21 := Bool.eq_false_iff.mpr c21
  subst c21
  have H1 : (none) = some r := by rw [if_neg (show ¬ (false = true) by decide)] at H; exact H
  clear H
  have H := H1
  clear H1
  exact absurd H (by simp)
 subst c21
 have H1 : (some true) = some r := by rw [if_pos rfl] at H; exact H
 clear H
 have H := H1
 clear H1
 obtain rfl := Option.some.inj H
 go_enter Tryd.func4, Tryd.ntmps4
 go_wp2_with (first | ((with_reducible refine gate_callee (f := 9) rfl ?_); refine goesL_ (some 17) rfl rfl Tryd.func9 (by kernel_rfl) rfl #[.slice A0 l0.length c0, .int .i64 1048576] rfl (by (try simp only [List.map_toArray, List.map_cons, List.map_nil]); first | done | rfl | (simp only [List.length_drop, List.length_take]; rfl)) ?_; (with_reducible refine (laws_szToneS.calls _ _ l0 1048576 t236 _ ?side1 ?side2 A5.out).mono ?_); (case side1 => repeat (first | exact HR0.out | (with_reducible refine Kd.C_alloc ?_ _) | (with_reducible refine Kd.C_drewN ?_ _) | (with_reducible refine Kd.C_drew ?_))); (case side2 => exact HC0.out); rintro e w' ⟨rfl, ⟨nd, rfl⟩⟩; refine ⟨_, rfl, ?_⟩) | ((with_reducible refine gate_callee (f := 10) rfl ?_); refine goesL_ (some 22) rfl rfl Tryd.func10 (by kernel_rfl) rfl #[.slice A1 l1.length c1, .int .i64 t236] rfl (by (try simp only [List.map_toArray, List.map_cons, List.map_nil]); first | done | rfl | (simp only [List.length_drop, List.length_take]; rfl)) ?_; (with_reducible refine (laws_szMelismaS.calls _ _ l1 t236 t237 _ ?side1 ?side2 A7.out).mono ?_); (case side1 => repeat (first | exact HR1.out | (with_reducible refine Kd.C_alloc ?_ _) | (with_reducible refine Kd.C_drewN ?_ _) | (with_reducible refine Kd.C_drew ?_))); (case side2 => exact HC1.out); rintro e w' ⟨rfl, ⟨nd, rfl⟩⟩; refine ⟨_, rfl, ?_⟩) | ((with_reducible refine gate_callee (f := 12) rfl ?_); refine goesL_ (some 26) rfl rfl Tryd.func12 (by kernel_rfl) rfl #[.slice A0 l0.length c0] rfl (by (try simp only [List.map_toArray, List.map_cons, List.map_nil]); first | done | rfl | (simp only [List.length_drop, List.length_take]; rfl)) ?_; (with_reducible refine (laws_toToneS.calls k _ _ l0 t238 _ ?side1 ?side2 A9.out).mono ?_); (case side1 => repeat (first | exact HR0.out | (with_reducible refine Kd.C_alloc ?_ _) | (with_reducible refine Kd.C_drewN ?_ _) | (with_reducible refine Kd.C_drew ?_))); (case side2 => exact HC0.out); rintro e w22 ⟨v239, rfl, ho0, hb⟩; refine ⟨_, rfl, ?_⟩; have n0_ := Aside0.mk (Kd.R_lower ho0 (below_size (by repeat (first | (with_reducible first | exact HB.out | apply below_alloc | apply pw_below_drewN | apply below_drew1) | exact HB.out)))); have n1_ := Aside0.mk (below_step (by repeat (first | (with_reducible first | exact HB.out | apply below_alloc | apply pw_below_drewN | apply below_drew1) | exact HB.out)) hb); clear HB; have HO240 := n0_; have HB := n1_; clear n0_ n1_; (try clear hb); (try clear hb2); (try clear hk); (try clear hi); (try clear ho0)) | ((with_reducible refine gate_callee (f := 13) rfl ?_); refine goesL_ (some 28) rfl rfl Tryd.func13 (by kernel_rfl) rfl #[.slice A1 l1.length c1] rfl (by (try simp only [List.map_toArray, List.map_cons, List.map_nil]); first | done | rfl | (simp only [List.length_drop, List.length_take]; rfl)) ?_; (with_reducible refine (laws_toMelismaS.calls k _ _ l1 t241 _ ?side1 ?side2 A10.out).mono ?_); (case side1 => repeat (first | exact (Kd.C_below HR1.out HB.out) | (with_reducible refine Kd.C_alloc ?_ _) | (with_reducible refine Kd.C_drewN ?_ _) | (with_reducible refine Kd.C_drew ?_))); (case side2 => exact HC1.out); rintro e w23 ⟨v242, rfl, ho0, hb⟩; refine ⟨_, rfl, ?_⟩; have n0_ := Aside0.mk (Kd.R_below (by (with_reducible repeat (first | apply Kd.R_alloc | apply Kd.R_drewN | apply Kd.R_drew)); exact HO240.out) hb); have n1_ := Aside0.mk (Kd.R_lower ho0 (below_size (by repeat (first | (with_reducible first | exact HB.out | apply below_alloc | apply pw_below_drewN | apply below_drew1) | exact HB.out)))); have n2_ := Aside0.mk (below_step (by repeat (first | (with_reducible first | exact HB.out | apply below_alloc | apply pw_below_drewN | apply below_drew1) | exact HB.out)) hb); clear HO240; clear HB; have HO240 := n0_; have HO243 := n1_; have HB := n2_; clear n0_ n1_ n2_; (try clear hb); (try clear hb2); (try clear hk); (try clear hi); (try clear ho0); obtain ⟨Ao24, co24, eo24⟩ := Kd.R_slice HO240.out; subst eo24; obtain ⟨Ao25, co25, eo25⟩ := Kd.R_slice HO243.out; subst eo25) | ((with_reducible refine gate_callee (f := 17) rfl ?_); refine goesL_ (some 30) rfl rfl Tryd.func17 (by kernel_rfl) rfl #[.slice Ao24 t238.length co24, .slice Ao25 t241.length co25, .string a2] rfl (by (try simp only [List.map_toArray, List.map_cons, List.map_nil]); first | done | rfl | (simp only [List.length_drop, List.length_take]; rfl)) ?_; (with_reducible refine (spec_GroupsRead.calls k _ _ t238 _ _ t241 a2 t244 _ ?side1 ?side2 ?side3 ?side4 A11.out).mono ?_); (case side1 => repeat (first | exact (Kd.R_reads' HO240.out).2.2 | (with_reducible refine Kd.C_alloc ?_ _) | (with_reducible refine Kd.C_drewN ?_ _) | (with_reducible refine Kd.C_drew ?_))); (case side2 => exact (Kd.R_reads' HO240.out).2.1); (case side3 => repeat (first | exact (Kd.R_reads' HO243.out).2.2 | (with_reducible refine Kd.C_alloc ?_ _) | (with_reducible refine Kd.C_drewN ?_ _) | (with_reducible refine Kd.C_drew ?_))); (case side4 => exact (Kd.R_reads' HO243.out).2.1); rintro e w26 ⟨rfl, hb⟩; refine ⟨_, rfl, ?_⟩; have n0_ := Aside0.mk (Kd.R_below (by (with_reducible repeat (first | apply Kd.R_alloc | apply Kd.R_drewN | apply Kd.R_drew)); exact HO240.out) hb); have n1_ := Aside0.mk (Kd.R_below (by (with_reducible repeat (first | apply Kd.R_alloc | apply Kd.R_drewN | apply Kd.R_drew)); exact HO243.out) hb); have n2_ := Aside0.mk (below_step (by repeat (first | (with_reducible first | exact HB.out | apply below_alloc | apply pw_below_drewN | apply below_drew1) | exact HB.out)) hb); clear HO240; clear HO243; clear HB; have HO240 := n0_; have HO243 := n1_; have HB := n2_; clear n0_ n1_ n2_; (try clear hb); (try clear hb2); (try clear hk); (try clear hi)) | ((with_reducible refine gate_callee (f := 12) rfl ?_); refine goesL_ (some 32) rfl rfl Tryd.func12 (by kernel_rfl) rfl #[.slice A0 l0.length c0] rfl (by (try simp only [List.map_toArray, List.map_cons, List.map_nil]); first | done | rfl | (simp only [List.length_drop, List.length_take]; rfl)) ?_; (with_reducible refine (laws_toToneS.calls k _ _ l0 t245 _ ?side1 ?side2 A12.out).mono ?_); (case side1 => repeat (first | exact (Kd.C_below HR0.out HB.out) | (with_reducible refine Kd.C_alloc ?_ _) | (with_reducible refine Kd.C_drewN ?_ _) | (with_reducible refine Kd.C_drew ?_))); (case side2 => exact HC0.out); rintro e w27 ⟨v246, rfl, ho0, hb⟩; refine ⟨_, rfl, ?_⟩; have n0_ := Aside0.mk (Kd.R_elder' (by (with_reducible repeat (first | apply Kd.R_alloc | apply Kd.R_drewN | apply Kd.R_drew)); exact HO240.out) (Kd.R_base ho0) hb); have n1_ := Aside0.mk (Kd.R_below (by (with_reducible repeat (first | apply Kd.R_alloc | apply Kd.R_drewN | apply Kd.R_drew)); exact HO243.out) hb); have n2_ := Aside0.mk (Kd.R_lower (Kd.R_new' ho0 (Kd.R_lt (by (with_reducible repeat (first | apply Kd.R_alloc | apply Kd.R_drewN | apply Kd.R_drew)); exact HO240.out))) (below_size (by repeat (first | (with_reducible first | exact HB.out | apply below_alloc | apply pw_below_drewN | apply below_drew1) | exact HB.out)))); have n3_ := Aside0.mk (below_step (by repeat (first | (with_reducible first | exact HB.out | apply below_alloc | apply pw_below_drewN | apply below_drew1) | exact HB.out)) hb); clear HO240; clear HO243; clear HB; have HO240 := n0_; have HO243 := n1_; have HO247 := n2_; have HB := n3_; clear n0_ n1_ n2_ n3_; (try clear hb); (try clear hb2); (try clear hk); (try clear hi); (try clear ho0)) | ((with_reducible refine gate_callee (f := 13) rfl ?_); refine goesL_ (some 34) rfl rfl Tryd.func13 (by kernel_rfl) rfl #[.slice A1 l1.length c1] rfl (by (try simp only [List.map_toArray, List.map_cons, List.map_nil]); first | done | rfl | (simp only [List.length_drop, List.length_take]; rfl)) ?_; (with_reducible refine (laws_toMelismaS.calls k _ _ l1 t248 _ ?side1 ?side2 A13.out).mono ?_); (case side1 => repeat (first | exact (Kd.C_below HR1.out HB.out) | (with_reducible refine Kd.C_alloc ?_ _) | (with_reducible refine Kd.C_drewN ?_ _) | (with_reducible refine Kd.C_drew ?_))); (case side2 => exact HC1.out); rintro e w28 ⟨v249, rfl, ho0, hb⟩; refine ⟨_, rfl, ?_⟩; have n0_ := Aside0.mk (Kd.R_below (by (with_reducible repeat (first | apply Kd.R_alloc | apply Kd.R_drewN | apply Kd.R_drew)); exact HO240.out) hb); have n1_ := Aside0.mk (Kd.R_elder' (by (with_reducible repeat (first | apply Kd.R_alloc | apply Kd.R_drewN | apply Kd.R_drew)); exact HO243.out) (Kd.R_base ho0) hb); have n2_ := Aside0.mk (Kd.R_below (by (with_reducible repeat (first | apply Kd.R_alloc | apply Kd.R_drewN | apply Kd.R_drew)); exact HO247.out) hb); have n3_ := Aside0.mk (Kd.R_lower (Kd.R_new' ho0 (Kd.R_lt (by (with_reducible repeat (first | apply Kd.R_alloc | apply Kd.R_drewN | apply Kd.R_drew)); exact HO243.out))) (below_size (by repeat (first | (with_reducible first | exact HB.out | apply below_alloc | apply pw_below_drewN | apply below_drew1) | exact HB.out)))); have n4_ := Aside0.mk (below_step (by repeat (first | (with_reducible first | exact HB.out | apply below_alloc | apply pw_below_drewN | apply below_drew1) | exact HB.out)) hb); clear HO240; clear HO243; clear HO247; clear HB; have HO240 := n0_; have HO243 := n1_; have HO247 := n2_; have HO250 := n3_; have HB := n4_; clear n0_ n1_ n2_ n3_ n4_; (try clear hb); (try clear hb2); (try clear hk); (try clear hi); (try clear ho0); obtain ⟨Ao29, co29, eo29⟩ := Kd.R_slice HO247.out; subst eo29; obtain ⟨Ao30, co30, eo30⟩ := Kd.R_slice HO250.out; subst eo30) | ((with_reducible refine gate_callee (f := 18) rfl ?_); refine goesL_ (some 38) rfl rfl Tryd.func18 (by kernel_rfl) rfl #[.slice Ao29 t245.length co29, .slice Ao30 t248.length co30, .string a2] rfl (by (try simp only [List.map_toArray, List.map_cons, List.map_nil]); first | done | rfl | (simp only [List.length_drop, List.length_take]; rfl)) ?_; (with_reducible refine (impl_GroupsRead.calls k _ _ t245 _ _ t248 a2 t251 _ ?side1 ?side2 ?side3 ?side4 ?side5 A14.out).mono ?_); (case side1 => repeat (first | exact (Kd.R_reads' HO247.out).2.2 | (with_reducible refine Kd.C_alloc ?_ _) | (with_reducible refine Kd.C_drewN ?_ _) | (with_reducible refine Kd.C_drew ?_))); (case side2 => exact (Kd.R_reads' HO247.out).2.1); (case side3 => repeat (first | exact (Kd.R_reads' HO250.out).2.2 | (with_reducible refine Kd.C_alloc ?_ _) | (with_reducible refine Kd.C_drewN ?_ _) | (with_reducible refine Kd.C_drew ?_))); (case side4 => exact (Kd.R_reads' HO250.out).2.1); (case side5 => exact GOk.sub (GOk.below HG.out (by repeat (first | (with_reducible first | exact HB.out | apply below_alloc | apply pw_below_drewN | apply below_drew1) | exact HB.out))) (by decide)); rintro e w31 ⟨rfl, hb⟩; refine ⟨_, rfl, ?_⟩; have n0_ := Aside0.mk (Kd.R_below (by (with_reducible repeat (first | apply Kd.R_alloc | apply Kd.R_drewN | apply Kd.R_drew)); exact HO240.out) hb); have n1_ := Aside0.mk (Kd.R_below (by (with_reducible repeat (first | apply Kd.R_alloc | apply Kd.R_drewN | apply Kd.R_drew)); exact HO243.out) hb); have n2_ := Aside0.mk (Kd.R_below (by (with_reducible repeat (first | apply Kd.R_alloc | apply Kd.R_drewN | apply Kd.R_drew)); exact HO247.out) hb); have n3_ := Aside0.mk (Kd.R_below (by (with_reducible repeat (first | apply Kd.R_alloc | apply Kd.R_drewN | apply Kd.R_drew)); exact HO250.out) hb); have n4_ := Aside0.mk (below_step (by repeat (first | (with_reducible first | exact HB.out | apply below_alloc | apply pw_below_drewN | apply below_drew1) | exact HB.out)) hb); clear HO240; clear HO243; clear HO247; clear HO250; clear HB; have HO240 := n0_; have HO243 := n1_; have HO247 := n2_; have HO250 := n3_; have HB := n4_; clear n0_ n1_ n2_ n3_ n4_; (try clear hb); (try clear hb2); (try clear hk); (try clear hi)) | ((with_reducible refine gate_callee (f := 12) rfl ?_); refine goesL_ (some 44) rfl rfl Tryd.func12 (by kernel_rfl) rfl #[.slice A0 l0.length c0] rfl (by (try simp only [List.map_toArray, List.map_cons, List.map_nil]); first | done | rfl | (simp only [List.length_drop, List.length_take]; rfl)) ?_; (with_reducible refine (laws_toToneS.calls k _ _ l0 t252 _ ?side1 ?side2 A16.out).mono ?_); (case side1 => repeat (first | exact (Kd.C_below HR0.out HB.out) | (with_reducible refine Kd.C_alloc ?_ _) | (with_reducible refine Kd.C_drewN ?_ _) | (with_reducible refine Kd.C_drew ?_))); (case side2 => exact HC0.out); rintro e w32 ⟨v253, rfl, ho0, hb⟩; refine ⟨_, rfl, ?_⟩; have n0_ := Aside0.mk (Kd.R_elder' (by (with_reducible repeat (first | apply Kd.R_alloc | apply Kd.R_drewN | apply Kd.R_drew)); exact HO240.out) (Kd.R_base ho0) hb); have n1_ := Aside0.mk (Kd.R_below (by (with_reducible repeat (first | apply Kd.R_alloc | apply Kd.R_drewN | apply Kd.R_drew)); exact HO243.out) hb); have n2_ := Aside0.mk (Kd.R_elder' (by (with_reducible repeat (first | apply Kd.R_alloc | apply Kd.R_drewN | apply Kd.R_drew)); exact HO247.out) (Kd.R_base ho0) hb); have n3_ := Aside0.mk (Kd.R_below (by (with_reducible repeat (first | apply Kd.R_alloc | apply Kd.R_drewN | apply Kd.R_drew)); exact HO250.out) hb); have n4_ := Aside0.mk (Kd.R_lower (Kd.R_new' (Kd.R_new' ho0 (Kd.R_lt (by (with_reducible repeat (first | apply Kd.R_alloc | apply Kd.R_drewN | apply Kd.R_drew)); exact HO240.out))) (Kd.R_lt (by (with_reducible repeat (first | apply Kd.R_alloc | apply Kd.R_drewN | apply Kd.R_drew)); exact HO247.out))) (below_size (by repeat (first | (with_reducible first | exact HB.out | apply below_alloc | apply pw_below_drewN | apply below_drew1) | exact HB.out)))); have n5_ := Aside0.mk (below_step (by repeat (first | (with_reducible first | exact HB.out | apply below_alloc | apply pw_below_drewN | apply below_drew1) | exact HB.out)) hb); clear HO240; clear HO243; clear HO247; clear HO250; clear HB; have HO240 := n0_; have HO243 := n1_; have HO247 := n2_; have HO250 := n3_; have HO254 := n4_; have HB := n5_; clear n0_ n1_ n2_ n3_ n4_ n5_; (try clear hb); (try clear hb2); (try clear hk); (try clear hi); (try clear ho0); obtain ⟨Ao33, co33, eo33⟩ := Kd.R_slice HO254.out; subst eo33) | ((with_reducible refine gate_callee (f := 15) rfl ?_); refine goesL_ (some 45) rfl rfl Tryd.func15 (by kernel_rfl) rfl #[.slice Ao29 t245.length co29, .slice Ao33 t252.length co33] rfl (by (try simp only [List.map_toArray, List.map_cons, List.map_nil]); first | done | rfl | (simp only [List.length_drop, List.length_take]; rfl)) ?_; (with_reducible refine (laws_eqToneS.calls k _ _ t245 _ _ t252 true _ ?side1 ?side2 ?side3 ?side4 A17.out).mono ?_); (case side1 => repeat (first | exact (Kd.R_reads' HO247.out).2.2 | (with_reducible refine Kd.C_alloc ?_ _) | (with_reducible refine Kd.C_drewN ?_ _) | (with_reducible refine Kd.C_drew ?_))); (case side2 => exact (Kd.R_reads' HO247.out).2.1); (case side3 => repeat (first | exact (Kd.R_reads' HO254.out).2.2 | (with_reducible refine Kd.C_alloc ?_ _) | (with_reducible refine Kd.C_drewN ?_ _) | (with_reducible refine Kd.C_drew ?_))); (case side4 => exact (Kd.R_reads' HO254.out).2.1); rintro e w34 ⟨rfl, hb⟩; refine ⟨_, rfl, ?_⟩; have n0_ := Aside0.mk (Kd.R_below (by (with_reducible repeat (first | apply Kd.R_alloc | apply Kd.R_drewN | apply Kd.R_drew)); exact HO240.out) hb); have n1_ := Aside0.mk (Kd.R_below (by (with_reducible repeat (first | apply Kd.R_alloc | apply Kd.R_drewN | apply Kd.R_drew)); exact HO243.out) hb); have n2_ := Aside0.mk (Kd.R_below (by (with_reducible repeat (first | apply Kd.R_alloc | apply Kd.R_drewN | apply Kd.R_drew)); exact HO247.out) hb); have n3_ := Aside0.mk (Kd.R_below (by (with_reducible repeat (first | apply Kd.R_alloc | apply Kd.R_drewN | apply Kd.R_drew)); exact HO250.out) hb); have n4_ := Aside0.mk (Kd.R_below (by (with_reducible repeat (first | apply Kd.R_alloc | apply Kd.R_drewN | apply Kd.R_drew)); exact HO254.out) hb); have n5_ := Aside0.mk (below_step (by repeat (first | (with_reducible first | exact HB.out | apply below_alloc | apply pw_below_drewN | apply below_drew1) | exact HB.out)) hb); clear HO240; clear HO243; clear HO247; clear HO250; clear HO254; clear HB; have HO240 := n0_; have HO243 := n1_; have HO247 := n2_; have HO250 := n3_; have HO254 := n4_; have HB := n5_; clear n0_ n1_ n2_ n3_ n4_ n5_; (try clear hb); (try clear hb2); (try clear hk); (try clear hi)) | ((with_reducible refine gate_callee (f := 13) rfl ?_); refine goesL_ (some 49) rfl rfl Tryd.func13 (by kernel_rfl) rfl #[.slice A1 l1.length c1] rfl (by (try simp only [List.map_toArray, List.map_cons, List.map_nil]); first | done | rfl | (simp only [List.length_drop, List.length_take]; rfl)) ?_; (with_reducible refine (laws_toMelismaS.calls k _ _ l1 t256 _ ?side1 ?side2 A19.out).mono ?_); (case side1 => repeat (first | exact (Kd.C_below HR1.out HB.out) | (with_reducible refine Kd.C_alloc ?_ _) | (with_reducible refine Kd.C_drewN ?_ _) | (with_reducible refine Kd.C_drew ?_))); (case side2 => exact HC1.out); rintro e w35 ⟨v257, rfl, ho0, hb⟩; refine ⟨_, rfl, ?_⟩; have n0_ := Aside0.mk (Kd.R_below (by (with_reducible repeat (first | apply Kd.R_alloc | apply Kd.R_drewN | apply Kd.R_drew)); exact HO240.out) hb); have n1_ := Aside0.mk (Kd.R_elder' (by (with_reducible repeat (first | apply Kd.R_alloc | apply Kd.R_drewN | apply Kd.R_drew)); exact HO243.out) (Kd.R_base ho0) hb); have n2_ := Aside0.mk (Kd.R_below (by (with_reducible repeat (first | apply Kd.R_alloc | apply Kd.R_drewN | apply Kd.R_drew)); exact HO247.out) hb); have n3_ := Aside0.mk (Kd.R_elder' (by (with_reducible repeat (first | apply Kd.R_alloc | apply Kd.R_drewN | apply Kd.R_drew)); exact HO250.out) (Kd.R_base ho0) hb); have n4_ := Aside0.mk (Kd.R_below (by (with_reducible repeat (first | apply Kd.R_alloc | apply Kd.R_drewN | apply Kd.R_drew)); exact HO254.out) hb); have n5_ := Aside0.mk (Kd.R_lower (Kd.R_new' (Kd.R_new' ho0 (Kd.R_lt (by (with_reducible repeat (first | apply Kd.R_alloc | apply Kd.R_drewN | apply Kd.R_drew)); exact HO243.out))) (Kd.R_lt (by (with_reducible repeat (first | apply Kd.R_alloc | apply Kd.R_drewN | apply Kd.R_drew)); exact HO250.out))) (below_size (by repeat (first | (with_reducible first | exact HB.out | apply below_alloc | apply pw_below_drewN | apply below_drew1) | exact HB.out)))); have n6_ := Aside0.mk (below_step (by repeat (first | (with_reducible first | exact HB.out | apply below_alloc | apply pw_below_drewN | apply below_drew1) | exact HB.out)) hb); clear HO240; clear HO243; clear HO247; clear HO250; clear HO254; clear HB; have HO240 := n0_; have HO243 := n1_; have HO247 := n2_; have HO250 := n3_; have HO254 := n4_; have HO258 := n5_; have HB := n6_; clear n0_ n1_ n2_ n3_ n4_ n5_ n6_; (try clear hb); (try clear hb2); (try clear hk); (try clear hi); (try clear ho0); obtain ⟨Ao36, co36, eo36⟩ := Kd.R_slice HO258.out; subst eo36) | ((with_reducible refine gate_callee (f := 16) rfl ?_); refine goesL_ (some 50) rfl rfl Tryd.func16 (by kernel_rfl) rfl #[.slice Ao30 t248.length co30, .slice Ao36 t256.length co36] rfl (by (try simp only [List.map_toArray, List.map_cons, List.map_nil]); first | done | rfl | (simp only [List.length_drop, List.length_take]; rfl)) ?_; (with_reducible refine (laws_eqMelismaS.calls k _ _ t248 _ _ t256 true _ ?side1 ?side2 ?side3 ?side4 A20.out).mono ?_); (case side1 => repeat (first | exact (Kd.R_reads' HO250.out).2.2 | (with_reducible refine Kd.C_alloc ?_ _) | (with_reducible refine Kd.C_drewN ?_ _) | (with_reducible refine Kd.C_drew ?_))); (case side2 => exact (Kd.R_reads' HO250.out).2.1); (case side3 => repeat (first | exact (Kd.R_reads' HO258.out).2.2 | (with_reducible refine Kd.C_alloc ?_ _) | (with_reducible refine Kd.C_drewN ?_ _) | (with_reducible refine Kd.C_drew ?_))); (case side4 => exact (Kd.R_reads' HO258.out).2.1); rintro e w37 ⟨rfl, hb⟩; refine ⟨_, rfl, ?_⟩; have n0_ := Aside0.mk (Kd.R_below (by (with_reducible repeat (first | apply Kd.R_alloc | apply Kd.R_drewN | apply Kd.R_drew)); exact HO240.out) hb); have n1_ := Aside0.mk (Kd.R_below (by (with_reducible repeat (first | apply Kd.R_alloc | apply Kd.R_drewN | apply Kd.R_drew)); exact HO243.out) hb); have n2_ := Aside0.mk (Kd.R_below (by (with_reducible repeat (first | apply Kd.R_alloc | apply Kd.R_drewN | apply Kd.R_drew)); exact HO247.out) hb); have n3_ := Aside0.mk (Kd.R_below (by (with_reducible repeat (first | apply Kd.R_alloc | apply Kd.R_drewN | apply Kd.R_drew)); exact HO250.out) hb); have n4_ := Aside0.mk (Kd.R_below (by (with_reducible repeat (first | apply Kd.R_alloc | apply Kd.R_drewN | apply Kd.R_drew)); exact HO254.out) hb); have n5_ := Aside0.mk (Kd.R_below (by (with_reducible repeat (first | apply Kd.R_alloc | apply Kd.R_drewN | apply Kd.R_drew)); exact HO258.out) hb); have n6_ := Aside0.mk (below_step (by repeat (first | (with_reducible first | exact HB.out | apply below_alloc | apply pw_below_drewN | apply below_drew1) | exact HB.out)) hb); clear HO240; clear HO243; clear HO247; clear HO250; clear HO254; clear HO258; clear HB; have HO240 := n0_; have HO243 := n1_; have HO247 := n2_; have HO250 := n3_; have HO254 := n4_; have HO258 := n5_; have HB := n6_; clear n0_ n1_ n2_ n3_ n4_ n5_ n6_; (try clear hb); (try clear hb2); (try clear hk); (try clear hi)))
 go_ret
 exact ⟨by first | rfl | (simp [errW_none, errW_some] <;> rfl) | (simp [*, errW_none, errW_some] <;> rfl), by repeat (first | (with_reducible first | exact HB.out | apply below_alloc | apply pw_below_drewN | apply below_drew1) | exact HB.out)⟩
end Go.Proofs.YtldepdaglapdeaaDoor.E
end
section
namespace Go.Proofs.YtldepdaglapdeaaDoor.Pur
open Go.RowKit Go.Proofs.YtldepdaglapdeaaDoorW.PrintWords
def EvP {α : Type} (g : Nat → Option α) (P : α → Prop) : Prop := ∃ r, Ev g r ∧ P r
section
variable {α β : Type}
theorem EvP.bind {g : Nat → Option α} {f : Nat → α → Option β} {P : α → Prop} {Q : β → Prop} (h : EvP g P) (k : ∀ a, P a → EvP (fun n => f n a) Q) : EvP (fun n => (g n).bind (f n)) Q := by
  obtain ⟨a, ha, hp⟩ := h
  obtain ⟨b, hb, hq⟩ := k a hp
  exact ⟨b, Ev.bind ha hb, hq⟩
theorem EvP.ret {P : α → Prop} {r : α} (h : P r) : EvP (fun _ => some r) P := ⟨r, Ev.now r, h⟩
theorem EvP.con {o : Option α} {P : α → Prop} {r : α} (h : o = some r) (hp : P r) : EvP (fun _ => o) P := by subst h; exact .ret hp
theorem EvP.ite {c : Prop} [Decidable c] {f g : Nat → Option α} {P : α → Prop} (h : c → EvP f P) (k : ¬ c → EvP g P) : EvP (fun n => if c then f n else g n) P := by
  by_cases hc : c
  · obtain ⟨r, hr, hp⟩ := h hc
    exact ⟨r, Ev.congr (fun n => if_pos hc) hr, hp⟩
  · obtain ⟨r, hr, hp⟩ := k hc
    exact ⟨r, Ev.congr (fun n => if_neg hc) hr, hp⟩
theorem EvP.yes {c : Prop} [Decidable c] {f g : Nat → Option α} {P : α → Prop} (hc : c) (h : EvP f P) : EvP (fun n => if c then f n else g n) P := .ite (fun _ => h) (fun k => absurd hc k)
theorem EvP.no {c : Prop} [Decidable c] {f g : Nat → Option α} {P : α → Prop} (hc : ¬ c) (h : EvP g P) : EvP (fun n => if c then f n else g n) P := .ite (fun k => absurd k hc) (fun _ => h)
theorem EvP.step {g f : Nat → Option α} {P : α → Prop} (h : ∀ k, g (k + 1) = f k) (k : EvP f P) : EvP g P := by
  obtain ⟨r, hr, hp⟩ := k
  exact ⟨r, Ev.step h hr, hp⟩
theorem EvP.succ {g : Nat → Option α} {P : α → Prop} (k : EvP (fun n => g (n + 1)) P) : EvP g P := EvP.step (fun _ => rfl) k
theorem EvP.mono {g : Nat → Option α} {P Q : α → Prop} (h : EvP g P) (k : ∀ r, P r → Q r) : EvP g Q := by
  obtain ⟨r, hr, hp⟩ := h
  exact ⟨r, hr, k r hp⟩
theorem EvP.rounds {g : Nat → Option α} {r : α} (h : EvP g (· = r)) : ∃ k, g k = some r := by
  obtain ⟨_, hr, rfl⟩ := h
  exact hr.rounds
end
structure Hd (p : Prop) : Prop where mk :: (out : p)
theorem w64 {i : Int} (h0 : -9223372036854775808 ≤ i) (h1 : i ≤ 9223372036854775807) : wrap64 i = i := by unfold wrap64; omega
theorem tmod_pos {a : Int} (b : Int) (h : 0 ≤ a) : Int.tmod a b = a % b := Int.tmod_eq_emod_of_nonneg h
theorem toNat_nat (n : Nat) : ((n : Int)).toNat = n := rfl
end Go.Proofs.YtldepdaglapdeaaDoor.Pur
end
section
namespace Go.Proofs.YtldepdaglapdeaaDoor.Pur
open Go.RowKit Go.Proofs.YtldepdaglapdeaaDoorW.PrintWords Go.Proofs.YtldepdaglapdeaaDoor.E
def okT (t : S56) : Bool := decide (0 ≤ t.f0) && decide (t.f0 ≤ 20) && (!t.f1 || decide (t.f0 % 7 = 2))
def okM (l : List S56) : Bool := l.all okT && decide (l.length ≤ 24)
theorem spec_valid (t : S56) : spec_ToneValid.f t.f0 t.f1 = some (okT t) := by
  obtain ⟨s, b⟩ := t
  unfold spec_ToneValid.f spec_l6In.f spec_l1Letter.f okT
  by_cases h0 : s ≥ 0
  · rw [if_pos h0]
    by_cases h1 : s ≤ 20
    · cases b <;> simp [h0, h1, tmod_pos, Bool.beq_eq_decide_eq]
    · simp [h0, h1]
  · simp [h0]
theorem impl_valid (t : S56) : impl_Tone_valid.f t.f0 t.f1 = some (okT t) := by
  obtain ⟨s, b⟩ := t
  unfold impl_Tone_valid.f okT
  by_cases h0 : s ≥ 0
  · rw [if_pos h0]
    by_cases h1 : s ≤ 20
    · cases b <;> simp [h0, h1, tmod_pos, Bool.beq_eq_decide_eq]
    · simp [h0, h1]
  · simp [h0]
theorem rdT_lt {l : List S56} {i : Nat} (h : i < l.length) : rd_T56 l (i : Int) = l[i] := by
  unfold rd_T56
  rw [toNat_nat, List.getD_eq_getElem?_getD, List.getElem?_eq_getElem h]
  rfl
theorem all_drop {l : List S56} {i : Nat} (h : i < l.length) : (l.drop i).all okT = (okT l[i] && (l.drop (i + 1)).all okT) := by
  rw [List.drop_eq_getElem_cons h, List.all_cons]
theorem spec_melody_loop (l : List S56) (hl : l.length < 9223372036854775807) : ∀ d i : Nat, i + d = l.length → EvP (fun k => spec_MelodyValid.l0 k l (i : Int)) (· = ((l.drop i).all okT && decide (l.length ≤ 24))) := by
  intro d
  induction d with
  | zero =>
    intro i hi
    refine EvP.succ ?_
    simp only [spec_MelodyValid.l0]
    refine (EvP.no (by omega) (EvP.ret ?_))
    rw [List.drop_of_length_le (by omega)]
    simp only [List.all_nil, Bool.true_and]
    by_cases h : l.length ≤ 24
    · have : (l.length : Int) ≤ 24 := by omega
      simp [h, this]
    · have : ¬ (l.length : Int) ≤ 24 := by omega
      simp [h, this]
  | succ d ih =>
    intro i hi
    have hlt : i < l.length := by omega
    refine EvP.step (fun k => rfl) (EvP.yes (by omega) (EvP.yes (by omega) ?_))
    rw [rdT_lt hlt, all_drop hlt]
    refine EvP.bind (P := (· = okT l[i])) (EvP.con (spec_valid _) rfl) (fun _ e => ?_)
    subst e
    refine EvP.ite (fun h => ?_) (fun h => EvP.ret ?_)
    · rw [w64 (by omega) (by omega), h, Bool.true_and]
      exact ih (i + 1) (by omega)
    · simp [h]
theorem spec_melody (l : List S56) (hl : l.length < 9223372036854775807) : EvP (fun k => spec_MelodyValid.f k l) (· = okM l) := spec_melody_loop l hl l.length 0 (by omega)
theorem impl_melody_loop (l : List S56) (hl : l.length ≤ 24) : ∀ d i : Nat, i + d = l.length → EvP (fun k => impl_MelodyValid.l0 k l (l.length : Int) (i : Int)) (· = (l.drop i).all okT) := by
  intro d
  induction d with
  | zero =>
    intro i hi
    refine EvP.step (fun k => rfl) (EvP.no (by omega) (EvP.ret ?_))
    rw [List.drop_of_length_le (by omega)]
    rfl
  | succ d ih =>
    intro i hi
    have hlt : i < l.length := by omega
    refine EvP.step (fun k => rfl) (EvP.yes (by omega) (EvP.yes (by omega) ?_))
    try refine EvP.yes (by omega) ?_
    rw [rdT_lt hlt, all_drop hlt]
    refine EvP.bind (P := (· = okT l[i])) (EvP.con (impl_valid _) rfl) (fun _ e => ?_)
    subst e
    refine EvP.ite (fun h => ?_) (fun h => EvP.ret ?_)
    · rw [w64 (by omega) (by omega), h, Bool.true_and]
      exact ih (i + 1) (by omega)
    · simp [h]
theorem impl_melody (l : List S56) : EvP (fun k => impl_MelodyValid.f k l) (· = okM l) := by
  unfold impl_MelodyValid.f
  refine EvP.ite (fun h => EvP.ret ?_) (fun h => ?_)
  · simp [okM]; intro; omega
  · have hl : l.length ≤ 24 := by omega
    refine (impl_melody_loop l hl l.length 0 (by omega)).mono (fun r e => ?_)
    rw [e]
    simp [okM, hl]
end Go.Proofs.YtldepdaglapdeaaDoor.Pur
end
section
namespace Go.Proofs.YtldepdaglapdeaaDoor.Pur
open Go Go.RowKit Go.Proofs.YtldepdaglapdeaaDoorW.PrintWords Go.Proofs.YtldepdaglapdeaaDoorW.PrintMore Go.Proofs.YtldepdaglapdeaaDoor.E
abbrev TnG := S56
theorem ba_ext {a b : ByteArray} (h : a.data.toList = b.data.toList) : a = b := by
  cases a; cases b
  congr 1
  exact Array.toList_inj.mp h
theorem app_data (a b : ByteArray) : (a ++ b).data.toList = a.data.toList ++ b.data.toList := by rw [ByteArray.data_append, Array.toList_append]
theorem list_len (t : ByteArray) : t.data.toList.length = t.size := Array.length_toList
theorem list_eq (t : ByteArray) : t.toList = t.data.toList := Go.ByteArray.toList_eq t
theorem list_iff {a b : ByteArray} : a.toList = b.toList ↔ a = b := by
  rw [list_eq, list_eq]
  exact ⟨ba_ext, fun e => by rw [e]⟩
theorem bt_at (t : ByteArray) (i : Nat) (h : i < t.size) : bt t (i : Int) = ((t.data.toList[i]'(by rw [Array.length_toList]; exact h)).toNat : Int) := by
  unfold bt
  rw [toNat_nat, dif_pos h, Array.getElem_toList]
  rfl
theorem dropWhile_nil {α : Type} (p : α → Bool) : ∀ l : List α, l.dropWhile p = [] ↔ l.all p = true
  | [] => by simp
  | a :: l => by
    by_cases h : p a = true
    · rw [List.dropWhile_cons_of_pos h, dropWhile_nil p l, List.all_cons, h, Bool.true_and]
    · rw [List.dropWhile_cons_of_neg h, List.all_cons, Bool.eq_false_iff.mpr h, Bool.false_and]; simp
theorem dropWhile_head {α : Type} (p : α → Bool) : ∀ l : List α, l.dropWhile p = [] ∨ ∃ a l', l.dropWhile p = a :: l' ∧ p a = false
  | [] => .inl rfl
  | a :: l => by
    by_cases h : p a = true
    · rw [List.dropWhile_cons_of_pos h]; exact dropWhile_head p l
    · rw [List.dropWhile_cons_of_neg h]; exact .inr ⟨a, l, rfl, Bool.eq_false_iff.mpr h⟩
theorem trim_nil (l cs : List UInt8) : Lib.trimS l cs = [] ↔ l.all (cs.contains ·) = true := by
  unfold Lib.trimS Lib.trimLeftS Lib.trimRightS
  rw [dropWhile_nil, List.all_reverse]
  refine ⟨fun h => ?_, fun h => ?_⟩
  · rcases dropWhile_head (cs.contains ·) l.reverse with e | ⟨a, l', e, ha⟩
    · rw [dropWhile_nil, List.all_reverse] at e; exact e
    · rw [e, List.all_cons, ha, Bool.false_and] at h; exact absurd h (by decide)
  · have : l.reverse.dropWhile (cs.contains ·) = [] := (dropWhile_nil _ _).mpr (by rw [List.all_reverse]; exact h)
    rw [this]; rfl
theorem trim_some (t c : ByteArray) (ht : t.size ≤ 9223372036854775806) (hc : c.size < 4294967281) (ha : c.data.toList.all (fun b => decide (b.toNat < 128)) = true) : strings_Trim.f t c = some ⟨(Lib.trimS t.data.toList c.data.toList).toArray⟩ := by
  unfold strings_Trim.f
  rw [if_pos (by omega), if_pos hc, if_pos ha]
def udsB (b : UInt8) : Bool := ([117, 100, 115] : List UInt8).contains b
theorem udsB_iff (b : UInt8) : udsB b = true ↔ b = 117 ∨ b = 100 ∨ b = 115 := by
  unfold udsB
  simp
def okC (c : ByteArray) : Bool := c.data.toList.all udsB && decide (c.size ≤ 23)
theorem impl_cvalid (c : ByteArray) : impl_ContourValid.f c = some (okC c) := by
  unfold impl_ContourValid.f okC
  by_cases h : c.size ≤ 23
  · rw [if_pos (by omega), trim_some c _ (by omega) (by decide) (by decide)]
    simp only [Option.bind_some]
    rw [list_eq, decide_eq_true h, Bool.and_true]
    congr 1
    have ht := trim_nil c.data.toList [117, 100, 115]
    show (Lib.trimS c.data.toList [117, 100, 115] == []) = c.data.toList.all udsB
    rw [Bool.eq_iff_iff, beq_iff_eq, ht]
    rfl
  · rw [if_neg (by omega), decide_eq_false h, Bool.and_false]
theorem spec_cvalid_loop (c : ByteArray) (hc : c.size ≤ 9223372036854775806) : ∀ d i : Nat, i + d = c.size → EvP (fun k => spec_ContourValid.l0 k c (i : Int)) (· = ((c.data.toList.drop i).all udsB && decide (c.size ≤ 23))) := by
  have hL := list_len c
  intro d
  induction d with
  | zero =>
    intro i hi
    refine EvP.succ ?_
    simp only [spec_ContourValid.l0]
    refine EvP.no (by omega) (EvP.ret ?_)
    rw [List.drop_of_length_le (by omega), List.all_nil, Bool.true_and, decide_eq_decide]
    omega
  | succ d ih =>
    intro i hi
    have hlt : i < c.size := by omega
    have hlt' : i < c.data.toList.length := by omega
    have e1 : Hd (wrap64 ((i : Int) + 1) = ((i + 1 : Nat) : Int)) := ⟨w64 (by omega) (by omega)⟩
    refine EvP.succ ?_
    simp only [spec_ContourValid.l0]
    refine EvP.yes (by omega) (EvP.yes (by omega) ?_)
    rw [bt_at c i hlt, List.drop_eq_getElem_cons hlt', List.all_cons, e1.out]
    obtain ⟨b, hb⟩ : ∃ b, c.data.toList[i] = b := ⟨_, rfl⟩
    rw [hb]
    have key : ∀ u : UInt8, (b.toNat : Int) = (u.toNat : Int) ↔ b = u := by
      intro u
      constructor
      · intro h
        apply UInt8.toNat_inj.mp
        omega
      · intro h
        rw [h]
    refine EvP.ite (fun h => ?_) (fun h1 => EvP.ite (fun h => ?_) (fun h2 => EvP.ite (fun h => ?_) (fun h3 => EvP.ret ?_)))
    · rw [(udsB_iff b).mpr (.inl ((key 117).mp h)), Bool.true_and]
      exact ih (i + 1) (by omega)
    · rw [(udsB_iff b).mpr (.inr (.inl ((key 100).mp h))), Bool.true_and]
      exact ih (i + 1) (by omega)
    · rw [(udsB_iff b).mpr (.inr (.inr ((key 115).mp h))), Bool.true_and]
      exact ih (i + 1) (by omega)
    · have : udsB b = false := by
        rw [Bool.eq_false_iff]
        intro h
        rcases (udsB_iff b).mp h with h | h | h
        · exact h1 ((key 117).mpr h)
        · exact h2 ((key 100).mpr h)
        · exact h3 ((key 115).mpr h)
      rw [this, Bool.false_and, Bool.false_and]
theorem spec_cvalid (c : ByteArray) (hc : c.size ≤ 9223372036854775806) : EvP (fun k => spec_ContourValid.f k c) (· = okC c) := spec_cvalid_loop c hc c.size 0 (by omega)
def nnm (c : ByteArray) : ByteArray := if c.data.toList = [] then ⟨#[112, 117, 110, 99, 116, 117, 109]⟩ else if c.data.toList = [117] then ⟨#[112, 101, 115]⟩ else if c.data.toList = [100] then ⟨#[99, 108, 105, 118, 105, 115]⟩ else if c.data.toList = [117, 100] then ⟨#[116, 111, 114, 99, 117, 108, 117, 115]⟩ else if c.data.toList = [100, 117] then ⟨#[112, 111, 114, 114, 101, 99, 116, 117, 115]⟩ else if c.data.toList = [117, 117] then ⟨#[115, 99, 97, 110, 100, 105, 99, 117, 115]⟩ else if c.data.toList = [100, 100] then ⟨#[99, 108, 105, 109, 97, 99, 117, 115]⟩ else (⟨#[103, 114, 111, 117, 112, 45]⟩ : ByteArray) ++ c
def nameB (c : ByteArray) : ByteArray := if okC c = true ∧ c.size ≤ 3 then nnm c else ⟨#[]⟩
theorem ite_eqv {α : Type} {p q : Prop} [Decidable p] [Decidable q] {a b : Option α} {x y : α} (h : p ↔ q) (h1 : a = some x) (h2 : b = some y) : (if p then a else b) = some (if q then x else y) := by
  by_cases hq : q
  · rw [if_pos hq, if_pos (h.mpr hq), h1]
  · rw [if_neg hq, if_neg (fun hp => hq (h.mp hp)), h2]
theorem nn_is (c : ByteArray) (h : c.size ≤ 3) : nnLoop c 7 0 = some (nnm c) := by
  have e : ∀ l : List UInt8, ((⟨l.toArray⟩ : ByteArray).toList = c.toList) ↔ c.data.toList = l := by
    intro l
    rw [list_eq, list_eq]
    exact eq_comm
  unfold nnm
  simp only [nnLoop, Nat.zero_add, Nat.reduceAdd, conN, namN, List.getD_cons_zero, List.getD_cons_succ]
  refine ite_eqv (e []) rfl (ite_eqv (e [117]) rfl (ite_eqv (e [100]) rfl (ite_eqv (e [117, 100]) rfl (ite_eqv (e [100, 117]) rfl (ite_eqv (e [117, 117]) rfl (ite_eqv (e [100, 100]) rfl ?_))))))
  rw [if_pos (by omega)]
theorem impl_nn (c : ByteArray) : impl_NeumeName.f c = some (nameB c) := by
  unfold impl_NeumeName.f nameB
  rw [impl_cvalid]
  simp only [Option.bind_some]
  by_cases h : okC c = true
  · rw [if_pos h]
    by_cases h2 : c.size ≤ 3
    · rw [if_neg (by omega), if_pos ⟨h, h2⟩, nn_is c h2]
    · rw [if_pos (by omega), if_neg (fun q => h2 q.2)]
  · rw [if_neg h, if_neg (fun q => h q.1)]
theorem spec_nn (c : ByteArray) (hc : c.size ≤ 9223372036854775806) : EvP (fun k => spec_NeumeName.f k c) (· = nameB c) := by
  simp only [spec_NeumeName.f]
  refine EvP.bind (spec_cvalid c hc) (fun _ e => ?_)
  subst e
  unfold nameB
  refine EvP.ite (fun h => ?_) (fun h => ?_)
  · refine EvP.succ ?_
    simp only [spec_NeumeName.j0]
    refine EvP.ite (fun h2 => EvP.ret ?_) (fun h2 => ?_)
    · have := of_decide_eq_true h2
      rw [if_neg (fun q => by have := q.2; omega)]
    · have h3 : ¬ (c.size : Int) ≥ 4 := fun e => h2 (decide_eq_true e)
      have hn : (if okC c = true ∧ c.size ≤ 3 then nnm c else (⟨#[]⟩ : ByteArray)) = nnm c := if_pos ⟨h, by omega⟩
      rw [hn, list_eq]
      unfold nnm
      refine EvP.ite (fun e => EvP.ret (by rw [if_pos e])) (fun e => ?_)
      rw [if_neg e]
      refine EvP.ite (fun e => EvP.ret (by rw [if_pos e])) (fun e => ?_)
      rw [if_neg e]
      refine EvP.ite (fun e => EvP.ret (by rw [if_pos e])) (fun e => ?_)
      rw [if_neg e]
      refine EvP.ite (fun e => EvP.ret (by rw [if_pos e])) (fun e => ?_)
      rw [if_neg e]
      refine EvP.ite (fun e => EvP.ret (by rw [if_pos e])) (fun e => ?_)
      rw [if_neg e]
      refine EvP.ite (fun e => EvP.ret (by rw [if_pos e])) (fun e => ?_)
      rw [if_neg e]
      refine EvP.ite (fun e => EvP.ret (by rw [if_pos e])) (fun e => ?_)
      rw [if_neg e]
      exact EvP.yes (by omega) (EvP.ret rfl)
  · rw [if_neg (fun q => h q.1)]
    refine EvP.succ ?_
    simp only [spec_NeumeName.j0]
    exact ⟨_, Ev.congr (fun _ => if_pos trivial) (Ev.now _), rfl⟩
def conL (l : List TnG) : List UInt8 := Ways.waysB (l.map (·.f0))
def con (l : List TnG) : ByteArray := ⟨(conL l).toArray⟩
theorem conL_len (l : List TnG) : (conL l).length = l.length - 1 := by
  unfold conL Ways.waysB
  simp
theorem wayB_uds (a b : Int) : udsB (Ways.wayB a b) = true := by
  unfold Ways.wayB
  split
  · rfl
  · split <;> rfl
theorem conL_uds (l : List TnG) : (conL l).all udsB = true := by
  unfold conL Ways.waysB
  rw [List.all_eq_true]
  intro x hx
  obtain ⟨i, _, rfl⟩ := List.mem_map.mp hx
  exact wayB_uds _ _
theorem con_size (l : List TnG) : (con l).size = l.length - 1 := by
  have := list_len (con l)
  rw [← this]
  exact conL_len l
theorem con_ok {l : List TnG} (h : l.length ≤ 24) : okC (con l) = true := by
  unfold okC
  rw [con_size, decide_eq_true (by omega), Bool.and_true]
  exact conL_uds l
theorem impl_con (l : List TnG) (h : l.length ≤ 1000000) : impl_melody_contour.f l = some (con l) := by
  unfold impl_melody_contour.f
  rw [if_pos h]
  rfl
theorem spec_way (a b : Int) : spec_l3Way.f a b = some ⟨#[Ways.wayB a b]⟩ := by
  unfold spec_l3Way.f Ways.wayB
  split
  · rfl
  · split <;> rfl
theorem conL_at (l : List TnG) (i : Nat) (h : i + 1 < l.length) : (conL l)[i]'(by rw [conL_len]; omega) = Ways.wayB l[i].f0 l[i + 1].f0 := by
  apply Option.some.inj
  rw [← List.getElem?_eq_getElem]
  unfold conL Ways.waysB
  rw [List.getElem?_map, List.getElem?_range (by rw [List.length_map]; omega)]
  simp only [Option.map_some, List.getD_eq_getElem?_getD, List.getElem?_map]
  rw [List.getElem?_eq_getElem (by omega), List.getElem?_eq_getElem (by omega)]
  rfl
theorem spec_con_loop (l : List TnG) (hl : l.length ≤ 1000000) : ∀ (d i : Nat) (acc : ByteArray), (i + 1) + d = l.length → acc.data.toList = (conL l).take i → EvP (fun k => spec_l3Contour.l0 k l acc ((i + 1 : Nat) : Int)) (· = con l) := by
  intro d
  induction d with
  | zero =>
    intro i acc hi ha
    refine EvP.succ ?_
    simp only [spec_l3Contour.l0]
    refine EvP.no (by omega) (EvP.ret (ba_ext ?_))
    rw [ha, List.take_of_length_le (by rw [conL_len]; omega)]
    rfl
  | succ d ih =>
    intro i acc hi ha
    have e0 : Hd (wrap64 (((i + 1 : Nat) : Int) - 1) = (i : Int)) := ⟨by rw [w64 (by omega) (by omega)]; omega⟩
    have e1 : Hd (wrap64 (((i + 1 : Nat) : Int) + 1) = ((i + 1 + 1 : Nat) : Int)) := ⟨w64 (by omega) (by omega)⟩
    have hlen : acc.size ≤ i := by
      rw [← list_len, ha, List.length_take]
      omega
    refine EvP.succ ?_
    simp only [spec_l3Contour.l0]
    rw [e0.out, e1.out]
    refine EvP.yes (by omega) (EvP.yes (by omega) (EvP.yes (by omega) (EvP.yes (by omega) ?_)))
    rw [rdT_lt (l := l) (i := i) (by omega), rdT_lt (l := l) (i := i + 1) (by omega)]
    refine EvP.bind (P := (· = ⟨#[Ways.wayB l[i].f0 l[i + 1].f0]⟩)) (EvP.con (spec_way _ _) rfl) (fun _ e => ?_)
    subst e
    have h1 : (⟨#[Ways.wayB l[i].f0 l[i + 1].f0]⟩ : ByteArray).size = 1 := rfl
    refine EvP.yes (by omega) (ih (i + 1) _ (by omega) ?_)
    have hi' : i < (conL l).length := by rw [conL_len]; omega
    rw [app_data, ha, List.take_succ_eq_append_getElem hi']
    congr 1
    have : (conL l)[i] = Ways.wayB l[i].f0 l[i + 1].f0 := conL_at l i (by omega)
    rw [this]
theorem spec_con (l : List TnG) (hl : l.length ≤ 1000000) : EvP (fun k => spec_l3Contour.f k l) (· = con l) := by
  simp only [spec_l3Contour.f]
  cases l with
  | nil =>
    refine EvP.succ ?_
    simp only [spec_l3Contour.l0]
    exact EvP.no (by simp) (EvP.ret rfl)
  | cons t ts => exact spec_con_loop (t :: ts) hl ts.length 0 ⟨#[]⟩ (by simp; omega) (by simp)
end Go.Proofs.YtldepdaglapdeaaDoor.Pur
end
section
namespace Go.Proofs.YtldepdaglapdeaaDoor.Pur
open Go.RowKit Go.Proofs.YtldepdaglapdeaaDoorW.PrintWords Go.Proofs.YtldepdaglapdeaaDoorW.PrintMore Go.Proofs.YtldepdaglapdeaaDoor.E
abbrev MlG := S42
abbrev GpG := S73
theorem rdG_lt {l : List MlG} {i : Nat} (h : i < l.length) : rd_T42 l (i : Int) = l[i] := by
  unfold rd_T42
  rw [toNat_nat, List.getD_eq_getElem?_getD, List.getElem?_eq_getElem h]
  rfl
theorem rdP_lt {l : List GpG} {i : Nat} (h : i < l.length) : rd_T73 l (i : Int) = l[i] := by
  unfold rd_T73
  rw [toNat_nat, List.getD_eq_getElem?_getD, List.getElem?_eq_getElem h]
  rfl
theorem okM_parts {l : List TnG} (h : okM l = true) : l.all okT = true ∧ l.length ≤ 24 := by
  unfold okM at h
  simpa using h
def sumG : List MlG → Int
  | [] => 0
  | g :: gs => g.f0 + sumG gs
def okS (g : MlG) : Bool := decide (1 ≤ g.f0) && decide (g.f0 ≤ 4)
theorem okS_iff (g : MlG) : okS g = true ↔ 1 ≤ g.f0 ∧ g.f0 ≤ 4 := by
  unfold okS
  rw [Bool.and_eq_true, decide_eq_true_eq, decide_eq_true_eq]
theorem sum_low : ∀ gs : List MlG, gs.all okS = true → (gs.length : Int) ≤ sumG gs ∧ sumG gs ≤ 4 * (gs.length : Int)
  | [], _ => by simp [sumG]
  | g :: gs, h => by
    rw [List.all_cons, Bool.and_eq_true] at h
    have h1 := (okS_iff g).mp h.1
    have h2 := sum_low gs h.2
    simp only [sumG, List.length_cons]
    omega
def cutG : List TnG → List MlG → Option (List GpG)
  | m, [] => if m.length = 0 then some [] else none
  | m, g :: gs => if 1 ≤ g.f0 ∧ g.f0 ≤ 4 ∧ g.f0 ≤ (m.length : Int) then (cutG (m.drop g.f0.toNat) gs).map (⟨m.take g.f0.toNat, g.f1⟩ :: ·) else none
theorem cut_some : ∀ (gs : List MlG) (m : List TnG), (cutG m gs).isSome = (gs.all okS && decide (sumG gs = (m.length : Int)))
  | [], m => by
    unfold cutG
    rw [List.all_nil, Bool.true_and]
    split
    · rename_i h; rw [h]; rfl
    · rename_i h
      have : ¬ sumG [] = (m.length : Int) := by simp only [sumG]; omega
      rw [decide_eq_false this]; rfl
  | g :: gs, m => by
    unfold cutG
    rw [List.all_cons]
    split
    · rename_i h
      obtain ⟨h1, h2, h3⟩ := h
      rw [Option.isSome_map, cut_some gs, (okS_iff g).mpr ⟨h1, h2⟩, Bool.true_and]
      congr 1
      rw [decide_eq_decide, List.length_drop]
      simp only [sumG]
      omega
    · rename_i h
      symm
      rw [Option.isSome_none, Bool.and_eq_false_iff, Bool.and_eq_false_iff]
      by_cases hg : okS g = true
      · by_cases ha : gs.all okS = true
        · right
          have h1 := (okS_iff g).mp hg
          have h2 := sum_low gs ha
          apply decide_eq_false
          simp only [sumG]
          omega
        · exact .inl (.inr (Bool.eq_false_iff.mpr ha))
      · exact .inl (.inl (Bool.eq_false_iff.mpr hg))
def grp (m : List TnG) (gs : List MlG) : Option (List GpG) := if okM m = true then cutG m gs else none
theorem grp_some (m : List TnG) (gs : List MlG) : (grp m gs).isSome = (okM m && (gs.all okS && decide (sumG gs = (m.length : Int)))) := by
  unfold grp
  by_cases h : okM m = true
  · rw [if_pos h, h, Bool.true_and, cut_some]
  · rw [if_neg h, Bool.eq_false_iff.mpr h, Bool.false_and]; rfl
theorem grp_of {m : List TnG} {gs : List MlG} {l : List GpG} (h : grp m gs = some l) : okM m = true ∧ m.length ≤ 24 ∧ gs.all okS = true ∧ sumG gs = (m.length : Int) ∧ gs.length ≤ m.length ∧ cutG m gs = some l := by
  have h1 := grp_some m gs
  rw [h] at h1
  have h1 := h1.symm
  rw [Option.isSome_some, Bool.and_eq_true, Bool.and_eq_true, decide_eq_true_eq] at h1
  obtain ⟨a, b, c⟩ := h1
  have h2 := sum_low gs b
  refine ⟨a, (okM_parts a).2, b, c, by omega, ?_⟩
  unfold grp at h
  rw [if_pos a] at h
  exact h
theorem cut_len : ∀ (gs : List MlG) (m : List TnG) (l : List GpG), cutG m gs = some l → l.length = gs.length
  | [], m, l, h => by
    unfold cutG at h
    split at h
    · obtain rfl := Option.some.inj h; rfl
    · exact absurd h (by simp)
  | g :: gs, m, l, h => by
    unfold cutG at h
    split at h
    · obtain ⟨l', h', rfl⟩ := Option.map_eq_some_iff.mp h
      rw [List.length_cons, List.length_cons, cut_len gs _ _ h']
    · exact absurd h (by simp)
theorem cut_at : ∀ (gs : List MlG) (m : List TnG) (l : List GpG), cutG m gs = some l → ∀ (i : Nat) (g : MlG), gs[i]? = some g →
    ∃ b : Nat, (b : Int) = sumG (gs.take i) ∧ b + g.f0.toNat ≤ m.length ∧ 1 ≤ g.f0 ∧ g.f0 ≤ 4 ∧ l[i]? = some ⟨(m.take (b + g.f0.toNat)).drop b, g.f1⟩
  | [], m, l, h, i, g, hi => by simp at hi
  | g' :: gs, m, l, h, i, g, hi => by
    unfold cutG at h
    split at h
    · rename_i hc
      obtain ⟨l', h', rfl⟩ := Option.map_eq_some_iff.mp h
      cases i with
      | zero =>
        obtain rfl : g' = g := by simpa using hi
        refine ⟨0, rfl, by omega, hc.1, hc.2.1, ?_⟩
        rw [Nat.zero_add, List.drop_zero]
        rfl
      | succ i =>
        obtain ⟨b, hb, hl, h1, h4, he⟩ := cut_at gs _ _ h' i g (by simpa using hi)
        rw [List.length_drop] at hl
        refine ⟨g'.f0.toNat + b, ?_, by omega, h1, h4, ?_⟩
        · rw [List.take_succ_cons]
          simp only [sumG]
          omega
        · have hx : ∀ (m : List TnG) (s b f : Nat), ((m.drop s).take (b + f)).drop b = (m.take (s + b + f)).drop (s + b) := by
            intro m s b f
            rw [List.drop_take, List.drop_take, List.drop_drop]
            congr 1
            omega
          rw [List.getElem?_cons_succ, he, hx]
    · exact absurd h (by simp)
theorem impl_groups_loop (gs : List MlG) (hg : gs.length ≤ 1048576) : ∀ (d i : Nat) (acc : List GpG) (m : List TnG), i + d = gs.length → acc.length + m.length ≤ 24 →
    EvP (fun k => impl_groupsOf.l0 k acc m gs (gs.length : Int) (i : Int)) (fun r => (∀ l, cutG m (gs.drop i) = some l → r = (acc ++ l, true)) ∧ (cutG m (gs.drop i) = none → r.2 = false)) := by
  intro d
  induction d with
  | zero =>
    intro i acc m hi hm
    refine EvP.succ ?_
    simp only [impl_groupsOf.l0]
    refine EvP.no (by omega) (EvP.ret ?_)
    rw [List.drop_of_length_le (by omega)]
    simp only [cutG]
    by_cases h : m.length = 0
    · rw [if_pos h, h]
      refine ⟨fun l e => ?_, fun e => absurd e (by simp)⟩
      obtain rfl := Option.some.inj e
      rw [List.append_nil]
      rfl
    · rw [if_neg h]
      refine ⟨fun l e => absurd e (by simp), fun _ => ?_⟩
      have : ¬ (m.length : Int) = 0 := by omega
      exact beq_eq_false_iff_ne.mpr this
  | succ d ih =>
    intro i acc m hi hm
    have hlt : i < gs.length := by omega
    have e1 : Hd (wrap64 ((i : Int) + 1) = ((i + 1 : Nat) : Int)) := ⟨w64 (by omega) (by omega)⟩
    refine EvP.succ ?_
    simp only [impl_groupsOf.l0]
    refine EvP.yes (by omega) (EvP.yes (by omega) (EvP.yes (by omega) ?_))
    rw [rdG_lt hlt, List.drop_eq_getElem_cons hlt, e1.out]
    obtain ⟨g, hgg⟩ : ∃ g, gs[i] = g := ⟨_, rfl⟩
    rw [hgg]
    simp only [cutG]
    have bad : ∀ r : List GpG × Bool, r.2 = false → ¬ (1 ≤ g.f0 ∧ g.f0 ≤ 4 ∧ g.f0 ≤ (m.length : Int)) → (∀ l, (if 1 ≤ g.f0 ∧ g.f0 ≤ 4 ∧ g.f0 ≤ (m.length : Int) then (cutG (m.drop g.f0.toNat) (gs.drop (i + 1))).map (⟨m.take g.f0.toNat, g.f1⟩ :: ·) else none) = some l → r = (acc ++ l, true)) ∧ ((if 1 ≤ g.f0 ∧ g.f0 ≤ 4 ∧ g.f0 ≤ (m.length : Int) then (cutG (m.drop g.f0.toNat) (gs.drop (i + 1))).map (⟨m.take g.f0.toNat, g.f1⟩ :: ·) else none) = none → r.2 = false) := by
      intro r hr hn
      rw [if_neg hn]
      exact ⟨fun l e => absurd e (by simp), fun _ => hr⟩
    refine EvP.ite (fun h => EvP.ret (bad _ rfl (by omega))) (fun h1 => ?_)
    refine EvP.ite (fun h => EvP.ret (bad _ rfl (by omega))) (fun h2 => ?_)
    refine EvP.ite (fun h => EvP.ret (bad _ rfl (by omega))) (fun h3 => ?_)
    refine EvP.yes (by omega) (EvP.yes (by omega) (EvP.yes (by omega) ?_))
    refine (ih (i + 1) _ _ (by omega) (by rw [List.length_append, List.length_drop]; simp only [List.length_cons, List.length_nil]; omega)).mono (fun r hr => ?_)
    rw [if_pos ⟨by omega, by omega, by omega⟩]
    refine ⟨fun l e => ?_, fun e => ?_⟩
    · obtain ⟨l', e', rfl⟩ := Option.map_eq_some_iff.mp e
      rw [hr.1 l' e', List.append_assoc]
      rfl
    · exact hr.2 (Option.map_eq_none_iff.mp e)
theorem impl_groups (m : List TnG) (gs : List MlG) (hg : gs.length ≤ 1048576) : EvP (fun k => impl_groupsOf.f k m gs) (fun r => (∀ l, grp m gs = some l → r = (l, true)) ∧ (grp m gs = none → r.2 = false)) := by
  simp only [impl_groupsOf.f]
  refine EvP.bind (impl_melody m) (fun _ e => ?_)
  subst e
  unfold grp
  refine EvP.ite (fun h => ?_) (fun h => EvP.ret ?_)
  · rw [if_pos h]
    have := (okM_parts h).2
    exact impl_groups_loop gs hg gs.length 0 [] m (by omega) (by simpa using this)
  · rw [if_neg h]
    exact ⟨fun l e => absurd e (by simp), fun _ => rfl⟩
theorem impl_gvalid (m : List TnG) (gs : List MlG) (hg : gs.length ≤ 1048576) : EvP (fun k => impl_GroupsValid.f k m gs) (· = (grp m gs).isSome) := by
  simp only [impl_GroupsValid.f]
  refine EvP.bind (impl_groups m gs hg) (fun r e => EvP.ret ?_)
  cases h : grp m gs with
  | none => rw [e.2 h]; rfl
  | some l => rw [e.1 l h]; rfl
theorem in_ok (g : MlG) : spec_l6In.f g.f0 1 4 = some (okS g) := by
  unfold spec_l6In.f okS
  by_cases h : g.f0 ≥ 1
  · rw [if_pos h, decide_eq_true (show 1 ≤ g.f0 from h), Bool.true_and]
  · rw [if_neg h, decide_eq_false (show ¬ 1 ≤ g.f0 from h), Bool.false_and]
theorem spec_gvalid_loop (m : List TnG) (gs : List MlG) (hm : m.length ≤ 1000000000) (hg : gs.length ≤ 24) : ∀ (d i : Nat) (s : Int), i + d = gs.length → 0 ≤ s → s ≤ 4 * (i : Int) →
    EvP (fun k => spec_GroupsValid.l0 k m gs s (i : Int)) (· = ((gs.drop i).all okS && decide (s + sumG (gs.drop i) = (m.length : Int)))) := by
  intro d
  induction d with
  | zero =>
    intro i s hi h0 h1
    refine EvP.succ ?_
    simp only [spec_GroupsValid.l0]
    refine EvP.no (by omega) (EvP.ret ?_)
    rw [List.drop_of_length_le (by omega)]
    simp only [List.all_nil, Bool.true_and, sumG, Int.add_zero]
    rfl
  | succ d ih =>
    intro i s hi h0 h1
    have hlt : i < gs.length := by omega
    have e1 : Hd (wrap64 ((i : Int) + 1) = ((i + 1 : Nat) : Int)) := ⟨w64 (by omega) (by omega)⟩
    refine EvP.succ ?_
    simp only [spec_GroupsValid.l0]
    refine EvP.yes (by omega) (EvP.yes (by omega) ?_)
    rw [rdG_lt hlt, List.drop_eq_getElem_cons hlt, e1.out, List.all_cons]
    obtain ⟨g, hgg⟩ : ∃ g, gs[i] = g := ⟨_, rfl⟩
    rw [hgg]
    refine EvP.bind (P := (· = okS g)) (EvP.con (in_ok g) rfl) (fun _ e => ?_)
    subst e
    refine EvP.ite (fun h => ?_) (fun h => EvP.ret ?_)
    · have hh := (okS_iff g).mp h
      rw [w64 (by omega) (by omega), h, Bool.true_and]
      refine (ih (i + 1) _ (by omega) (by omega) (by omega)).mono (fun r hr => ?_)
      rw [hr]
      congr 1
      rw [decide_eq_decide]
      simp only [sumG]
      omega
    · rw [Bool.eq_false_iff.mpr h]
      rfl
theorem spec_gvalid (m : List TnG) (gs : List MlG) (hm : m.length ≤ 1000000000) (hg : gs.length ≤ 1048576) : EvP (fun k => spec_GroupsValid.f k m gs) (· = (grp m gs).isSome) := by
  simp only [spec_GroupsValid.f]
  refine EvP.bind (spec_melody m (by omega)) (fun _ e => ?_)
  subst e
  rw [grp_some]
  refine EvP.ite (fun h => ?_) (fun h => ?_)
  · have hl := (okM_parts h).2
    rw [h, Bool.true_and]
    refine EvP.succ ?_
    simp only [spec_GroupsValid.j0]
    refine EvP.ite (fun h2 => EvP.ret ?_) (fun h2 => ?_)
    · have h3 := of_decide_eq_true h2
      symm
      rw [Bool.and_eq_false_iff]
      by_cases ha : gs.all okS = true
      · right
        have := sum_low gs ha
        apply decide_eq_false
        omega
      · exact .inl (Bool.eq_false_iff.mpr ha)
    · have h3 : ¬ (gs.length : Int) > 24 := fun e => h2 (decide_eq_true e)
      refine (spec_gvalid_loop m gs hm (by omega) gs.length 0 0 (by omega) (by omega) (by omega)).mono (fun r hr => ?_)
      rw [hr, List.drop_zero, Int.zero_add]
  · rw [Bool.eq_false_iff.mpr h, Bool.false_and]
    refine EvP.succ ?_
    simp only [spec_GroupsValid.j0]
    exact EvP.yes trivial (EvP.ret rfl)
theorem spec_begin_loop (gs : List MlG) (n : Nat) (hn : n ≤ gs.length) (hg : gs.length ≤ 24) (ha : gs.all okS = true) : ∀ (d i : Nat) (s : Int), i + d = n → s = sumG (gs.take i) → 0 ≤ s → s ≤ 4 * (i : Int) →
    EvP (fun k => spec_l3Begin.l0 k gs (n : Int) s (i : Int)) (· = sumG (gs.take n)) := by
  intro d
  induction d with
  | zero =>
    intro i s hi hs h0 h1
    refine EvP.succ ?_
    simp only [spec_l3Begin.l0]
    obtain rfl : i = n := by omega
    exact EvP.no (by omega) (EvP.ret hs)
  | succ d ih =>
    intro i s hi hs h0 h1
    have hlt : i < gs.length := by omega
    have e1 : Hd (wrap64 ((i : Int) + 1) = ((i + 1 : Nat) : Int)) := ⟨w64 (by omega) (by omega)⟩
    have hh := (okS_iff gs[i]).mp (List.all_eq_true.mp ha _ (List.getElem_mem hlt))
    refine EvP.succ ?_
    simp only [spec_l3Begin.l0]
    refine EvP.yes (by omega) (EvP.yes (by omega) (EvP.yes (by omega) ?_))
    rw [rdG_lt hlt, e1.out, w64 (by omega) (by omega)]
    refine ih (i + 1) _ (by omega) ?_ (by omega) (by omega)
    have hsum : ∀ (a : List MlG) (g : MlG), sumG (a ++ [g]) = sumG a + g.f0 := by
      intro a g
      induction a with
      | nil => simp [sumG]
      | cons x xs ih => simp only [List.cons_append, sumG, ih]; omega
    rw [List.take_succ_eq_append_getElem hlt, hsum, hs]
theorem spec_begin (gs : List MlG) (n : Nat) (hn : n ≤ gs.length) (hg : gs.length ≤ 24) (ha : gs.all okS = true) : EvP (fun k => spec_l3Begin.f k gs (n : Int)) (· = sumG (gs.take n)) := spec_begin_loop gs n hn hg ha n 0 0 (by omega) rfl (by omega) (by omega)
end Go.Proofs.YtldepdaglapdeaaDoor.Pur
end
section
namespace Go.Proofs.YtldepdaglapdeaaDoor.E
open Go.RowKit Go.Proofs.YtldepdaglapdeaaDoorW.PrintWords Go.Proofs.YtldepdaglapdeaaDoorW.PrintLast Go.Proofs.YtldepdaglapdeaaDoorW.PrintMore
attribute [local go_sem] max2_int min2_int max_two min_two max_three min_three max_four min_four
set_option linter.unusedVariables false
set_option linter.unusedSimpArgs false
attribute [local go_sem] str_leq_ str_gtr_ str_geq_
def impl_copiedTones.f (l0 : List (S56)) : Option (List (S56)) := if l0.length ≤ 8796093022208 then some l0 else none
def flatT (l : List (S56)) : List Value := l.flatMap fun t => [.int .i64 t.f0, .bool t.f1]
end Go.Proofs.YtldepdaglapdeaaDoor.E
end
section
namespace Go.Proofs.YtldepdaglapdeaaDoor.E
open Go.RowKit Go.Proofs.YtldepdaglapdeaaDoorW.PrintWords Go.Proofs.YtldepdaglapdeaaDoorW.PrintLast Go.Proofs.YtldepdaglapdeaaDoorW.PrintMore
attribute [local go_sem] max2_int min2_int max_two min_two max_three min_three max_four min_four
set_option linter.unusedVariables false
set_option linter.unusedSimpArgs false
attribute [local go_sem] str_leq_ str_gtr_ str_geq_
def impl_GroupsCut.f (k : Nat) (l0 : List (S56)) (l1 : List (S42)) (a2 : Int) : Option ((List (S56)) × Bool) := (impl_groupsOf.f k l0 l1).bind fun bt332 => (if bt332.2 = true then (if a2 < 0 then (some (([] : List (S56)), false)) else (if a2 ≥ (bt332.1.length : Int) then (some (([] : List (S56)), false)) else (if 0 ≤ a2 then (if a2 < (bt332.1.length : Int) then ((impl_copiedTones.f ((rd_T73 bt332.1 a2).f0)).bind fun t337 => (some (t337, true))) else (none)) else (none)))) else (some (([] : List (S56)), false)))
end Go.Proofs.YtldepdaglapdeaaDoor.E
end
section
namespace Go.Proofs.YtldepdaglapdeaaDoor.E
open Go.RowKit Go.Proofs.YtldepdaglapdeaaDoorW.PrintWords Go.Proofs.YtldepdaglapdeaaDoorW.PrintLast Go.Proofs.YtldepdaglapdeaaDoorW.PrintMore
attribute [local go_sem] max2_int min2_int max_two min_two max_three min_three max_four min_four
set_option linter.unusedVariables false
set_option linter.unusedSimpArgs false
attribute [local go_sem] str_leq_ str_gtr_ str_geq_
def spec_GroupsCut.f (k : Nat) (l0 : List (S56)) (l1 : List (S42)) (a2 : Int) : Option ((List (S56)) × Bool) := (spec_GroupsValid.f k l0 l1).bind fun t386 => (if t386 = true then ((spec_l6In.f a2 0 (wrap64 ((l1.length : Int) - 1))).bind fun t387 => (if t387 = true then ((spec_l3Begin.f k l1 a2).bind fun t388 => ((some (([] : List (S56)) : List (S56))).bind fun y389 => (if 0 ≤ a2 then (if a2 < (l1.length : Int) then (if 0 ≤ t388 then (if t388 ≤ (wrap64 (t388 + ((rd_T42 l1 a2).f0))) then (if (wrap64 (t388 + ((rd_T42 l1 a2).f0))) ≤ (l0.length : Int) then ((some ((l0.take ((wrap64 (t388 + ((rd_T42 l1 a2).f0))) : Int).toNat).drop (t388 : Int).toNat : List (S56))).bind fun y393 => (if y389.length + y393.length < 8796093022208 then (some ((y389 ++ y393), true)) else (none))) else (none)) else (none)) else (none)) else (none)) else (none)))) else (some ((([] : List (S56))), false)))) else (some ((([] : List (S56))), false)))
end Go.Proofs.YtldepdaglapdeaaDoor.E
end
section
namespace Go.Proofs.YtldepdaglapdeaaDoor.Pur
open Go Go.RowKit Go.Proofs.YtldepdaglapdeaaDoorW.PrintWords Go.Proofs.YtldepdaglapdeaaDoorW.PrintMore Go.Proofs.YtldepdaglapdeaaDoor.E
def isHead (u : UInt8) : Prop := u = 112 ∨ u = 99 ∨ u = 116 ∨ u = 115 ∨ u = 103
theorem nnm_head (c : ByteArray) : ∃ u l, (nnm c).data.toList = u :: l ∧ isHead u := by
  unfold nnm isHead
  repeat' split
  all_goals exact ⟨_, _, rfl, by decide⟩
theorem nnm_size (c : ByteArray) (h : c.size ≤ 3) : (nnm c).size ≤ 9 := by
  unfold nnm
  repeat' split
  all_goals first | decide | skip
  rw [ByteArray.size_append]
  have : (⟨#[103, 114, 111, 117, 112, 45]⟩ : ByteArray).size = 6 := rfl
  omega
def liqB (n : ByteArray) : ByteArray := match n.data.toList with
  | [] => ⟨#[]⟩
  | u :: l => ⟨((u - 32) :: l).toArray⟩
def gname (g : GpG) : ByteArray := if g.f1 = true then liqB (nnm (con g.f0)) else nnm (con g.f0)
theorem liq_data {n : ByteArray} {u : UInt8} {l : List UInt8} (h : n.data.toList = u :: l) : (liqB n).data.toList = (u - 32) :: l := by
  unfold liqB
  rw [h]
theorem ext0 {n : ByteArray} {u : UInt8} {l : List UInt8} (h : n.data.toList = u :: l) : (n.extract 0 1).data.toList = [u] := by
  rw [ByteArray.data_extract, Array.toList_extract, List.extract_eq_take_drop, h]
  rfl
theorem ext1 {n : ByteArray} {u : UInt8} {l : List UInt8} (h : n.data.toList = u :: l) : (n.extract 1 n.size).data.toList = l := by
  have hs := list_len n
  rw [h, List.length_cons] at hs
  rw [ByteArray.data_extract, Array.toList_extract, List.extract_eq_take_drop, h, ← hs]
  simp
theorem head_up {u : UInt8} (h : isHead u) : Go.Lib.toUpperA [u] = [u - 32] ∧ u.toNat < 128 ∧ 32 ≤ u.toNat ∧ UInt8.ofNat (((u.toNat : Int) - 32) % 256).toNat = u - 32 ∧ u - 32 ≠ u ∧ u - 32 ≠ 32 := by
  unfold isHead at h
  rcases h with rfl | rfl | rfl | rfl | rfl <;> decide
theorem impl_gname (l : List TnG) (b : Bool) (hl : l.length ≤ 4) : impl_group_name.f l b = some (gname ⟨l, b⟩) := by
  have hc : (con l).size ≤ 3 := by rw [con_size]; omega
  have hn : nameB (con l) = nnm (con l) := if_pos ⟨con_ok (by omega), hc⟩
  have hz := nnm_size _ hc
  obtain ⟨u, t, hd, hu⟩ := nnm_head (con l)
  have hs := list_len (nnm (con l))
  rw [hd, List.length_cons] at hs
  obtain ⟨h1, h2, h3, _, _, _⟩ := head_up hu
  unfold impl_group_name.f
  rw [impl_con l (by omega), Option.bind_some, impl_nn, Option.bind_some, hn]
  unfold gname
  cases b with
  | false => rfl
  | true =>
    have e0 := ext0 hd
    have e1 := ext1 hd
    have z0 : ((nnm (con l)).extract 0 1).size = 1 := by rw [← list_len, e0]; rfl
    have z1 : ((nnm (con l)).extract 1 (nnm (con l)).size).size ≤ 9 := by rw [← list_len, e1]; omega
    have hup : strings_ToUpper.f ((nnm (con l)).extract 0 1) = some ⟨(Go.Lib.toUpperA [u]).toArray⟩ := by
      unfold strings_ToUpper.f
      rw [if_pos (by omega), e0, if_pos (by simp [h2])]
    have zz : (⟨(Go.Lib.toUpperA [u]).toArray⟩ : ByteArray).size = 1 := by rw [h1]; rfl
    rw [if_pos rfl, if_pos (by decide), if_pos (by omega), hup, Option.bind_some, if_pos (by omega)]
    refine congrArg some (ba_ext ?_)
    rw [app_data, e1, if_pos rfl, liq_data hd, h1]
    rfl
theorem spec_gname (l : List TnG) (b : Bool) (hl : l.length ≤ 4) : EvP (fun k => spec_l3Name.f k l b) (· = gname ⟨l, b⟩) := by
  have hc : (con l).size ≤ 3 := by rw [con_size]; omega
  have hn : nameB (con l) = nnm (con l) := if_pos ⟨con_ok (by omega), hc⟩
  have hz := nnm_size _ hc
  obtain ⟨u, t, hd, hu⟩ := nnm_head (con l)
  have hs := list_len (nnm (con l))
  rw [hd, List.length_cons] at hs
  obtain ⟨_, _, h3, h4, _, _⟩ := head_up hu
  simp only [spec_l3Name.f]
  refine EvP.bind (spec_con l (by omega)) (fun _ e => ?_)
  subst e
  refine EvP.bind (spec_nn (con l) (by omega)) (fun _ e => ?_)
  subst e
  rw [hn]
  unfold gname
  cases b with
  | false => exact EvP.no (by decide) (EvP.ret rfl)
  | true =>
    have e1 := ext1 hd
    have z1 : ((nnm (con l)).extract 1 (nnm (con l)).size).size ≤ 9 := by rw [← list_len, e1]; omega
    have zz : ∀ x : Int, (strOfNums [x]).size = 1 := fun x => by rw [strOfNums_size]; rfl
    refine EvP.yes rfl (EvP.yes (by omega) ?_)
    have hb := bt_at (nnm (con l)) 0 (by omega)
    have hb : bt (nnm (con l)) 0 = (u.toNat : Int) := by
      rw [show (0 : Int) = ((0 : Nat) : Int) from rfl, hb]
      simp only [hd, List.getElem_cons_zero]
    rw [hb]
    refine EvP.bind (P := (· = [((u.toNat : Int) - 32) % 256])) (EvP.ret rfl) (fun _ e => ?_)
    subst e
    refine EvP.yes (by omega) (EvP.yes (by have := zz (((u.toNat : Int) - 32) % 256); omega) (EvP.ret ?_))
    rw [if_pos rfl]
    apply ba_ext
    rw [app_data, e1, liq_data hd, strOfNums_data, List.map_cons, List.map_nil, h4]
    rfl
theorem gname_size (g : GpG) (h : g.f0.length ≤ 4) : (gname g).size ≤ 9 := by
  have hc : (con g.f0).size ≤ 3 := by rw [con_size]; omega
  have hz := nnm_size _ hc
  obtain ⟨u, t, hd, _⟩ := nnm_head (con g.f0)
  unfold gname
  split
  · rw [← list_len, liq_data hd]
    rw [← list_len, hd] at hz
    exact hz
  · exact hz
def tailN : List ByteArray → List UInt8
  | [] => []
  | t :: ts => 32 :: (t.data.toList ++ tailN ts)
def joinN : List ByteArray → List UInt8
  | [] => []
  | t :: ts => t.data.toList ++ tailN ts
theorem tailN_len : ∀ l : List ByteArray, (∀ t ∈ l, t.size ≤ 9) → (tailN l).length ≤ 10 * l.length
  | [], _ => Nat.le_refl _
  | t :: ts, h => by
    have h1 := tailN_len ts (fun x hx => h x (List.mem_cons_of_mem _ hx))
    have h2 := h t (List.mem_cons_self ..)
    simp only [tailN, List.length_cons, List.length_append, list_len]
    omega
theorem joinN_len (l : List ByteArray) (h : ∀ t ∈ l, t.size ≤ 9) : (joinN l).length ≤ 10 * l.length := by
  cases l with
  | nil => exact Nat.le_refl _
  | cons t ts =>
    have h1 := tailN_len ts (fun x hx => h x (List.mem_cons_of_mem _ hx))
    have h2 := h t (List.mem_cons_self ..)
    simp only [joinN, List.length_cons, List.length_append, list_len]
    omega
theorem join_tail : ∀ (t : ByteArray) (l : List ByteArray), ([32] : List UInt8).intercalate ((t :: l).map (·.data.toList)) = t.data.toList ++ tailN l
  | t, [] => by simp [List.intercalate, tailN]
  | t, u :: r => by
    have h := join_tail u r
    simp only [List.map_cons, List.intercalate, List.intersperse, List.flatten_cons, tailN] at h ⊢
    rw [h]
    simp
theorem join_is (l : List ByteArray) : ([32] : List UInt8).intercalate (l.map (·.data.toList)) = joinN l := by
  cases l with
  | nil => rfl
  | cons t r => exact join_tail t r
def gnm (m : List TnG) (gs : List MlG) : List UInt8 := match grp m gs with
  | none => []
  | some l => joinN (l.map gname)
theorem gnm_some {m : List TnG} {gs : List MlG} {l : List GpG} (h : grp m gs = some l) : gnm m gs = joinN (l.map gname) := by unfold gnm; rw [h]
theorem gnm_none {m : List TnG} {gs : List MlG} (h : grp m gs = none) : gnm m gs = [] := by unfold gnm; rw [h]
theorem grp_small {m : List TnG} {gs : List MlG} {l : List GpG} (h : grp m gs = some l) : l.length = gs.length ∧ l.length ≤ 24 ∧ ∀ g ∈ l, g.f0.length ≤ 4 := by
  obtain ⟨_, h1, _, _, h2, hc⟩ := grp_of h
  have hl := cut_len gs m l hc
  refine ⟨hl, by omega, fun g hg => ?_⟩
  obtain ⟨i, hi, rfl⟩ := List.mem_iff_getElem.mp hg
  obtain ⟨b, _, _, _, h4, he⟩ := cut_at gs m l hc i gs[i] (List.getElem?_eq_getElem (by omega))
  rw [List.getElem?_eq_getElem hi] at he
  rw [Option.some.inj he]
  simp only [List.length_drop, List.length_take]
  omega
theorem impl_gnames_loop (l : List GpG) (hl : l.length ≤ 24) (h4 : ∀ g ∈ l, g.f0.length ≤ 4) : ∀ (d i : Nat), i + d = l.length → EvP (fun k => impl_GroupsNames.l0 k ((l.map gname).take i) l (l.length : Int) (i : Int)) (· = ⟨(joinN (l.map gname)).toArray⟩) := by
  intro d
  induction d with
  | zero =>
    intro i hi
    refine EvP.succ ?_
    simp only [impl_GroupsNames.l0]
    refine EvP.no (by omega) ?_
    rw [List.take_of_length_le (by rw [List.length_map]; omega)]
    have hj := join_is (l.map gname)
    have hz : (⟨#[32]⟩ : ByteArray).data.toList = [32] := rfl
    have hm := joinN_len (l.map gname) (fun t ht => by
      obtain ⟨g, hg, rfl⟩ := List.mem_map.mp ht
      exact gname_size g (h4 g hg))
    rw [List.length_map] at hm
    refine EvP.bind (P := (· = ⟨(joinN (l.map gname)).toArray⟩)) (EvP.con ?_ rfl) (fun _ e => EvP.ret e)
    unfold strings_Join.f Go.Lib.join
    rw [hz, hj, if_pos (by rw [List.length_map]; omega), if_pos (by omega)]
  | succ d ih =>
    intro i hi
    have hlt : i < l.length := by omega
    have e1 : Hd (wrap64 ((i : Int) + 1) = ((i + 1 : Nat) : Int)) := ⟨w64 (by omega) (by omega)⟩
    refine EvP.succ ?_
    simp only [impl_GroupsNames.l0]
    refine EvP.yes (by omega) (EvP.yes (by omega) (EvP.yes (by omega) ?_))
    rw [rdP_lt hlt, e1.out]
    refine EvP.bind (P := (· = gname l[i])) (EvP.con (impl_gname _ _ (h4 _ (List.getElem_mem hlt))) rfl) (fun _ e => ?_)
    subst e
    refine EvP.yes (by rw [List.length_take, List.length_map]; omega) ?_
    have := List.take_succ_eq_append_getElem (l := l.map gname) (i := i) (by rw [List.length_map]; exact hlt)
    rw [List.getElem_map] at this
    rw [← this]
    exact ih (i + 1) (by omega)
theorem impl_gnames (m : List TnG) (gs : List MlG) (hg : gs.length ≤ 1048576) : EvP (fun k => impl_GroupsNames.f k m gs) (· = ⟨(gnm m gs).toArray⟩) := by
  simp only [impl_GroupsNames.f]
  refine EvP.bind (impl_groups m gs hg) (fun r e => ?_)
  cases h : grp m gs with
  | none =>
    rw [e.2 h, gnm_none h]
    exact EvP.no (by decide) (EvP.ret rfl)
  | some l =>
    rw [e.1 l h, gnm_some h]
    obtain ⟨_, h2, h3⟩ := grp_small h
    exact EvP.yes rfl (impl_gnames_loop l h2 h3 l.length 0 (by omega))
theorem spec_ith {m : List TnG} {gs : List MlG} {l : List GpG} (h : grp m gs = some l) (i : Nat) (hi : i < gs.length) (hi' : i < l.length) {β : Type} (F : Nat → ByteArray → Option β) (Q : β → Prop) (hF : EvP (fun k => F k (gname l[i])) Q) :
    EvP (fun k => (spec_l3Begin.f k gs (i : Int)).bind fun t => (if 0 ≤ (i : Int) then (if (i : Int) < (gs.length : Int) then (if 0 ≤ t then (if t ≤ (wrap64 (t + gs[i].f0)) then (if (wrap64 (t + gs[i].f0)) ≤ (m.length : Int) then ((spec_l3Name.f k ((m.take ((wrap64 (t + gs[i].f0)) : Int).toNat).drop (t : Int).toNat) gs[i].f1).bind fun u => F k u) else (none)) else (none)) else (none)) else (none)) else (none))) Q := by
  obtain ⟨_, h1, ha, _, h2, hc⟩ := grp_of h
  obtain ⟨b, hb, hl, h3, h4, he⟩ := cut_at gs m l hc i gs[i] (List.getElem?_eq_getElem hi)
  refine EvP.bind (spec_begin gs i (by omega) (by omega) ha) (fun _ e => ?_)
  subst e
  rw [← hb]
  have e1 : Hd (wrap64 ((b : Int) + gs[i].f0) = ((b + gs[i].f0.toNat : Nat) : Int)) := ⟨by rw [w64 (by omega) (by omega)]; omega⟩
  rw [e1.out]
  refine EvP.yes (by omega) (EvP.yes (by omega) (EvP.yes (by omega) (EvP.yes (by omega) (EvP.yes (by omega) ?_))))
  rw [toNat_nat, toNat_nat]
  have he : l[i] = ⟨(m.take (b + gs[i].f0.toNat)).drop b, gs[i].f1⟩ := by
    rw [List.getElem?_eq_getElem hi'] at he
    exact Option.some.inj he
  rw [he] at hF
  exact EvP.bind (spec_gname _ _ (by rw [List.length_drop, List.length_take]; omega)) (fun _ e => by subst e; exact hF)
theorem spec_gnames_loop {m : List TnG} {gs : List MlG} {l : List GpG} (h : grp m gs = some l) (hm : m.length ≤ 1000000000) : ∀ (d i : Nat) (acc : ByteArray), i + d = gs.length → acc.size ≤ 10 * i → 1 ≤ i →
    EvP (fun k => spec_GroupsNames.l0 k m gs acc (i : Int)) (fun r => r.data.toList = acc.data.toList ++ tailN ((l.map gname).drop i)) := by
  obtain ⟨hl, h24, h4⟩ := grp_small h
  intro d
  induction d with
  | zero =>
    intro i acc hi ha h0
    refine EvP.succ ?_
    simp only [spec_GroupsNames.l0]
    refine EvP.no (by omega) (EvP.succ ?_)
    simp only [spec_GroupsNames.j1]
    refine EvP.no (by simp) (EvP.ret ?_)
    rw [List.drop_of_length_le (by rw [List.length_map]; omega)]
    simp [tailN]
  | succ d ih =>
    intro i acc hi ha h0
    have hlt : i < gs.length := by omega
    have hlt' : i < l.length := by omega
    have e1 : Hd (wrap64 ((i : Int) + 1) = ((i + 1 : Nat) : Int)) := ⟨w64 (by omega) (by omega)⟩
    have hs := gname_size l[i] (h4 _ (List.getElem_mem hlt'))
    refine EvP.succ ?_
    simp only [spec_GroupsNames.l0]
    refine EvP.yes (by omega) ?_
    refine EvP.bind (spec_gvalid m gs hm (by omega)) (fun _ e => ?_)
    subst e
    rw [h]
    refine EvP.succ ?_
    simp only [spec_GroupsNames.j1]
    have h32 : (⟨#[32]⟩ : ByteArray).size = 1 := rfl
    refine EvP.yes rfl (EvP.yes (by omega) (EvP.yes (by omega) ?_))
    rw [rdG_lt hlt, e1.out]
    refine spec_ith h i hlt hlt' _ _ ?_
    refine EvP.yes (by rw [ByteArray.size_append]; omega) ?_
    refine (ih (i + 1) _ (by omega) (by rw [ByteArray.size_append, ByteArray.size_append]; omega) (by omega)).mono (fun r hr => ?_)
    rw [hr, app_data, app_data, List.drop_eq_getElem_cons (l := l.map gname) (i := i) (by rw [List.length_map]; exact hlt'), List.getElem_map]
    simp [tailN]
theorem spec_gnames (m : List TnG) (gs : List MlG) (hm : m.length ≤ 1000000000) (hg : gs.length ≤ 1048576) : EvP (fun k => spec_GroupsNames.f k m gs) (· = ⟨(gnm m gs).toArray⟩) := by
  simp only [spec_GroupsNames.f]
  refine EvP.succ ?_
  simp only [spec_GroupsNames.l0]
  have fin : (x : Bool) → x = false → gnm m gs = [] → EvP (fun k => spec_GroupsNames.j1 k m gs ⟨#[]⟩ 0 x) (· = ⟨(gnm m gs).toArray⟩) := by
    intro x hx hn
    subst hx
    rw [hn]
    refine EvP.succ ?_
    simp only [spec_GroupsNames.j1]
    exact EvP.no (by simp) (EvP.ret rfl)
  refine EvP.ite (fun h0 => ?_) (fun h0 => ?_)
  · refine EvP.bind (spec_gvalid m gs hm hg) (fun _ e => ?_)
    subst e
    cases h : grp m gs with
    | none => exact fin _ rfl (gnm_none h)
    | some l =>
      obtain ⟨hl, h24, h4⟩ := grp_small h
      have hlt : 0 < gs.length := by omega
      have hlt' : 0 < l.length := by omega
      have hs := gname_size l[0] (h4 _ (List.getElem_mem hlt'))
      have hz : (⟨#[]⟩ : ByteArray).size = 0 := rfl
      rw [gnm_some h]
      refine EvP.succ ?_
      simp only [spec_GroupsNames.j1]
      refine EvP.yes rfl (EvP.no (by omega) ?_)
      rw [show (0 : Int) = ((0 : Nat) : Int) from rfl, rdG_lt hlt]
      refine spec_ith h 0 hlt hlt' _ _ ?_
      refine EvP.yes (by omega) ?_
      rw [show wrap64 (((0 : Nat) : Int) + 1) = ((1 : Nat) : Int) by decide +kernel]
      refine (spec_gnames_loop h hm (gs.length - 1) 1 _ (by omega) (by rw [ByteArray.size_append]; omega) (by omega)).mono (fun r hr => ?_)
      apply ba_ext
      rw [hr, app_data]
      obtain ⟨t, ts, rfl⟩ : ∃ t ts, l = t :: ts := by
        cases l with
        | nil => simp at hlt'
        | cons t ts => exact ⟨t, ts, rfl⟩
      simp [joinN]
  · refine fin _ rfl ?_
    obtain rfl : gs = [] := by
      cases gs with
      | nil => rfl
      | cons g gs => simp at h0
    cases h : grp m [] with
    | none => exact gnm_none h
    | some l =>
      rw [gnm_some h, List.eq_nil_of_length_eq_zero (grp_small h).1]
      rfl
end Go.Proofs.YtldepdaglapdeaaDoor.Pur
end
section
namespace Go.Proofs.YtldepdaglapdeaaDoor.Pur
open Go.RowKit Go.Proofs.YtldepdaglapdeaaDoorW.PrintWords Go.Proofs.YtldepdaglapdeaaDoor.E
abbrev Tn' := S56
def cv (t : S64) : S56 := ⟨t.f0, t.f1⟩
theorem sz_ok (l : List S64) (n : Int) (hl : (l.length : Int) ≤ 9223372036854775807) (h0 : 0 ≤ n) (hn : n ≤ 1048576) :
    ((l.length : Int) ≤ n ∧ laws_szToneS.f l n = some (n - l.length)) ∨ (n < (l.length : Int) ∧ laws_szToneS.f l n = some (-1)) := by
  unfold laws_szToneS.f
  rw [w64 (by omega) (by omega)]
  by_cases h : n - (l.length : Int) < 0
  · rw [if_pos h]; exact .inr ⟨by omega, rfl⟩
  · rw [if_neg h]; exact .inl ⟨by omega, rfl⟩
theorem conv_loop (l : List S64) (hl : l.length ≤ 1048576) : ∀ (d i : Nat) (xs : List S56), i + d = l.length → xs.length = l.length → xs.take i = (l.take i).map cv →
    EvP (fun k => laws_toToneS.l0 k l xs (i : Int)) (· = l.map cv) := by
  intro d
  induction d with
  | zero =>
    intro i xs hi hx ht
    refine EvP.succ ?_
    simp only [laws_toToneS.l0]
    refine EvP.no (by omega) (EvP.ret ?_)
    rw [List.take_of_length_le (by omega), List.take_of_length_le (by omega)] at ht
    exact ht
  | succ d ih =>
    intro i xs hi hx ht
    have hlt : i < l.length := by omega
    refine EvP.succ ?_
    simp only [laws_toToneS.l0]
    refine EvP.yes (by omega) (EvP.yes (by omega) ?_)
    refine EvP.bind (P := (· = (l[i].f0, l[i].f1))) (EvP.con ?_ rfl) (fun _ e => ?_)
    · unfold laws_toTone.f rd_T64
      rw [toNat_nat, List.getD_eq_getElem?_getD, List.getElem?_eq_getElem hlt]
      rfl
    · subst e
      refine EvP.yes (by omega) ?_
      rw [w64 (by omega) (by omega), toNat_nat]
      refine ih (i + 1) _ (by omega) (by simpa using hx) ?_
      rw [List.take_succ_eq_append_getElem (by simp; omega), List.take_succ_eq_append_getElem hlt, List.map_append, List.take_set_of_le (Nat.le_refl _), ht]
      simp [cv]
theorem conv_ok (l : List S64) (hl : l.length ≤ 1048576) : EvP (fun k => laws_toToneS.f k l) (· = l.map cv) := by
  unfold laws_toToneS.f
  refine EvP.yes (by omega) (EvP.yes (by omega) ?_)
  exact conv_loop l hl l.length 0 _ (by omega) (by simp) rfl
theorem eq_loop (l : List S56) (hl : l.length ≤ 1048576) : ∀ d i : Nat, i + d = l.length → EvP (fun k => laws_eqToneS.l0 k l l (i : Int)) (· = true) := by
  intro d
  induction d with
  | zero =>
    intro i hi
    refine EvP.succ ?_
    simp only [laws_eqToneS.l0]
    exact EvP.no (by omega) (EvP.ret rfl)
  | succ d ih =>
    intro i hi
    refine EvP.succ ?_
    simp only [laws_eqToneS.l0]
    refine EvP.yes (by omega) (EvP.yes (by omega) (EvP.yes (by omega) ?_))
    refine EvP.bind (P := (· = true)) (EvP.con (by simp [laws_eqTone.f]) rfl) (fun _ e => ?_)
    subst e
    refine EvP.yes rfl ?_
    rw [w64 (by omega) (by omega)]
    exact ih (i + 1) (by omega)
theorem eq_ok (l : List S56) (hl : l.length ≤ 1048576) : EvP (fun k => laws_eqToneS.f k l l) (· = true) := by
  unfold laws_eqToneS.f
  exact EvP.yes rfl (eq_loop l hl l.length 0 (by omega))
end Go.Proofs.YtldepdaglapdeaaDoor.Pur
end
section
namespace Go.Proofs.YtldepdaglapdeaaDoor.Pur
open Go.RowKit Go.Proofs.YtldepdaglapdeaaDoorW.PrintWords Go.Proofs.YtldepdaglapdeaaDoor.E
abbrev Ml' := S42
def cvG (t : S66) : S42 := ⟨t.f0, t.f1⟩
theorem ml_sz_ok (l : List S66) (n : Int) (hl : (l.length : Int) ≤ 9223372036854775807) (h0 : 0 ≤ n) (hn : n ≤ 1048576) :
    ((l.length : Int) ≤ n ∧ laws_szMelismaS.f l n = some (n - l.length)) ∨ (n < (l.length : Int) ∧ laws_szMelismaS.f l n = some (-1)) := by
  unfold laws_szMelismaS.f
  rw [w64 (by omega) (by omega)]
  by_cases h : n - (l.length : Int) < 0
  · rw [if_pos h]; exact .inr ⟨by omega, rfl⟩
  · rw [if_neg h]; exact .inl ⟨by omega, rfl⟩
theorem ml_conv_loop (l : List S66) (hl : l.length ≤ 1048576) : ∀ (d i : Nat) (xs : List S42), i + d = l.length → xs.length = l.length → xs.take i = (l.take i).map cvG →
    EvP (fun k => laws_toMelismaS.l0 k l xs (i : Int)) (· = l.map cvG) := by
  intro d
  induction d with
  | zero =>
    intro i xs hi hx ht
    refine EvP.succ ?_
    simp only [laws_toMelismaS.l0]
    refine EvP.no (by omega) (EvP.ret ?_)
    rw [List.take_of_length_le (by omega), List.take_of_length_le (by omega)] at ht
    exact ht
  | succ d ih =>
    intro i xs hi hx ht
    have hlt : i < l.length := by omega
    refine EvP.succ ?_
    simp only [laws_toMelismaS.l0]
    refine EvP.yes (by omega) (EvP.yes (by omega) ?_)
    refine EvP.bind (P := (· = (l[i].f0, l[i].f1))) (EvP.con ?_ rfl) (fun _ e => ?_)
    · unfold laws_toMelisma.f rd_T66
      rw [toNat_nat, List.getD_eq_getElem?_getD, List.getElem?_eq_getElem hlt]
      rfl
    · subst e
      refine EvP.yes (by omega) ?_
      rw [w64 (by omega) (by omega), toNat_nat]
      refine ih (i + 1) _ (by omega) (by simpa using hx) ?_
      rw [List.take_succ_eq_append_getElem (by simp; omega), List.take_succ_eq_append_getElem hlt, List.map_append, List.take_set_of_le (Nat.le_refl _), ht]
      simp [cvG]
theorem ml_conv_ok (l : List S66) (hl : l.length ≤ 1048576) : EvP (fun k => laws_toMelismaS.f k l) (· = l.map cvG) := by
  unfold laws_toMelismaS.f
  refine EvP.yes (by omega) (EvP.yes (by omega) ?_)
  exact ml_conv_loop l hl l.length 0 _ (by omega) (by simp) rfl
theorem ml_eq_loop (l : List S42) (hl : l.length ≤ 1048576) : ∀ d i : Nat, i + d = l.length → EvP (fun k => laws_eqMelismaS.l0 k l l (i : Int)) (· = true) := by
  intro d
  induction d with
  | zero =>
    intro i hi
    refine EvP.succ ?_
    simp only [laws_eqMelismaS.l0]
    exact EvP.no (by omega) (EvP.ret rfl)
  | succ d ih =>
    intro i hi
    refine EvP.succ ?_
    simp only [laws_eqMelismaS.l0]
    refine EvP.yes (by omega) (EvP.yes (by omega) (EvP.yes (by omega) ?_))
    refine EvP.bind (P := (· = true)) (EvP.con (by simp [laws_eqMelisma.f]) rfl) (fun _ e => ?_)
    subst e
    refine EvP.yes rfl ?_
    rw [w64 (by omega) (by omega)]
    exact ih (i + 1) (by omega)
theorem ml_eq_ok (l : List S42) (hl : l.length ≤ 1048576) : EvP (fun k => laws_eqMelismaS.f k l l) (· = true) := by
  unfold laws_eqMelismaS.f
  exact EvP.yes rfl (ml_eq_loop l hl l.length 0 (by omega))
end Go.Proofs.YtldepdaglapdeaaDoor.Pur
end
section
namespace Go.Proofs.YtldepdaglapdeaaDoor.E
open Go.RowKit Go.Proofs.YtldepdaglapdeaaDoorW.PrintWords Go.Proofs.YtldepdaglapdeaaDoorW.PrintLast Go.Proofs.YtldepdaglapdeaaDoorW.PrintMore
attribute [local go_sem] max2_int min2_int max_two min_two max_three min_three max_four min_four
set_option linter.unusedVariables false
set_option linter.unusedSimpArgs false
attribute [local go_sem] str_leq_ str_gtr_ str_geq_
def laws_FnExactGroupsNames.f (k : Nat) (l0 : List (S64)) (l1 : List (S66)) : Option (Bool) := (laws_szToneS.f l0 1048576).bind fun t204 => (if t204 < 0 then (some true) else ((laws_szMelismaS.f l1 t204).bind fun t205 => (if t205 < 0 then (some true) else ((laws_toToneS.f k l0).bind fun t206 => ((laws_toMelismaS.f k l1).bind fun t209 => ((spec_GroupsNames.f k t206 t209).bind fun t212 => ((laws_toToneS.f k l0).bind fun t213 => ((laws_toMelismaS.f k l1).bind fun t216 => ((impl_GroupsNames.f k t213 t216).bind fun t219 => (if t219.toList = t212.toList then ((laws_toToneS.f k l0).bind fun t220 => ((laws_eqToneS.f k t213 t220).bind fun t223 => (if t223 = true then ((laws_toMelismaS.f k l1).bind fun t224 => ((laws_eqMelismaS.f k t216 t224).bind fun t227 => (if t227 = true then (some true) else (none)))) else (none)))) else (none)))))))))))
end Go.Proofs.YtldepdaglapdeaaDoor.E
end
section
namespace Go.Proofs.YtldepdaglapdeaaDoor.Pur
open Go.RowKit Go.Proofs.YtldepdaglapdeaaDoorW.PrintWords Go.Proofs.YtldepdaglapdeaaDoorW.PrintMore Go.Proofs.YtldepdaglapdeaaDoor.E
theorem lists_beq (a b : ByteArray) : (a.toList == b.toList) = decide (a = b) := by
  rw [Bool.eq_iff_iff, beq_iff_eq, decide_eq_true_eq, list_iff]
def gread (m : List TnG) (gs : List MlG) (t : ByteArray) : Bool := (grp m gs).isSome && decide (t = ⟨(gnm m gs).toArray⟩)
theorem impl_gread (m : List TnG) (gs : List MlG) (t : ByteArray) (hg : gs.length ≤ 1048576) : EvP (fun k => impl_GroupsRead.f k m gs t) (· = gread m gs t) := by
  simp only [impl_GroupsRead.f]
  refine EvP.bind (impl_gvalid m gs hg) (fun _ e => ?_)
  subst e
  unfold gread
  refine EvP.ite (fun h => ?_) (fun h => EvP.ret ?_)
  · refine EvP.bind (impl_gnames m gs hg) (fun _ e => ?_)
    subst e
    refine EvP.ret ?_
    rw [lists_beq, h, Bool.true_and]
  · rw [Bool.eq_false_iff.mpr h]; rfl
theorem spec_gread (m : List TnG) (gs : List MlG) (t : ByteArray) (hm : m.length ≤ 1000000000) (hg : gs.length ≤ 1048576) : EvP (fun k => spec_GroupsRead.f k m gs t) (· = gread m gs t) := by
  simp only [spec_GroupsRead.f]
  refine EvP.bind (spec_gvalid m gs hm hg) (fun _ e => ?_)
  subst e
  unfold gread
  refine EvP.ite (fun h => ?_) (fun h => EvP.ret ?_)
  · refine EvP.bind (spec_gnames m gs hm hg) (fun _ e => ?_)
    subst e
    refine EvP.ret ?_
    rw [lists_beq, h, Bool.true_and]
    rw [decide_eq_decide]
    exact eq_comm
  · rw [Bool.eq_false_iff.mpr h]; rfl
theorem exact_gread (l0 : List S64) (l1 : List S66) (t : ByteArray) (h0 : (l0.length : Int) ≤ 9223372036854775807) (h1 : (l1.length : Int) ≤ 9223372036854775807) (_ : t.size ≤ 140737488351232) : ∃ k, laws_FnExactGroupsRead.f k l0 l1 t = some true := by
  refine EvP.rounds ?_
  simp only [laws_FnExactGroupsRead.f]
  refine EvP.ite (fun _ => EvP.ret rfl) (fun _ => ?_)
  rcases sz_ok l0 1048576 h0 (by omega) (by omega) with ⟨hn, hs⟩ | ⟨hn, hs⟩
  · refine EvP.bind (P := (· = 1048576 - (l0.length : Int))) (EvP.con hs rfl) (fun _ e => ?_)
    subst e
    refine EvP.no (by omega) ?_
    rcases ml_sz_ok l1 (1048576 - (l0.length : Int)) h1 (by omega) (by omega) with ⟨hm, ht⟩ | ⟨hm, ht⟩
    · refine EvP.bind (P := (· = 1048576 - (l0.length : Int) - (l1.length : Int))) (EvP.con ht rfl) (fun _ e => ?_)
      subst e
      have c0 := conv_ok l0 (by omega)
      have c1 := ml_conv_ok l1 (by omega)
      have z0 : (l0.map cv).length = l0.length := List.length_map ..
      have z1 : (l1.map cvG).length = l1.length := List.length_map ..
      refine EvP.no (by omega) ?_
      refine EvP.bind c0 (fun _ e => ?_); subst e
      refine EvP.bind c1 (fun _ e => ?_); subst e
      refine EvP.bind (spec_gread _ _ t (by omega) (by omega)) (fun _ e => ?_); subst e
      refine EvP.bind c0 (fun _ e => ?_); subst e
      refine EvP.bind c1 (fun _ e => ?_); subst e
      refine EvP.bind (impl_gread _ _ t (by omega)) (fun _ e => ?_); subst e
      refine EvP.no (by simp) ?_
      refine EvP.bind c0 (fun _ e => ?_); subst e
      refine EvP.bind (eq_ok (l0.map cv) (by omega)) (fun _ e => ?_); subst e
      refine EvP.yes rfl ?_
      refine EvP.bind c1 (fun _ e => ?_); subst e
      refine EvP.bind (ml_eq_ok (l1.map cvG) (by omega)) (fun _ e => ?_); subst e
      exact EvP.yes rfl (EvP.ret rfl)
    · refine EvP.bind (P := (· = -1)) (EvP.con ht rfl) (fun _ e => ?_)
      subst e
      exact EvP.yes (by omega) (EvP.ret rfl)
  · refine EvP.bind (P := (· = -1)) (EvP.con hs rfl) (fun _ e => ?_)
    subst e
    exact EvP.yes (by omega) (EvP.ret rfl)
end Go.Proofs.YtldepdaglapdeaaDoor.Pur
end
section
namespace Go.Proofs.YtldepdaglapdeaaDoor.Head
set_option maxRecDepth 100000
theorem and_t {a b : Bool} (h : a = true) (k : b = true) : (a && b) = true := by rw [h, k]; rfl
theorem mayEnter_of {P : Program} {l : List String} {W rest : List (List Char)} (h : behindMainWord (wordsSigns P.initOrder.toList) = W) (hc : ∃ c r, W = c :: r ∧ (c == "gc".toList || c == "spec".toList) = false ∧ (c == "carried".toList) = false) (hs : stripLifts liftWords W = (l, "cut".toList :: rest))
    (hl : (l.contains "finals" || !P.laysLater) = true) (hb : (l.contains "reflectrows" || !P.bearsReflect) = true) (hr : (l.contains "reflectrows" || !l.contains "leanrows") = true) (hd : P.doorFits l = true) : P.mayEnter = true := by
  obtain ⟨c, r, rfl, h1, h2⟩ := hc
  unfold Program.mayEnter
  rw [h]
  dsimp only
  rw [hs, hl, hb, hr, hd, h1, h2]
  simp
theorem headLifts_of {P : Program} {l : List String} {W rest : List (List Char)} (h : behindMainWord (wordsSigns P.initOrder.toList) = W) (hs : stripLifts liftWords W = (l, "cut".toList :: rest)) : P.headLifts = l := by
  unfold Program.headLifts
  rw [h]
  dsimp only
  rw [hs]
  simp
theorem liftsFinal_of {P : Program} {l : List String} {W rest : List (List Char)} (h : behindMainWord (wordsSigns P.initOrder.toList) = W) (hc : ∃ c r, W = c :: r ∧ (c == "gc".toList || c == "spec".toList) = false ∧ (c == "carried".toList) = false) (hs : stripLifts liftWords W = (l, "cut".toList :: rest)) : P.liftsFinal = l.contains "finals" := by
  unfold Program.liftsFinal
  rw [headLifts_of h hs, h]
  obtain ⟨c, r, rfl, h1, h2⟩ := hc
  have h3 : ((c :: r).head? == some "carried".toList) = false := by
    rw [beq_eq_false_iff_ne] at h2 ⊢
    exact fun e => h2 (Option.some.inj e)
  dsimp only
  rw [h3, Bool.false_and, Bool.false_or]
theorem make_of {P : Program} {rest : List (List Char)} (h : behindMainWord (wordsSigns P.initOrder.toList) = "cut".toList :: rest) : P.make = some .cut := by
  unfold Program.make
  rw [h]
  dsimp only
  rw [if_neg (by decide), if_pos (by simp)]
theorem mainIs_of {P : Program} {s : List Char} {rest : List (List Char)} (h : wordsSigns P.initOrder.toList = "harness".toList :: s :: rest) (hs : isSumSigns s = true) : P.mainIs = some (true, s) := by
  unfold Program.mainIs
  rw [h]
  dsimp only
  rw [hs]
  simp
def io : List Nat := [104, 97, 114, 110, 101, 115, 115, 32, 57, 99, 50, 99, 97, 51, 98, 50, 56, 49, 102, 102, 56, 98, 49, 57, 101, 56, 57, 55, 53, 51, 99, 51, 53, 97, 56, 57, 48, 52, 57, 102, 98, 48, 54, 100, 51, 100, 50, 98, 49, 50, 97, 100, 102, 57, 52, 55, 99, 51, 100, 99, 50, 55, 56, 54, 50, 48, 54, 55, 57, 52, 52, 56, 32, 99, 117, 116, 32, 97, 116, 32, 108, 111, 111, 112, 46, 101, 120, 97, 109, 112, 108, 101, 47, 110, 101, 117, 109, 101, 115, 47, 108, 97, 119, 115, 46, 70, 110, 69, 120, 97, 99, 116, 71, 114, 111, 117, 112, 115, 78, 97, 109, 101, 115, 32, 108, 111, 111, 112, 46, 101, 120, 97, 109, 112, 108, 101, 47, 110, 101, 117, 109, 101, 115, 47, 108, 97, 119, 115, 46, 70, 110, 69, 120, 97, 99, 116, 71, 114, 111, 117, 112, 115, 82, 101, 97, 100, 32, 108, 111, 111, 112, 46, 101, 120, 97, 109, 112, 108, 101, 47, 110, 101, 117, 109, 101, 115, 47, 108, 97, 119, 115, 46, 70, 110, 71, 114, 111, 117, 112, 115, 32, 108, 111, 111, 112, 46, 101, 120, 97, 109, 112, 108, 101, 47, 110, 101, 117, 109, 101, 115, 47, 108, 97, 119, 115, 46, 70, 110, 71, 114, 111, 117, 112, 115, 67, 117, 116, 32, 108, 111, 111, 112, 46, 101, 120, 97, 109, 112, 108, 101, 47, 110, 101, 117, 109, 101, 115, 47, 108, 97, 119, 115, 46, 70, 110, 78, 101, 117, 109, 101, 67, 111, 110, 116, 111, 117, 114, 32, 108, 111, 111, 112, 46, 101, 120, 97, 109, 112, 108, 101, 47, 110, 101, 117, 109, 101, 115, 47, 108, 97, 119, 115, 46, 70, 110, 71, 114, 111, 117, 112, 115, 82, 101, 97, 100]
def ws : List (List Nat) := [[104, 97, 114, 110, 101, 115, 115], [57, 99, 50, 99, 97, 51, 98, 50, 56, 49, 102, 102, 56, 98, 49, 57, 101, 56, 57, 55, 53, 51, 99, 51, 53, 97, 56, 57, 48, 52, 57, 102, 98, 48, 54, 100, 51, 100, 50, 98, 49, 50, 97, 100, 102, 57, 52, 55, 99, 51, 100, 99, 50, 55, 56, 54, 50, 48, 54, 55, 57, 52, 52, 56], [99, 117, 116], [97, 116], [108, 111, 111, 112, 46, 101, 120, 97, 109, 112, 108, 101, 47, 110, 101, 117, 109, 101, 115, 47, 108, 97, 119, 115, 46, 70, 110, 69, 120, 97, 99, 116, 71, 114, 111, 117, 112, 115, 78, 97, 109, 101, 115], [108, 111, 111, 112, 46, 101, 120, 97, 109, 112, 108, 101, 47, 110, 101, 117, 109, 101, 115, 47, 108, 97, 119, 115, 46, 70, 110, 69, 120, 97, 99, 116, 71, 114, 111, 117, 112, 115, 82, 101, 97, 100], [108, 111, 111, 112, 46, 101, 120, 97, 109, 112, 108, 101, 47, 110, 101, 117, 109, 101, 115, 47, 108, 97, 119, 115, 46, 70, 110, 71, 114, 111, 117, 112, 115], [108, 111, 111, 112, 46, 101, 120, 97, 109, 112, 108, 101, 47, 110, 101, 117, 109, 101, 115, 47, 108, 97, 119, 115, 46, 70, 110, 71, 114, 111, 117, 112, 115, 67, 117, 116], [108, 111, 111, 112, 46, 101, 120, 97, 109, 112, 108, 101, 47, 110, 101, 117, 109, 101, 115, 47, 108, 97, 119, 115, 46, 70, 110, 78, 101, 117, 109, 101, 67, 111, 110, 116, 111, 117, 114], [108, 111, 111, 112, 46, 101, 120, 97, 109, 112, 108, 101, 47, 110, 101, 117, 109, 101, 115, 47, 108, 97, 119, 115, 46, 70, 110, 71, 114, 111, 117, 112, 115, 82, 101, 97, 100]]
def ch (w : List Nat) : List Char := w.map Char.ofNat
theorem io_is : Tryd.prog.initOrder = String.ofList (ch io) := by kernel_rfl
theorem io_ws : wordsSigns (ch io) = ws.map ch := by kernel_rfl
theorem io_all : wordsSigns Tryd.prog.initOrder.toList = ws.map ch := by rw [io_is, String.toList_ofList, io_ws]
theorem be : behindMainWord (ws.map ch) = (ws.drop 2).map ch := by kernel_rfl
theorem io_be : behindMainWord (wordsSigns Tryd.prog.initOrder.toList) = (ws.drop 2).map ch := by rw [io_all, be]
theorem first : ∃ c r, (ws.drop 2).map ch = c :: r ∧ (c == "gc".toList || c == "spec".toList) = false ∧ (c == "carried".toList) = false := ⟨ch (ws.getD 2 []), (ws.drop 3).map ch, by kernel_rfl, by kernel_rfl, by kernel_rfl⟩
theorem st : stripLifts liftWords ((ws.drop 2).map ch) = ([], "cut".toList :: ((ws.drop 3).map ch)) := by kernel_rfl
theorem ll : ([].contains "finals" || !Tryd.prog.laysLater) = true := by kernel_rfl
theorem br : ([].contains "reflectrows" || !Tryd.prog.bearsReflect) = true := by kernel_rfl
theorem rr : ([].contains "reflectrows" || ![].contains "leanrows") = true := by kernel_rfl
theorem df : Tryd.prog.doorFits [] = true := by kernel_rfl
theorem mayE : Tryd.prog.mayEnter = true := mayEnter_of io_be first st ll br rr df
theorem finE : Tryd.prog.liftsFinal = [].contains "finals" := liftsFinal_of io_be first st
theorem mainE : Tryd.prog.mainIs = some (true, ch [57, 99, 50, 99, 97, 51, 98, 50, 56, 49, 102, 102, 56, 98, 49, 57, 101, 56, 57, 55, 53, 51, 99, 51, 53, 97, 56, 57, 48, 52, 57, 102, 98, 48, 54, 100, 51, 100, 50, 98, 49, 50, 97, 100, 102, 57, 52, 55, 99, 51, 100, 99, 50, 55, 56, 54, 50, 48, 54, 55, 57, 52, 52, 56]) := mainIs_of (rest := (ws.drop 2).map ch) (io_all.trans (by kernel_rfl)) (by kernel_rfl)
theorem makeE : Tryd.prog.make = some .cut := make_of (io_be.trans (by kernel_rfl : (ws.drop 2).map ch = "cut".toList :: ((ws.drop 3).map ch)))
end Go.Proofs.YtldepdaglapdeaaDoor.Head
end
section
namespace Go.Proofs.YtldepdaglapdeaaDoor.Pur
open Go.RowKit Go.ChangeShapes Go.Deep Go.Proofs.YtldepdaglapdeaaDoorW.PrintWords Go.Proofs.YtldepdaglapdeaaDoor.E
section
variable {P : Program}
theorem open_ib {H : Type} {enc : TypeId × Value → H} {W : World} {t : TypeId} {f0 f1 : Field} {fuel : Nat} {cs : List Value} {x : DataW H × List MemPlace} (ht : P.underlying t = some (.struct #[f0, f1])) (hi : P.underlying f0.type = some (.int .i64)) (hb : P.underlying f1.type = some .bool)
    (c0 : P.cellsOf f0.type = 1) (c1 : P.cellsOf f1.type = 1) (ct : P.cellsOf t = 2) (o0 : f0.offset = 0) (o1 : f1.offset = 1) (h : DataW.trod enc P W 0 (fun _ => true) true fuel t cs = some x) : ∃ (a : Int) (b : Bool), cs = [.int .i64 a, .bool b] := by
  obtain ⟨y0, y1, n, _, hl, h0, h1⟩ := trod_struct2 ht h
  rw [ct] at hl
  rw [c0, o0] at h0
  rw [c1, o1] at h1
  obtain ⟨a, e0, _, _⟩ := DataW.trod_int hi h0
  obtain ⟨b, e1, _⟩ := DataW.trod_bool hb h1
  match cs, hl with
  | [u, v], _ =>
    simp at e0 e1
    exact ⟨a, b, by rw [e0, e1]⟩
theorem open_row {H : Type} {enc : TypeId × Value → H} {W : World} {α : Type} [Inhabited α] {d : Kd α} {t e : TypeId} {fuel : Nat} {cs : List Value} {x : DataW H × List MemPlace} (ht : P.underlying t = some (.slice e)) (hc : P.cellsOf e = d.sz)
    (o : ∀ (fuel : Nat) (cs : List Value) (x : DataW H × List MemPlace), DataW.trod enc P W 0 (fun _ => true) true fuel e cs = some x → ∃ y, d.K W y cs)
    (h : DataW.trod enc P W 0 (fun _ => true) true fuel t cs = some x) : ∃ (A : Option Addr) (c : Nat) (l : List α), cs = [.slice A l.length c] ∧ l.length ≤ c ∧ (l.length : Int) ≤ 9223372036854775807 ∧ d.C W A l.length l := by
  rcases open_slice ht h with ⟨rfl, _⟩ | ⟨a, len, cap, m, n, D, Pl, rfl, _, hl, hm, hmm, _, hx⟩
  · exact ⟨none, 0, [], rfl, Nat.le_refl _, by simp, rfl, by simp, fun h => absurd h (by simp)⟩
  · have hlm : len ≤ m := by rw [hmm]; simp; omega
    unfold maxLen at hm
    obtain ⟨Y, hY⟩ := choose_lt (α := α) (n := len) (p := fun i y => ∃ cs', W.cells? 0 (a.add (i * P.cellsOf e)) (P.cellsOf e) = some cs' ∧ d.K W y cs') (fun i hi => by
      obtain ⟨cs', h1, h2⟩ := hx i (by omega)
      obtain ⟨y, hy⟩ := o _ _ _ h2
      exact ⟨y, cs', h1, hy⟩)
    have hlen : ((List.range len).map Y).length = len := by simp
    refine ⟨some a, cap, (List.range len).map Y, by rw [hlen], by rw [hlen]; exact hl, by rw [hlen]; omega, rfl, by rw [hlen]; omega, fun _ => ⟨a, rfl, fun j p hj => ?_⟩⟩
    obtain ⟨hj1, hj2⟩ := List.getElem?_eq_some_iff.1 hj
    rw [hlen] at hj1
    simp only [List.getElem_map, List.getElem_range] at hj2
    subst hj2
    obtain ⟨cs', h1, h2⟩ := hY j hj1
    obtain ⟨_, g1, g2⟩ := World.cells?_some h1
    refine ⟨cs', by rw [g1, hc], h2, fun i u hu => ?_⟩
    have := g2 i (by rw [← g1]; exact (List.getElem?_eq_some_iff.1 hu).1)
    rw [Go.Deep.add_add, hc, hu] at this
    exact this
end
instance : Inhabited S64 := ⟨z64⟩
theorem open_tones {H : Type} {enc : TypeId × Value → H} {W : World} {fuel : Nat} {cs : List Value} {x : DataW H × List MemPlace} (h : DataW.trod enc Tryd.prog W 0 (fun _ => true) true fuel 22 cs = some x) :
    ∃ (A : Option Addr) (c : Nat) (l : List S64), cs = [.slice A l.length c] ∧ l.length ≤ c ∧ (l.length : Int) ≤ 9223372036854775807 ∧ Kd.C k64 W A l.length l :=
  open_row Tryd.underlying22 (by kernel_rfl) (fun fuel cs x h => by
    obtain ⟨a, b, rfl⟩ := open_ib Tryd.underlying64 (by kernel_rfl) (by kernel_rfl) (by kernel_rfl) (by kernel_rfl) (by kernel_rfl) rfl rfl h
    exact ⟨⟨a, b⟩, k64_mk W ⟨a, b⟩⟩) h
instance : Inhabited S66 := ⟨z66⟩
theorem open_mels {H : Type} {enc : TypeId × Value → H} {W : World} {fuel : Nat} {cs : List Value} {x : DataW H × List MemPlace} (h : DataW.trod enc Tryd.prog W 0 (fun _ => true) true fuel 23 cs = some x) :
    ∃ (A : Option Addr) (c : Nat) (l : List S66), cs = [.slice A l.length c] ∧ l.length ≤ c ∧ (l.length : Int) ≤ 9223372036854775807 ∧ Kd.C k66 W A l.length l :=
  open_row Tryd.underlying23 (by kernel_rfl) (fun fuel cs x h => by
    obtain ⟨a, b, rfl⟩ := open_ib Tryd.underlying66 (by kernel_rfl) (by kernel_rfl) (by kernel_rfl) (by kernel_rfl) (by kernel_rfl) rfl rfl h
    exact ⟨⟨a, b⟩, k66_mk W ⟨a, b⟩⟩) h
end Go.Proofs.YtldepdaglapdeaaDoor.Pur
end
section
namespace Go.Proofs.YtldepdaglapdeaaDoor.Pur
open Go
variable {H : Type} {enc : TypeId × Value → H}
theorem handed_shaped_and {a : Assume} {C : Checked} {os : Os} {f : FuncId} {fn : Func} {s : ChangeSpec} {conds : List PathCond} {apart fresh handsOn again : Bool} {X : World → Array Value → Prop}
    (hX : ∀ (w w' : World) (args : Array Value), w.heap = w'.heap → X w args → X w' args)
    (own : ownKnob C.prog.godebug = none) (started : os.Started) (noInit : C.prog.inits.idxOf? f = none) (hfn : C.prog.funcs[f]? = some fn)
    (witness : ∃ (w : World) (tape : Tape) (i : Input), w.os = os ∧ (w.forCall tape i).Shaped C.prog ∧ i.vars = [] ∧ Input.okWide C.prog (w.forCall tape i) .any w.heap.size f i ∧
      ((s.pre enc C.prog fn conds apart (w.forCall tape i).memory i.args ∧ X (w.forCall tape i).memory i.args) ∧ sizedMet enc C.prog fn (OpenSpec.ofChange s) apart (w.forCall tape i).memory i.args) ∧ a.holds C.prog (lone (Frame.enter C.prog f i.args .normal) [] (w.forCall tape i)))
    (contract : ∀ (W : World) (base : Nat) (args : Array Value) (ds gs : List (DataW H)) (before : List MemPlace),
      (∀ (j : Nat) t v, fn.params[j]? = some t → args[j]? = some v → Value.okWide C.prog W .any base t v) →
      DataW.Whole enc C.prog fn.params.toList s.vars apart W args.toList ds gs before →
      conds.all (PathCond.test C.prog ⟨fn.params.toList, ds, s.plain.varTypes C.prog, gs⟩) = true →
      (DataW.weightsEach C.prog (fn.params.toList ++ s.plain.varTypes C.prog) (ds ++ gs)).all (· ≤ reachBytes) = true → X W args → W.ShapedOpen C.prog →
      a.holds C.prog (lone (Frame.enter C.prog f args .normal) [] W) →
      Calls C.prog f args W fun e W' => ∃ v, e = .returned v ∧ s.post enc C.prog fn apart fresh handsOn again W args v W') :
    ReturnsInHanded a C os f .any (fun w args => (s.pre enc C.prog fn conds apart w args ∧ X w args) ∧ sizedMet enc C.prog fn (OpenSpec.ofChange s) apart w args) (s.post enc C.prog fn apart fresh handsOn again) := by
  refine returnsInHanded_of_calls own started noInit witness ?_
  intro w tape i _ hsh _ hok hpre hholds
  obtain ⟨_, _, _, fn', hfn', _, _, _, _, hval⟩ := hok
  have e : fn' = fn := Option.some.inj (hfn'.symm.trans hfn)
  subst e
  obtain ⟨⟨⟨ds, gs, before, hw, hc⟩, hx⟩, hz⟩ := hpre
  have hw' := DataW.Whole.of_heap (w' := w.forCall tape i) (by rfl) hw
  refine (contract (w.forCall tape i) w.heap.size i.args ds gs before hval hw' hc (hz.weights hw) (hX _ _ _ (by rfl) hx) hsh hholds).mono fun e W' ⟨v, he, hp⟩ => ?_
  subst he
  exact ChangeSpec.post_blind hp
end Go.Proofs.YtldepdaglapdeaaDoor.Pur
end
section
namespace Go.Proofs.YtldepdaglapdeaaDoor.Pur
open Go.Proofs.YtldepdaglapdeaaDoor.E Go Go.RowKit Go.ChangeShapes
theorem laid_mem {P : Program} {W : World} {n : String} {d : DataW Unit} : ∀ {l : List (String × DataW Unit)} {ps : List MemPlace}, DataW.LaidVars P W l ps → (n, d) ∈ l →
    ∃ g t cs fuel p, P.globalNamed n = some g ∧ (P.globals[g]?).map (·.type) = some t ∧ W.var? P n = some cs ∧ DataW.trod (fun _ => ()) P W 0 (fun _ => true) false fuel t cs.toList = some (d, p)
  | [], _, _, h => by cases h
  | (n', d') :: r, ps, ⟨g, t, cs, fuel, p, q, h1, h2, h3, h4, h5, _⟩, h => by
    rcases List.mem_cons.mp h with e | e
    · cases e
      exact ⟨g, t, cs, fuel, p, h1, h2, h3, h4⟩
    · exact laid_mem h5 e
theorem vars_cons {H : Type} {enc : TypeId × Value → H} {P : Program} {w : World} {sp : Nat → Bool} {n : String} {ns : List String} {gs : List (DataW H)} {ps : List MemPlace} (h : DataW.TrodVars enc P w sp (n :: ns) gs ps) : ∃ g gs' q, gs = g :: gs' ∧ DataW.TrodVars enc P w sp ns gs' q := by
  cases gs with
  | nil => exact h.elim
  | cons g r =>
    obtain ⟨_, _, _, _, _, q, _, _, _, _, hs, _⟩ := h
    exact ⟨g, r, q, rfl, hs⟩
theorem vars_nil {H : Type} {enc : TypeId × Value → H} {P : Program} {w : World} {sp : Nat → Bool} {gs : List (DataW H)} {ps : List MemPlace} (h : DataW.TrodVars enc P w sp [] gs ps) : gs = [] := by
  cases gs with
  | nil => rfl
  | cons _ _ => exact h.elim
theorem laid_vars {P : Program} {l : List (String × DataW Unit)} {W : World} (h : laidMetH P l W) (hp : (l.all fun x => x.2.handleName?.isNone) = true) : ∃ ps, DataW.LaidVars P W l ps := by
  rw [MakeChecks.laidMetH_plain _ _ _ hp] at h
  obtain ⟨ps, h, _⟩ := h
  exact ⟨ps, h⟩
theorem ba_of_list {s : ByteArray} {l : List UInt8} (h : s.data.toList = l) : s = ⟨l.toArray⟩ := by
  obtain ⟨⟨d⟩⟩ := s
  subst h
  rfl
theorem cells_r : Tryd.prog.cellsOf 86 = 2 := by kernel_rfl
theorem cells_r7 : Tryd.prog.cellsOf 87 = 14 := by kernel_rfl
theorem row_read {P : Program} {H : Type} {enc : TypeId × Value → H} {W : World} {base fuel : Nat} {spare : Nat → Bool} {held : Bool} {t : TypeId} {f0 f1 : Field} {cs : List Value} {x : DataW H × List MemPlace} {a b : List UInt8} (ht : P.underlying t = some (.struct #[f0, f1])) (h0 : P.underlying f0.type = some .string) (h1 : P.underlying f1.type = some .string)
    (c0 : P.cellsOf f0.type = 1) (c1 : P.cellsOf f1.type = 1) (ct : P.cellsOf t = 2) (o0 : f0.offset = 0) (o1 : f1.offset = 1) (h : DataW.trod enc P W base spare held fuel t cs = some x) (hx : x.1 = .agg [.lit (.string a), .lit (.string b)]) : cs = [.string ⟨a.toArray⟩, .string ⟨b.toArray⟩] := by
  obtain ⟨y0, y1, n, rfl, hl, e0, e1⟩ := trod_struct2 ht h
  rw [ct] at hl
  rw [c0, o0] at e0
  rw [c1, o1] at e1
  obtain ⟨s0, q0, rfl, _⟩ := DataW.trod_string h0 e0
  obtain ⟨s1, q1, rfl, _⟩ := DataW.trod_string h1 e1
  match cs, hl with
  | [u, v], _ =>
    simp at q0 q1 hx
    rw [q0, q1, ba_of_list hx.1, ba_of_list hx.2]
theorem heap_of_var {P : Program} {W : World} {n : String} {g : Nat} {cs : Array Value} (hg : P.globalNamed n = some g) (h : W.var? P n = some cs) : ∃ t fr, W.heap[g]? = some (.cells cs t fr) := by
  unfold World.var? at h
  rw [hg, Option.bind_some] at h
  split at h
  · rename_i c t fr he
    obtain rfl := Option.some.inj h
    exact ⟨t, fr, he⟩
  · cases h
theorem take2 {α : Type} {l : List α} {i : Nat} {a b : α} (h : (l.drop (i * 2)).take 2 = [a, b]) : l[i * 2]? = some a ∧ l[i * 2 + 1]? = some b := by
  have h0 := congrArg (·[0]?) h
  have h1 := congrArg (·[1]?) h
  simp only [List.getElem?_take, List.getElem?_drop] at h0 h1
  exact ⟨by simpa using h0, by simpa using h1⟩
theorem seven {α : Type} {l : List α} (h : l.length = 7) : ∃ c0 c1 c2 c3 c4 c5 c6, l = [c0, c1, c2, c3, c4, c5, c6] := by
  match l, h with
  | [a, b, c, d, e, f, g], _ => exact ⟨a, b, c, d, e, f, g, rfl⟩
theorem rows_cells {W : World} {l : List (String × DataW Unit)} {ps : List MemPlace} (h : DataW.LaidVars Tryd.prog W l ps) (hm : ("loop.example/neumes/impl.neumeRows", Rows.laid_loop_example_neumes_impl_neumeRows) ∈ l) :
    W.var? Tryd.prog "loop.example/neumes/impl.neumeRows" = some rowsN.toArray := by
  obtain ⟨g, t, cs, fuel, p, hg, ht, hvar, hd⟩ := laid_mem h hm
  obtain rfl := Option.some.inj ((show Tryd.prog.globalNamed "loop.example/neumes/impl.neumeRows" = some 0 by kernel_rfl).symm.trans hg)
  obtain rfl := Option.some.inj ((show (Tryd.prog.globals[0]?).map (·.type) = some 87 by kernel_rfl).symm.trans ht)
  rw [hvar]
  congr 1
  obtain ⟨l⟩ := cs
  obtain ⟨xs, m, _, hx, hl, hn, hi⟩ := DataW.trod_array Tryd.underlying87 hd
  rw [cells_r7] at hl
  have hx1 := (Prod.mk.inj hx).1
  obtain ⟨x0, x1, x2, x3, x4, x5, x6, rfl⟩ := seven hn
  simp only [Rows.laid_loop_example_neumes_impl_neumeRows, List.map_cons, List.map_nil, DataW.agg.injEq, List.cons.injEq, and_true] at hx1
  obtain ⟨y0, y1, y2, y3, y4, y5, y6⟩ := hx1
  have rd : ∀ (i : Nat) (x : DataW Unit × List MemPlace) (a b : List UInt8), i < 7 → [x0, x1, x2, x3, x4, x5, x6][i]? = some x → x.1 = .agg [.lit (.string a), .lit (.string b)] → l[i * 2]? = some (.string ⟨a.toArray⟩) ∧ l[i * 2 + 1]? = some (.string ⟨b.toArray⟩) := by
    intro i x a b h7 hix hxx
    have := hi i h7
    rw [hix, cells_r] at this
    exact take2 (row_read Tryd.underlying86 (by kernel_rfl) (by kernel_rfl) (by kernel_rfl) (by kernel_rfl) (by kernel_rfl) rfl rfl this hxx)
  have z0 := rd 0 x0 _ _ (by decide) rfl y0.symm
  have z1 := rd 1 x1 _ _ (by decide) rfl y1.symm
  have z2 := rd 2 x2 _ _ (by decide) rfl y2.symm
  have z3 := rd 3 x3 _ _ (by decide) rfl y3.symm
  have z4 := rd 4 x4 _ _ (by decide) rfl y4.symm
  have z5 := rd 5 x5 _ _ (by decide) rfl y5.symm
  have z6 := rd 6 x6 _ _ (by decide) rfl y6.symm
  have : l = rowsN := by
    apply List.ext_getElem?
    intro i
    match i with
    | 0 => exact z0.1
    | 1 => exact z0.2
    | 2 => exact z1.1
    | 3 => exact z1.2
    | 4 => exact z2.1
    | 5 => exact z2.2
    | 6 => exact z3.1
    | 7 => exact z3.2
    | 8 => exact z4.1
    | 9 => exact z4.2
    | 10 => exact z5.1
    | 11 => exact z5.2
    | 12 => exact z6.1
    | 13 => exact z6.2
    | i + 14 =>
      have hl' : l.length = 14 := hl
      rw [List.getElem?_eq_none (by omega), List.getElem?_eq_none (by have : rowsN.length = 14 := rfl; omega)]
  rw [this]
theorem gok_rows {W : World} {l : List (String × DataW Unit)} (h : laidMetH Tryd.prog l W) (hp : (l.all fun x => x.2.handleName?.isNone) = true) (hm : ("loop.example/neumes/impl.neumeRows", Rows.laid_loop_example_neumes_impl_neumeRows) ∈ l) : GOk [0] W := by
  obtain ⟨ps, hv⟩ := laid_vars h hp
  intro n hn
  obtain rfl := List.mem_singleton.mp hn
  exact heap_of_var (by kernel_rfl) (rows_cells hv hm)
end Go.Proofs.YtldepdaglapdeaaDoor.Pur
end
section
namespace Go.Proofs.YtldepdaglapdeaaDoor.fnExactGroupsRead
open Go.ChangeShapes Go.WideShapes Go.ChangeAt Go.RowKit
open Go.ChangeMaps (open_string shut_string)
set_option linter.unusedVariables false
theorem own : ownKnob Tryd.prog.godebug = none := by kernel_rfl
theorem laidOut : laidOutB Tryd.prog = true := by kernel_rfl
set_option maxRecDepth 100000 in
theorem lifted (os : Os) (started : os.Started) (H : Type) (enc : TypeId × Value → H) :
    ReturnsInHanded {} Tryd.checked os 4 .any (fun w args => (Rows.fnExactGroupsReadSpec.pre enc Tryd.prog Tryd.f4 Rows.fnExactGroupsReadRow.domain false w args ∧ laidMetH Tryd.prog Rows.fnExactGroupsReadRow.laid w) ∧ sizedMet enc Tryd.prog Tryd.f4 (OpenSpec.ofChange Rows.fnExactGroupsReadSpec) false w args) (Rows.fnExactGroupsReadSpec.post enc Tryd.prog Tryd.f4 false true false false) := by
  refine Pur.handed_shaped_and (C := Tryd.checked) (X := fun w _ => laidMetH Tryd.prog Rows.fnExactGroupsReadRow.laid w) (fun _ _ _ hh h => h.of_heap hh) own started (by kernel_rfl) Tryd.func4
    (ChangeSpec.witness_shaped (enc := enc) (C := Tryd.checked) (os := os) (X := fun w _ => laidMetH Tryd.prog Rows.fnExactGroupsReadRow.laid w) false (World.laidAll Tryd.prog os Rows.fnExactGroupsReadRow.laid) #[.slice none 0 0, .slice none 0 0, .string ByteArray.empty] 8 (World.laidAll_os _ _ _) (World.shaped_of_ZipB (by kernel_rfl) (by kernel_rfl)) (by kernel_rfl) (by kernel_rfl) (by kernel_rfl) (by rw [MakeChecks.laidMetH_plain _ _ _ (by kernel_rfl)]; exact laidMet_laidAll _ (by kernel_rfl) (by kernel_rfl))) ?_
  intro W base args ds gs before hval0 hW hcnd hsz0 hL hSh _
  have hsz : (DataW.weightsEach Tryd.prog (Tryd.f4.params.toList ++ Rows.fnExactGroupsReadSpec.plain.varTypes Tryd.prog) (ds ++ gs)).all (· ≤ reachBytes) = true := hsz0
  have hval : ∀ (j : Nat) t v, Tryd.f4.params[j]? = some t → args[j]? = some v → Value.okWide Tryd.prog W .any base t v := hval0
  have hW' := hW
  obtain ⟨p, q, hA0, hV, rfl, hfz, hnd⟩ := hW
  have hA : DataW.TrodAll enc Tryd.prog W 0 (fun _ => true) true Tryd.f4.params.toList args.toList ds p := hA0
  rw [Tryd.params4] at hA hval hsz
  obtain ⟨v0, vs0, d0, ds0, p0, q0, hargs, rfl, rfl, h0, r0⟩ := trodAll_cons hA
  obtain ⟨v1, vs1, d1, ds1, p1, q1, rfl, rfl, rfl, h1, r1⟩ := trodAll_cons r0
  obtain ⟨v2, vs2, d2, ds2, p2, q2, rfl, rfl, rfl, h2, r2⟩ := trodAll_cons r1
  obtain ⟨rfl, rfl, rfl⟩ := trodAll_nil r2
  obtain rfl : args = #[v0, v1, v2] := by cases args; simp_all
  obtain ⟨g0, gs0, vq0, rfl, hV0⟩ := Pur.vars_cons hV
  obtain rfl := Pur.vars_nil hV0
  have k0 := h0
  have lt0 : ∀ x ∈ p0, x.block < W.heap.size := by obtain ⟨m, hm⟩ := k0; exact DataW.trod_lt m _ _ _ hm
  obtain ⟨a0, len0, cap0, rfl⟩ := okWide_slice Tryd.underlying22 (hval 0 22 v0 rfl rfl)
  obtain ⟨fuel0, hf0⟩ := h0
  obtain ⟨A0, c0, l0, hcs0, hle0, hm0, hC0⟩ := Pur.open_tones hf0
  simp [Value.cells] at hcs0
  obtain ⟨rfl, rfl, rfl⟩ := hcs0
  have k1 := h1
  have lt1 : ∀ x ∈ p1, x.block < W.heap.size := by obtain ⟨m, hm⟩ := k1; exact DataW.trod_lt m _ _ _ hm
  obtain ⟨a1, len1, cap1, rfl⟩ := okWide_slice Tryd.underlying23 (hval 1 23 v1 rfl rfl)
  obtain ⟨fuel1, hf1⟩ := h1
  obtain ⟨A1, c1, l1, hcs1, hle1, hm1, hC1⟩ := Pur.open_mels hf1
  simp [Value.cells] at hcs1
  obtain ⟨rfl, rfl, rfl⟩ := hcs1
  have k2 := h2
  have lt2 : ∀ x ∈ p2, x.block < W.heap.size := by obtain ⟨m, hm⟩ := k2; exact DataW.trod_lt m _ _ _ hm
  obtain ⟨a2, rfl, rfl, rfl, y2⟩ := open_string Tryd.underlying9 (hval 2 9 v2 rfl rfl) h2
  have w2 : a2.size ≤ 140737488351232 := by
    have z := sized_string hsz (j := 2) (t := 9) rfl rfl
    rw [Array.length_toList] at z
    exact z
  clear hA0 hval0 hsz0 hsz
  obtain ⟨k, hk⟩ := Pur.exact_gread l0 l1 a2 hm0 hm1 w2
  refine (E.laws_FnExactGroupsRead.calls k _ _ l0 _ _ l1 a2 true W hC0 hle0 hC1 hle1 (Pur.gok_rows hL (by kernel_rfl) (by first | exact .head _ | exact .tail _ (.head _) | exact .tail _ (.tail _ (.head _)) | exact .tail _ (.tail _ (.tail _ (.head _))) | exact .tail _ (.tail _ (.tail _ (.tail _ (.head _)))) | exact .tail _ (.tail _ (.tail _ (.tail _ (.tail _ (.head _))))))) hk).mono fun e W' ⟨he, bel⟩ => ?_
  subst he
  exact ⟨_, rfl, _, _, _, [], _, _, hW', trodAll_mk1 (shut_bool Tryd.underlying4 _), (trodAll_cons_mk (Below.trod laidOut (by kernel_rfl) (of_decide_eq_true (by kernel_rfl)) k0 bel lt0) (trodAll_cons_mk (Below.trod laidOut (by kernel_rfl) (of_decide_eq_true (by kernel_rfl)) k1 bel lt1) (trodAll_cons_mk (shut_string Tryd.underlying9 y2) trodAll_mk0))), (Below.trodVars laidOut bel (by kernel_rfl) hV), bel.frame _, fun h => by cases h⟩
set_option maxRecDepth 100000 in
theorem closed : joinedFacts Tryd.prog 4 Tryd.f4 Rows.fnExactGroupsReadSpec Rows.fnExactGroupsReadRow = true := by
  have hf : (Rows.fnExactGroupsReadRow.lifted == Tryd.prog.liftsFinal) = true := by rw [Head.finE]; kernel_rfl
  have hm : (Tryd.prog.make == some Rows.fnExactGroupsReadRow.make) = true := by rw [Head.makeE]; kernel_rfl
  unfold joinedFacts
  repeat' (with_reducible refine Head.and_t ?_ ?_)
  all_goals first | with_reducible exact Head.mayE | with_reducible exact hf | with_reducible exact hm | (as_aux_lemma => kernel_rfl)
theorem over : Rows.fnExactGroupsReadRow.holds Tryd.pinned (OpenSpec.ofChange Rows.fnExactGroupsReadSpec) :=
  OpenClaim.holds_of_wide 4 Tryd.f4 rfl rfl rfl rfl rfl rfl rfl ⟨rfl, rfl, rfl, rfl, rfl⟩ rfl rfl rfl rfl rfl (by kernel_rfl) Tryd.func4 closed
    (of_decide_eq_true (by kernel_rfl)) (by unfold Func.isWrapper; first | (rw [if_pos (by decide +kernel)]; kernel_rfl) | (rw [if_neg (by decide +kernel)]; exact ⟨rfl, rfl⟩))
    (fun os started H enc _ => lifted os started H enc)
theorem card_ : Rows.FnExactGroupsReadCardSaid :=
  Claim7.holds_tied_plain_at .later [] [.data, .data, .pinned, .pinned] true (true, "9c2ca3b281ff8b19e89753c35a89049fb06d3d2b12adf947c3dc278620679448") false
    over (fun _ h => by cases h) (by as_aux_lemma => kernel_rfl) (fun _ h => by cases h) fnExactGroupsRead_row_tie rfl ⟨rfl, rfl⟩ (Head.mainE.trans (by as_aux_lemma => kernel_rfl)) rfl
    (fun f fn hf hfn => by
      obtain rfl : f = 4 := Option.some.inj ((show Tryd.prog.funcNamed "loop.example/neumes/laws.FnExactGroupsRead" = some 4 by kernel_rfl).symm.trans hf) |>.symm
      obtain rfl : fn = Tryd.f4 := (Option.some.inj (Tryd.func4.symm.trans hfn)).symm
      exact ⟨by kernel_rfl, fun j t ht => by
        rw [Tryd.params4] at ht
        have hm : t ∈ [22, 23, 9] := by simpa using Array.mem_of_getElem? ht
        have hall : ([22, 23, 9].all fun u => !Tryd.prog.wantsStandIn u) = true := by kernel_rfl
        exact (show Tryd.prog.wantsStandIn t = false by simpa using List.all_eq_true.1 hall t hm)⟩)
    (by kernel_rfl)
theorem proved : Rows.FnExactGroupsReadCardSaid := card_
#print axioms proved
end Go.Proofs.YtldepdaglapdeaaDoor.fnExactGroupsRead
namespace Go.Proofs.YtldepdaglapdeaaDoor
theorem fnExactGroupsRead_holds : Rows.FnExactGroupsReadCardSaid := fnExactGroupsRead.proved
end Go.Proofs.YtldepdaglapdeaaDoor
end
