/- Texts of this claim, joined by a program of this session's (wip/tools/pack.py). -/
import Derived.Test.YtdgmkfbmeaalpaaDoorRowFnPsalmReadK2
section
namespace Go.Proofs.YtdgmkfbmeaalpaaDoor.E
open Go.RowKit Go.Proofs.YtdgmkfbmeaalpaaDoorW.PrintWords Go.Proofs.YtdgmkfbmeaalpaaDoorW.PrintLast Go.Proofs.YtdgmkfbmeaalpaaDoorW.PrintMore
attribute [local go_sem] max2_int min2_int max_two min_two max_three min_three max_four min_four
set_option linter.unusedVariables false
set_option linter.unusedSimpArgs false
attribute [local go_sem] str_leq_ str_gtr_ str_geq_
def spec_DrawPsalmRead.j0 : Nat → List (S27) → ByteArray → Bool → List Int → Int → Option ((List (S27)) × ByteArray × (List (S25)))
 | 0, _, _, _, _, _ => none
 | k + 1, x6, x7, x23, x832000, x832001 => if x23 = true then ((spec_l6Rd_pick.f k x832000 x832001 (x6.length : Int)).bind fun bt840 => (if 0 ≤ bt840.1 then (if bt840.1 < (x6.length : Int) then ((spec_PsalmSing.f k ((rd_T27 x6 bt840.1).f0) ((rd_T27 x6 bt840.1).f1.f0) ((rd_T27 x6 bt840.1).f1.f1) ((rd_T27 x6 bt840.1).f2) ((rd_T27 x6 bt840.1).f3) x7).bind fun bt843 => (if bt843.2 = true then (some (x6, x7, bt843.1)) else ((spec_l91Melody.f k x832000 bt840.2 8).bind fun bt847 => (some (x6, x7, bt847.1))))) else (none)) else (none))) else ((spec_l91Melody.f k x832000 x832001 8).bind fun bt851 => (some (x6, x7, bt851.1)))
def spec_DrawPsalmRead.f (k : Nat) (l0 : List Int) : Option ((List (S27)) × ByteArray × (List (S25))) := (spec_l6Open.f l0).bind fun bt829 => ((spec_l91Psalms.f k bt829.1 bt829.2).bind fun bt832 => ((spec_l91Verse.f k bt829.1 bt832.2).bind fun bt836 => (if (bt832.1.length : Int) > 0 then ((spec_l6Rd_pick.f k bt829.1 bt836.2 4).bind fun bt838 => (spec_DrawPsalmRead.j0 k bt832.1 bt836.1 (decide (bt838.1 > 0)) bt829.1 bt838.2)) else (spec_DrawPsalmRead.j0 k bt832.1 bt836.1 false bt829.1 bt836.2))))
set_option maxHeartbeats 8000000 in
set_option maxRecDepth 100000 in
theorem spec_DrawPsalmRead.calls (k : Nat) (A0 : Option Addr) (c0 : Nat) (l0 : List Int) (r1 : List (S27)) (r2 : ByteArray) (r3 : List (S25)) (w : World) (hr0 : Kd.C (Kd.int .u8) w A0 l0.length l0) (hc0 : l0.length ≤ c0) (h : spec_DrawPsalmRead.f k l0 = some (r1, r2, r3)) :
  Calls Tryd.prog 43 #[.slice A0 l0.length c0] w fun e w' => ∃ v0_ v2_ : Value, e = .returned (.tuple #[v0_, .string r2, v2_]) ∧ Kd.S k27 27 w' w.heap.size (fun k_ => some k_ ≠ (v2_ : Value).ownBlock) v0_ r1 ∧ Kd.R k25 25 w' w.heap.size (fun _ => True) v2_ r3 ∧ Below w.heap.size w w' := by
 have hu27 := Tryd.underlying27
 have HR0 := Aside0.mk hr0
 have HC0 := Aside0.mk hc0
 clear hr0 hc0
 have HB := Aside0.mk (Below.refl w.heap.size w)
 have H : ((spec_l6Open.f l0).bind fun bt829 => ((spec_l91Psalms.f k bt829.1 bt829.2).bind fun bt832 => ((spec_l91Verse.f k bt829.1 bt832.2).bind fun bt836 => (if (bt832.1.length : Int) > 0 then ((spec_l6Rd_pick.f k bt829.1 bt836.2 4).bind fun bt838 => (spec_DrawPsalmRead.j0 k bt832.1 bt836.1 (decide (bt838.1 > 0)) bt829.1 bt838.2)) else (spec_DrawPsalmRead.j0 k bt832.1 bt836.1 false bt829.1 bt836.2))))) = some (r1, r2, r3) := h
 clear h
 replace H := Option.bind_eq_some_iff.mp H
 obtain ⟨⟨t829, t830⟩, A20, H⟩ := H
 replace H : ((spec_l91Psalms.f k t829 t830).bind fun bt832 => ((spec_l91Verse.f k t829 bt832.2).bind fun bt836 => (if (bt832.1.length : Int) > 0 then ((spec_l6Rd_pick.f k t829 bt836.2 4).bind fun bt838 => (spec_DrawPsalmRead.j0 k bt832.1 bt836.1 (decide (bt838.1 > 0)) t829 bt838.2)) else (spec_DrawPsalmRead.j0 k bt832.1 bt836.1 false t829 bt836.2)))) = some (r1, r2, r3) := H
 have A2 := Aside0.mk A20
 clear A20
 replace H := Option.bind_eq_some_iff.mp H
 obtain ⟨⟨t832, t835⟩, A30, H⟩ := H
 replace H : ((spec_l91Verse.f k t829 t835).bind fun bt836 => (if (t832.length : Int) > 0 then ((spec_l6Rd_pick.f k t829 bt836.2 4).bind fun bt838 => (spec_DrawPsalmRead.j0 k t832 bt836.1 (decide (bt838.1 > 0)) t829 bt838.2)) else (spec_DrawPsalmRead.j0 k t832 bt836.1 false t829 bt836.2))) = some (r1, r2, r3) := H
 have A3 := Aside0.mk A30
 clear A30
 replace H := Option.bind_eq_some_iff.mp H
 obtain ⟨⟨t836, t837⟩, A40, H⟩ := H
 replace H : (if (t832.length : Int) > 0 then ((spec_l6Rd_pick.f k t829 t837 4).bind fun bt838 => (spec_DrawPsalmRead.j0 k t832 t836 (decide (bt838.1 > 0)) t829 bt838.2)) else (spec_DrawPsalmRead.j0 k t832 t836 false t829 t837)) = some (r1, r2, r3) := H
 have A4 := Aside0.mk A40
 clear A40
 have HC5 := Aside0.mk H
 clear H
 go_enter Tryd.func43, Tryd.ntmps43
 go_upto_region 4 with (first | ((with_reducible refine gate_callee (f := 57) rfl ?_); refine goesL_ (some 11) rfl rfl Tryd.func57 (by kernel_rfl) rfl #[.slice A0 l0.length c0] rfl (by (try simp only [List.map_toArray, List.map_cons, List.map_nil]); first | done | rfl | (simp only [List.length_drop, List.length_take]; rfl)) ?_; (with_reducible refine (spec_l6Open.calls _ _ l0 t829 t830 w _ ?side1 ?side2 ?side3 A2.out).mono ?_); (case side1 => repeat (first | (with_reducible first | exact HB.out | apply below_alloc | apply pw_below_drewN | apply below_drew1) | exact HB.out)); (case side2 => exact HR0.out); (case side3 => exact HC0.out); rintro e w6 ⟨g831, rfl, hi, hb, hb2⟩; refine ⟨_, rfl, ?_⟩; have n0_ := Aside0.mk (hb); have n1_ := Aside0.mk (hi); clear HB; have HB := n0_; have HI831 := n1_; clear n0_ n1_; (try clear hb); (try clear hb2); (try clear hk); (try clear hi)) | ((with_reducible refine gate_callee (f := 69) rfl ?_); refine goesL_ (some 13) rfl rfl Tryd.func69 (by kernel_rfl) rfl #[.pointer (some ⟨g831, 0, none⟩)] rfl (by (try simp only [List.map_toArray, List.map_cons, List.map_nil]); first | done | rfl | (simp only [List.length_drop, List.length_take]; rfl)) ?_; (with_reducible refine (spec_l91Psalms.calls k g831 t829 t830 t832 t835 w _ ?side1 ?side2 A3.out).mono ?_); (case side1 => repeat (first | (with_reducible first | exact HI831.out | apply IsS104.alloc | apply IsS104.drewN | apply IsS104.drew | apply IsS104.set_1) | exact HI831.out)); (case side2 => repeat (first | (with_reducible first | exact HB.out | apply below_alloc | apply pw_below_drewN | apply below_drew1 | refine below_set ?_ (IsS104.ge HI831.out)) | exact HB.out)); rintro e w7 ⟨v833, rfl, ho0, hi, hb, hk⟩; refine ⟨_, rfl, ?_⟩; have n0_ := Aside0.mk (Kd.S_lower ho0 (below_size (by repeat (first | (with_reducible first | exact HB.out | apply below_alloc | apply pw_below_drewN | apply below_drew1 | refine below_set ?_ (IsS104.ge HI831.out)) | exact HB.out)))); have n1_ := Aside0.mk (hb); have n2_ := Aside0.mk (hi); clear HB; clear HI831; have HO834 := n0_; have HB := n1_; have HI831 := n2_; clear n0_ n1_ n2_; (try clear hb); (try clear hb2); (try clear hk); (try clear hi); (try clear ho0)) | ((with_reducible refine gate_callee (f := 70) rfl ?_); refine goesL_ (some 15) rfl rfl Tryd.func70 (by kernel_rfl) rfl #[.pointer (some ⟨g831, 0, none⟩)] rfl (by (try simp only [List.map_toArray, List.map_cons, List.map_nil]); first | done | rfl | (simp only [List.length_drop, List.length_take]; rfl)) ?_; (with_reducible refine (spec_l91Verse.calls k g831 t829 t835 t836 t837 w _ ?side1 ?side2 A4.out).mono ?_); (case side1 => repeat (first | (with_reducible first | exact HI831.out | apply IsS104.alloc | apply IsS104.drewN | apply IsS104.drew | apply IsS104.set_1) | exact HI831.out)); (case side2 => repeat (first | (with_reducible first | exact HB.out | apply below_alloc | apply pw_below_drewN | apply below_drew1 | refine below_set ?_ (IsS104.ge HI831.out)) | exact HB.out)); rintro e w8 ⟨rfl, hi, hb, hk⟩; refine ⟨_, rfl, ?_⟩; have n0_ := Aside0.mk (Kd.S_mono (Kd.S_keep (IsS104.apartS (show IsS104 w _ g831 t829 t835 from by repeat (first | (with_reducible first | exact HI831.out | apply IsS104.alloc | apply IsS104.drewN | apply IsS104.drew | apply IsS104.set_1) | exact HI831.out)) (by (with_reducible repeat (first | apply Kd.S_alloc | apply Kd.S_drewN | apply Kd.S_drew)); exact HO834.out) (by decide)) hk (fun _ h => h.2)) (fun _ h => h.1)); have n1_ := Aside0.mk (hb); have n2_ := Aside0.mk (hi); clear HO834; clear HB; clear HI831; have HO834 := n0_; have HB := n1_; have HI831 := n2_; clear n0_ n1_ n2_; (try clear hb); (try clear hb2); (try clear hk); (try clear hi)))
 (try simp only [Act.put, List.setIfInBounds_toArray, List.set_cons_zero, List.set_cons_succ])
 go_cut [23] (fun v23 wc => ∃ (kq : Nat) (x23_4 : Bool) (x832001_4 : Int), v23 = .bool x23_4 ∧ Aside0 (spec_DrawPsalmRead.j0 kq t832 t836 x23_4 t829 x832001_4 = some (r1, r2, r3)) ∧ Aside0 (kq ≤ k) ∧ Aside0 (Kd.S k27 27 wc w.heap.size (fun _ => True) v833 t832) ∧ Aside0 (IsS104 w wc g831 t829 x832001_4) ∧ Aside0 (Below w.heap.size w wc))
 case first =>
  have H := HC5.out
  clear HC5
  by_cases c9 : (t832.length : Int) > 0
  rotate_left
  ·rw [if_neg c9] at H
   have c9b0 : decide (0 < (t832.length : Int)) = false := decide_eq_false c9
   have c9b1 : decide (0 < t832.length) = false := decide_eq_false (by omega)
   clear c9
   (first | rw [c9b0] | (simp only [i64_w, i32_w]; rw [c9b0]) | skip)
   have H' := Aside0.mk H
   clear H
   obtain ⟨Ao13, co13, eo13⟩ := Kd.S_slice HO834.out
   subst eo13
   go_wp2
   go_meet
   case rel => exact ⟨_, (false), (t837), (by first | rfl | (simp; done) | (simp [*]; done)), H', ⟨by first | omega | exact Nat.le_refl _⟩, ⟨by (with_reducible repeat (first | apply Kd.S_alloc | apply Kd.S_drewN | apply Kd.S_drew)); exact HO834.out⟩, ⟨by repeat (first | (with_reducible first | exact HI831.out | apply IsS104.alloc | apply IsS104.drewN | apply IsS104.drew | apply IsS104.set_1) | exact HI831.out)⟩, ⟨by repeat (first | (with_reducible first | exact HB.out | apply below_alloc | apply pw_below_drewN | apply below_drew1 | refine below_set ?_ (IsS104.ge HI831.out)) | exact HB.out)⟩⟩
  rw [if_pos c9] at H
  have c9b0 : decide (0 < (t832.length : Int)) = true := decide_eq_true c9
  have c9b1 : decide (0 < t832.length) = true := decide_eq_true (by omega)
  clear c9
  (first | rw [c9b0] | (simp only [i64_w, i32_w]; rw [c9b0]) | skip)
  replace H := Option.bind_eq_some_iff.mp H
  obtain ⟨⟨t838, t839⟩, A100, H⟩ := H
  replace H : (spec_DrawPsalmRead.j0 k t832 t836 (decide (t838 > 0)) t829 t839) = some (r1, r2, r3) := H
  have A10 := Aside0.mk A100
  clear A100
  have H' := Aside0.mk H
  clear H
  obtain ⟨Ao11, co11, eo11⟩ := Kd.S_slice HO834.out
  subst eo11
  go_wp2_with (first | (go_at_call 73; (with_reducible refine (spec_l6Rd_pick.calls k g831 t829 t837 4 t838 t839 w _ ?side1 ?side2 A10.out).mono ?_); (case side1 => repeat (first | (with_reducible first | exact HI831.out | apply IsS104.alloc | apply IsS104.drewN | apply IsS104.drew | apply IsS104.set_1) | exact HI831.out)); (case side2 => repeat (first | (with_reducible first | exact HB.out | apply below_alloc | apply pw_below_drewN | apply below_drew1 | refine below_set ?_ (IsS104.ge HI831.out)) | exact HB.out)); rintro e w12 ⟨rfl, hi, hb, hk⟩; have n0_ := Aside0.mk (Kd.S_mono (Kd.S_keep (IsS104.apartS (show IsS104 w _ g831 t829 t837 from by repeat (first | (with_reducible first | exact HI831.out | apply IsS104.alloc | apply IsS104.drewN | apply IsS104.drew | apply IsS104.set_1) | exact HI831.out)) (by (with_reducible repeat (first | apply Kd.S_alloc | apply Kd.S_drewN | apply Kd.S_drew)); exact HO834.out) (by decide)) hk (fun _ h => h.2)) (fun _ h => h.1)); have n1_ := Aside0.mk (hb); have n2_ := Aside0.mk (hi); clear HO834; clear HB; clear HI831; have HO834 := n0_; have HB := n1_; have HI831 := n2_; clear n0_ n1_ n2_; (try clear hb); (try clear hb2); (try clear hk); (try clear hi)))
  go_meet
  case rel => exact ⟨_, (decide (t838 > 0)), (t839), (by first | rfl | (simp; done) | (simp [*]; done)), H', ⟨by first | omega | exact Nat.le_refl _⟩, ⟨by (with_reducible repeat (first | apply Kd.S_alloc | apply Kd.S_drewN | apply Kd.S_drew)); exact HO834.out⟩, ⟨by repeat (first | (with_reducible first | exact HI831.out | apply IsS104.alloc | apply IsS104.drewN | apply IsS104.drew | apply IsS104.set_1) | exact HI831.out)⟩, ⟨by repeat (first | (with_reducible first | exact HB.out | apply below_alloc | apply pw_below_drewN | apply below_drew1 | refine below_set ?_ (IsS104.ge HI831.out)) | exact HB.out)⟩⟩
 case rest =>
  clear HC5
  try clear p2
  try clear c4
  try clear c5
  try clear c6
  try clear c7
  try clear c9
  try clear c9b0
  try clear c9b1
  obtain ⟨kq, x23_4, x832001_4, rfl, HA, HJ4, HO_6, HI831, HB⟩ := hcut
  cases kq with
  | zero => exact absurd HA.out (by simp [spec_DrawPsalmRead.j0])
  | succ kj4 =>
   have H := HA.out
   clear HA
   simp only [spec_DrawPsalmRead.j0] at H
   by_cases c14 : x23_4 = true
   rotate_left
   ·replace c14 := Bool.eq_false_iff.mpr c14
    subst c14
    have H1 : ((spec_l91Melody.f kj4 t829 x832001_4 8).bind fun bt851 => (some (t832, t836, bt851.1))) = some (r1, r2, r3) := by rw [if_neg (show ¬ (false = true) by decide)] at H; exact H
    clear H
    have H := H1
    clear H1
    replace H := Option.bind_eq_some_iff.mp H
    obtain ⟨⟨t851, t854⟩, A280, H⟩ := H
    replace H : (some (t832, t836, t851)) = some (r1, r2, r3) := H
    have A28 := Aside0.mk A280
    clear A280
    simp only [Option.some.injEq, Prod.mk.injEq] at H
    obtain ⟨rfl, rfl, rfl⟩ := H
    go_wp2_with (first | ((with_reducible refine gate_callee (f := 74) rfl ?_); refine goesL_ (some 43) rfl rfl Tryd.func74 (by kernel_rfl) rfl #[.pointer (some ⟨g831, 0, none⟩), .int .i64 8] rfl (by (try simp only [List.map_toArray, List.map_cons, List.map_nil]); first | done | rfl | (simp only [List.length_drop, List.length_take]; rfl)) ?_; (with_reducible refine (spec_l91Melody.calls kj4 g831 t829 x832001_4 8 t851 t854 w _ ?side1 ?side2 A28.out).mono ?_); (case side1 => repeat (first | (with_reducible first | exact HI831.out | apply IsS104.alloc | apply IsS104.drewN | apply IsS104.drew | apply IsS104.set_1) | exact HI831.out)); (case side2 => repeat (first | (with_reducible first | exact HB.out | apply below_alloc | apply pw_below_drewN | apply below_drew1 | refine below_set ?_ (IsS104.ge HI831.out)) | exact HB.out)); rintro e w29 ⟨v852, rfl, ho0, hi, hb, hk⟩; refine ⟨_, rfl, ?_⟩; have n0_ := Aside0.mk (Kd.S_mono (Kd.S_told (Kd.S_oldK (IsS104.apartS (show IsS104 w _ g831 t829 x832001_4 from by repeat (first | (with_reducible first | exact HI831.out | apply IsS104.alloc | apply IsS104.drewN | apply IsS104.drew | apply IsS104.set_1) | exact HI831.out)) (by (with_reducible repeat (first | apply Kd.S_alloc | apply Kd.S_drewN | apply Kd.S_drew)); exact HO_6.out) (by decide)) hk) (Kd.R_base ho0)) (fun _ h_ => h_.1)); have n1_ := Aside0.mk (Kd.R_lower ho0 (below_size (by repeat (first | (with_reducible first | exact HB.out | apply below_alloc | apply pw_below_drewN | apply below_drew1 | refine below_set ?_ (IsS104.ge HI831.out)) | exact HB.out)))); have n2_ := Aside0.mk (hb); have n3_ := Aside0.mk (hi); clear HO_6; clear HB; clear HI831; have HO_6 := n0_; have HO853 := n1_; have HB := n2_; have HI831 := n3_; clear n0_ n1_ n2_ n3_; (try clear hb); (try clear hb2); (try clear hk); (try clear hi); (try clear ho0)))
    go_ret3
    exact ⟨_, _, by first | rfl | (simp [errW_none, errW_some] <;> rfl) | (simp [*, errW_none, errW_some] <;> rfl), by (with_reducible repeat (first | apply Kd.S_alloc | apply Kd.S_drewN | apply Kd.S_drew)); exact Kd.S_mono HO_6.out (fun _ hk => hk.2), by (with_reducible repeat (first | apply Kd.R_alloc | apply Kd.R_drewN | apply Kd.R_drew)); exact HO853.out, by repeat (first | (with_reducible first | exact HB.out | apply below_alloc | apply pw_below_drewN | apply below_drew1 | refine below_set ?_ (IsS104.ge HI831.out)) | exact HB.out)⟩
   subst c14
   have H1 : ((spec_l6Rd_pick.f kj4 t829 x832001_4 (t832.length : Int)).bind fun bt840 => (if 0 ≤ bt840.1 then (if bt840.1 < (t832.length : Int) then ((spec_PsalmSing.f kj4 ((rd_T27 t832 bt840.1).f0) ((rd_T27 t832 bt840.1).f1.f0) ((rd_T27 t832 bt840.1).f1.f1) ((rd_T27 t832 bt840.1).f2) ((rd_T27 t832 bt840.1).f3) t836).bind fun bt843 => (if bt843.2 = true then (some (t832, t836, bt843.1)) else ((spec_l91Melody.f kj4 t829 bt840.2 8).bind fun bt847 => (some (t832, t836, bt847.1))))) else (none)) else (none))) = some (r1, r2, r3) := by rw [if_pos rfl] at H; exact H
   clear H
   have H := H1
   clear H1
   replace H := Option.bind_eq_some_iff.mp H
   obtain ⟨⟨t840, t841⟩, A150, H⟩ := H
   replace H : (if 0 ≤ t840 then (if t840 < (t832.length : Int) then ((spec_PsalmSing.f kj4 ((rd_T27 t832 t840).f0) ((rd_T27 t832 t840).f1.f0) ((rd_T27 t832 t840).f1.f1) ((rd_T27 t832 t840).f2) ((rd_T27 t832 t840).f3) t836).bind fun bt843 => (if bt843.2 = true then (some (t832, t836, bt843.1)) else ((spec_l91Melody.f kj4 t829 t841 8).bind fun bt847 => (some (t832, t836, bt847.1))))) else (none)) else (none)) = some (r1, r2, r3) := H
   have A15 := Aside0.mk A150
   clear A150
   by_cases c16 : 0 ≤ t840
   rotate_left
   ·rw [if_neg c16] at H
    exact absurd H (by simp)
   rw [if_pos c16] at H
   have c16b0 : decide (0 ≤ t840) = true := decide_eq_true c16
   clear c16
   by_cases c17 : t840 < (t832.length : Int)
   rotate_left
   ·rw [if_neg c17] at H
    exact absurd H (by simp)
   rw [if_pos c17] at H
   have c17b0 : decide (t840 < (t832.length : Int)) = true := decide_eq_true c17
   clear c17
   replace H := Option.bind_eq_some_iff.mp H
   obtain ⟨⟨t843, t846⟩, A180, H⟩ := H
   replace H : (if t846 = true then (some (t832, t836, t843)) else ((spec_l91Melody.f kj4 t829 t841 8).bind fun bt847 => (some (t832, t836, bt847.1)))) = some (r1, r2, r3) := H
   have A18 := Aside0.mk A180
   clear A180
   by_cases c19 : t846 = true
   ·subst c19
    have H1 : (some (t832, t836, t843)) = some (r1, r2, r3) := by rw [if_pos rfl] at H; exact H
    clear H
    have H := H1
    clear H1
    simp only [Option.some.injEq, Prod.mk.injEq] at H
    obtain ⟨rfl, rfl, rfl⟩ := H
    obtain ⟨Ao20, co20, eo20⟩ := Kd.S_slice HO_6.out
    subst eo20
    go_wp2_with (first | ((with_reducible refine gate_callee (f := 73) rfl ?_); refine goesL_ (some 29) rfl rfl Tryd.func73 (by kernel_rfl) rfl #[.pointer (some ⟨g831, 0, none⟩), .int .i64 (t832.length : Int)] rfl (by (try simp only [List.map_toArray, List.map_cons, List.map_nil]); first | done | rfl | (simp only [List.length_drop, List.length_take]; rfl)) ?_; (with_reducible refine (spec_l6Rd_pick.calls kj4 g831 t829 x832001_4 (t832.length : Int) t840 t841 w _ ?side1 ?side2 A15.out).mono ?_); (case side1 => repeat (first | (with_reducible first | exact HI831.out | apply IsS104.alloc | apply IsS104.drewN | apply IsS104.drew | apply IsS104.set_1) | exact HI831.out)); (case side2 => repeat (first | (with_reducible first | exact HB.out | apply below_alloc | apply pw_below_drewN | apply below_drew1 | refine below_set ?_ (IsS104.ge HI831.out)) | exact HB.out)); rintro e w21 ⟨rfl, hi, hb, hk⟩; refine ⟨_, rfl, ?_⟩; have n0_ := Aside0.mk (Kd.S_mono (Kd.S_keep (IsS104.apartS (show IsS104 w _ g831 t829 x832001_4 from by repeat (first | (with_reducible first | exact HI831.out | apply IsS104.alloc | apply IsS104.drewN | apply IsS104.drew | apply IsS104.set_1) | exact HI831.out)) (by (with_reducible repeat (first | apply Kd.S_alloc | apply Kd.S_drewN | apply Kd.S_drew)); exact HO_6.out) (by decide)) hk (fun _ h => h.2)) (fun _ h => h.1)); have n1_ := Aside0.mk (hb); have n2_ := Aside0.mk (hi); clear HO_6; clear HB; clear HI831; have HO_6 := n0_; have HB := n1_; have HI831 := n2_; clear n0_ n1_ n2_; (try clear hb); (try clear hb2); (try clear hk); (try clear hi); have p842 : 0 ≤ (t840 : Int) := of_decide_eq_true (by first | (with_reducible assumption) | assumption); have q842 : t840 < (t832.length : Int) := of_decide_eq_true (by first | (with_reducible assumption) | assumption); obtain ⟨ad842, A842_0, c842_0, A842_3, c842_3, A842_4, c842_4, e842, hx842_0, hx842_1, hx842_2, hx842_3, hx842_4, hl842_0, hi842_0, hl842_3, hi842_3, hl842_4, hi842_4⟩ := at_T27 (Kd.S_reads' HO_6.out).2.2 t840 p842 q842; cases e842; obtain ⟨ce842, hce842, hMe842, hcc842⟩ := Kd.S_get HO_6.out z27 t840 p842 (by first | exact q842 | exact of_decide_eq_true (by first | (with_reducible assumption) | assumption) | (have e_ := (Kd.S_reads' HO_6.out).1; omega)); obtain ⟨ve842_0, ve842_3, ve842_4, rfl, ge842_0, ge842_3, ge842_4⟩ := k27_openM hMe842; have hv842_0 := hcc842 0 _ rfl; rw [Nat.add_zero] at hv842_0; replace hv842_0 := Option.some.inj (hv842_0.symm.trans hx842_0); rw [hv842_0] at ge842_0; have HL842_0 := Aside0.mk (show Kd.R k25 25 _ _ _ _ ((rd_T27 t832 t840).f0) from ge842_0); clear hv842_0 ge842_0; have hv842_3 := hcc842 3 _ rfl; rw [add_field _ _ 3 (by omega)] at hv842_3; replace hv842_3 := Option.some.inj (hv842_3.symm.trans hx842_3); rw [hv842_3] at ge842_3; have HL842_3 := Aside0.mk (show Kd.R k25 25 _ _ _ _ ((rd_T27 t832 t840).f2) from ge842_3); clear hv842_3 ge842_3; have hv842_4 := hcc842 4 _ rfl; rw [add_field _ _ 4 (by omega)] at hv842_4; replace hv842_4 := Option.some.inj (hv842_4.symm.trans hx842_4); rw [hv842_4] at ge842_4; have HL842_4 := Aside0.mk (show Kd.R k25 25 _ _ _ _ ((rd_T27 t832 t840).f3) from ge842_4); clear hv842_4 ge842_4; clear hcc842 hce842; have HR842_0 := Aside0.mk hi842_0; have HC842_0 := Aside0.mk hl842_0; clear hi842_0 hl842_0; have HR842_3 := Aside0.mk hi842_3; have HC842_3 := Aside0.mk hl842_3; clear hi842_3 hl842_3; have HR842_4 := Aside0.mk hi842_4; have HC842_4 := Aside0.mk hl842_4; clear hi842_4 hl842_4; replace p842 := eq_true p842; replace q842 := eq_true q842) | ((with_reducible refine gate_callee (f := 34) rfl ?_); refine goesL_ (some 33) rfl rfl Tryd.func34 (by kernel_rfl) rfl #[.agg #[.slice A842_0 ((rd_T27 t832 t840).f0).length c842_0, .int .i64 ((rd_T27 t832 t840).f1.f0), .bool ((rd_T27 t832 t840).f1.f1), .slice A842_3 ((rd_T27 t832 t840).f2).length c842_3, .slice A842_4 ((rd_T27 t832 t840).f3).length c842_4], .string t836] rfl (by (try simp only [List.map_toArray, List.map_cons, List.map_nil]); first | done | rfl | (simp only [List.length_drop, List.length_take]; rfl)) ?_; (with_reducible refine (spec_PsalmSing.calls kj4 _ _ ((rd_T27 t832 t840).f0) ((rd_T27 t832 t840).f1.f0) ((rd_T27 t832 t840).f1.f1) _ _ ((rd_T27 t832 t840).f2) _ _ ((rd_T27 t832 t840).f3) t836 t843 true _ ?side1 ?side2 ?side3 ?side4 ?side5 ?side6 A18.out).mono ?_); (case side1 => repeat (first | exact (by repeat (first | (with_reducible exact HR842_0.out) | (with_reducible refine Kd.C_alloc ?_ _) | (with_reducible refine Kd.C_drewN ?_ _) | (with_reducible refine Kd.C_drew ?_) | exact HR842_0.out)) | (with_reducible refine Kd.C_alloc ?_ _) | (with_reducible refine Kd.C_drewN ?_ _) | (with_reducible refine Kd.C_drew ?_))); (case side2 => exact HC842_0.out); (case side3 => repeat (first | exact (by repeat (first | (with_reducible exact HR842_3.out) | (with_reducible refine Kd.C_alloc ?_ _) | (with_reducible refine Kd.C_drewN ?_ _) | (with_reducible refine Kd.C_drew ?_) | exact HR842_3.out)) | (with_reducible refine Kd.C_alloc ?_ _) | (with_reducible refine Kd.C_drewN ?_ _) | (with_reducible refine Kd.C_drew ?_))); (case side4 => exact HC842_3.out); (case side5 => repeat (first | exact (by repeat (first | (with_reducible exact HR842_4.out) | (with_reducible refine Kd.C_alloc ?_ _) | (with_reducible refine Kd.C_drewN ?_ _) | (with_reducible refine Kd.C_drew ?_) | exact HR842_4.out)) | (with_reducible refine Kd.C_alloc ?_ _) | (with_reducible refine Kd.C_drewN ?_ _) | (with_reducible refine Kd.C_drew ?_))); (case side6 => exact HC842_4.out); rintro e w22 ⟨v844, rfl, ho0, hb⟩; refine ⟨_, rfl, ?_⟩; have n0_ := Aside0.mk (Kd.S_elder' (by (with_reducible repeat (first | apply Kd.S_alloc | apply Kd.S_drewN | apply Kd.S_drew)); exact HO_6.out) (Kd.R_base ho0) hb); have n1_ := Aside0.mk (Kd.R_elder' (by (with_reducible repeat (first | apply Kd.R_alloc | apply Kd.R_drewN | apply Kd.R_drew)); exact HL842_0.out) (Kd.R_base ho0) hb); have n2_ := Aside0.mk (Kd.R_elder' (by (with_reducible repeat (first | apply Kd.R_alloc | apply Kd.R_drewN | apply Kd.R_drew)); exact HL842_3.out) (Kd.R_base ho0) hb); have n3_ := Aside0.mk (Kd.R_elder' (by (with_reducible repeat (first | apply Kd.R_alloc | apply Kd.R_drewN | apply Kd.R_drew)); exact HL842_4.out) (Kd.R_base ho0) hb); have n4_ := Aside0.mk (Kd.R_lower (Kd.R_new' (Kd.R_new' (Kd.R_new' ho0 (Kd.R_lt (by (with_reducible repeat (first | apply Kd.R_alloc | apply Kd.R_drewN | apply Kd.R_drew)); exact HL842_0.out))) (Kd.R_lt (by (with_reducible repeat (first | apply Kd.R_alloc | apply Kd.R_drewN | apply Kd.R_drew)); exact HL842_3.out))) (Kd.R_lt (by (with_reducible repeat (first | apply Kd.R_alloc | apply Kd.R_drewN | apply Kd.R_drew)); exact HL842_4.out))) (below_size (by repeat (first | (with_reducible first | exact HB.out | apply below_alloc | apply pw_below_drewN | apply below_drew1 | refine below_set ?_ (IsS104.ge HI831.out)) | exact HB.out)))); have n5_ := Aside0.mk (IsS104.below (by repeat (first | (with_reducible first | exact HI831.out | apply IsS104.alloc | apply IsS104.drewN | apply IsS104.drew | apply IsS104.set_1) | exact HI831.out)) hb); have n6_ := Aside0.mk (Kd.C_below (by repeat (first | (with_reducible exact HR842_0.out) | (with_reducible refine Kd.C_alloc ?_ _) | (with_reducible refine Kd.C_drewN ?_ _) | (with_reducible refine Kd.C_drew ?_) | exact HR842_0.out)) hb); have n7_ := Aside0.mk (Kd.C_below (by repeat (first | (with_reducible exact HR842_3.out) | (with_reducible refine Kd.C_alloc ?_ _) | (with_reducible refine Kd.C_drewN ?_ _) | (with_reducible refine Kd.C_drew ?_) | exact HR842_3.out)) hb); have n8_ := Aside0.mk (Kd.C_below (by repeat (first | (with_reducible exact HR842_4.out) | (with_reducible refine Kd.C_alloc ?_ _) | (with_reducible refine Kd.C_drewN ?_ _) | (with_reducible refine Kd.C_drew ?_) | exact HR842_4.out)) hb); have n9_ := Aside0.mk (below_step (by repeat (first | (with_reducible first | exact HB.out | apply below_alloc | apply pw_below_drewN | apply below_drew1 | refine below_set ?_ (IsS104.ge HI831.out)) | exact HB.out)) hb); clear HO_6; clear HL842_0; clear HL842_3; clear HL842_4; clear HI831; clear HR842_0; clear HR842_3; clear HR842_4; clear HB; have HO_6 := n0_; have HL842_0 := n1_; have HL842_3 := n2_; have HL842_4 := n3_; have HO845 := n4_; have HI831 := n5_; have HR842_0 := n6_; have HR842_3 := n7_; have HR842_4 := n8_; have HB := n9_; clear n0_ n1_ n2_ n3_ n4_ n5_ n6_ n7_ n8_ n9_; (try clear hb); (try clear hb2); (try clear hk); (try clear hi); (try clear ho0)))
    go_ret3
    exact ⟨_, _, by first | rfl | (simp [errW_none, errW_some] <;> rfl) | (simp [*, errW_none, errW_some] <;> rfl), by (with_reducible repeat (first | apply Kd.S_alloc | apply Kd.S_drewN | apply Kd.S_drew)); exact Kd.S_mono HO_6.out (fun _ hk => hk.2), by (with_reducible repeat (first | apply Kd.R_alloc | apply Kd.R_drewN | apply Kd.R_drew)); exact Kd.R_mono HO845.out (fun _ hk => trivial), by repeat (first | (with_reducible first | exact HB.out | apply below_alloc | apply pw_below_drewN | apply below_drew1 | refine below_set ?_ (IsS104.ge HI831.out)) | exact HB.out)⟩
   replace c19 := Bool.eq_false_iff.mpr c19
   subst c19
   have H1 : ((spec_l91Melody.f kj4 t829 t841 8).bind fun bt847 => (some (t832, t836, bt847.1))) = some (r1, r2, r3) := by rw [if_neg (show ¬ (false = true) by decide)] at H; exact H
   clear H
   have H := H1
   clear H1
   replace H := Option.bind_eq_some_iff.mp H
   obtain ⟨⟨t847, t850⟩, A230, H⟩ := H
   replace H : (some (t832, t836, t847)) = some (r1, r2, r3) := H
   have A23 := Aside0.mk A230
   clear A230
   simp only [Option.some.injEq, Prod.mk.injEq] at H
   obtain ⟨rfl, rfl, rfl⟩ := H
   obtain ⟨Ao24, co24, eo24⟩ := Kd.S_slice HO_6.out
   subst eo24
   go_wp2_with (first | ((with_reducible refine gate_callee (f := 73) rfl ?_); refine goesL_ (some 29) rfl rfl Tryd.func73 (by kernel_rfl) rfl #[.pointer (some ⟨g831, 0, none⟩), .int .i64 (t832.length : Int)] rfl (by (try simp only [List.map_toArray, List.map_cons, List.map_nil]); first | done | rfl | (simp only [List.length_drop, List.length_take]; rfl)) ?_; (with_reducible refine (spec_l6Rd_pick.calls kj4 g831 t829 x832001_4 (t832.length : Int) t840 t841 w _ ?side1 ?side2 A15.out).mono ?_); (case side1 => repeat (first | (with_reducible first | exact HI831.out | apply IsS104.alloc | apply IsS104.drewN | apply IsS104.drew | apply IsS104.set_1) | exact HI831.out)); (case side2 => repeat (first | (with_reducible first | exact HB.out | apply below_alloc | apply pw_below_drewN | apply below_drew1 | refine below_set ?_ (IsS104.ge HI831.out)) | exact HB.out)); rintro e w25 ⟨rfl, hi, hb, hk⟩; refine ⟨_, rfl, ?_⟩; have n0_ := Aside0.mk (Kd.S_mono (Kd.S_keep (IsS104.apartS (show IsS104 w _ g831 t829 x832001_4 from by repeat (first | (with_reducible first | exact HI831.out | apply IsS104.alloc | apply IsS104.drewN | apply IsS104.drew | apply IsS104.set_1) | exact HI831.out)) (by (with_reducible repeat (first | apply Kd.S_alloc | apply Kd.S_drewN | apply Kd.S_drew)); exact HO_6.out) (by decide)) hk (fun _ h => h.2)) (fun _ h => h.1)); have n1_ := Aside0.mk (hb); have n2_ := Aside0.mk (hi); clear HO_6; clear HB; clear HI831; have HO_6 := n0_; have HB := n1_; have HI831 := n2_; clear n0_ n1_ n2_; (try clear hb); (try clear hb2); (try clear hk); (try clear hi); have p842 : 0 ≤ (t840 : Int) := of_decide_eq_true (by first | (with_reducible assumption) | assumption); have q842 : t840 < (t832.length : Int) := of_decide_eq_true (by first | (with_reducible assumption) | assumption); obtain ⟨ad842, A842_0, c842_0, A842_3, c842_3, A842_4, c842_4, e842, hx842_0, hx842_1, hx842_2, hx842_3, hx842_4, hl842_0, hi842_0, hl842_3, hi842_3, hl842_4, hi842_4⟩ := at_T27 (Kd.S_reads' HO_6.out).2.2 t840 p842 q842; cases e842; obtain ⟨ce842, hce842, hMe842, hcc842⟩ := Kd.S_get HO_6.out z27 t840 p842 (by first | exact q842 | exact of_decide_eq_true (by first | (with_reducible assumption) | assumption) | (have e_ := (Kd.S_reads' HO_6.out).1; omega)); obtain ⟨ve842_0, ve842_3, ve842_4, rfl, ge842_0, ge842_3, ge842_4⟩ := k27_openM hMe842; have hv842_0 := hcc842 0 _ rfl; rw [Nat.add_zero] at hv842_0; replace hv842_0 := Option.some.inj (hv842_0.symm.trans hx842_0); rw [hv842_0] at ge842_0; have HL842_0 := Aside0.mk (show Kd.R k25 25 _ _ _ _ ((rd_T27 t832 t840).f0) from ge842_0); clear hv842_0 ge842_0; have hv842_3 := hcc842 3 _ rfl; rw [add_field _ _ 3 (by omega)] at hv842_3; replace hv842_3 := Option.some.inj (hv842_3.symm.trans hx842_3); rw [hv842_3] at ge842_3; have HL842_3 := Aside0.mk (show Kd.R k25 25 _ _ _ _ ((rd_T27 t832 t840).f2) from ge842_3); clear hv842_3 ge842_3; have hv842_4 := hcc842 4 _ rfl; rw [add_field _ _ 4 (by omega)] at hv842_4; replace hv842_4 := Option.some.inj (hv842_4.symm.trans hx842_4); rw [hv842_4] at ge842_4; have HL842_4 := Aside0.mk (show Kd.R k25 25 _ _ _ _ ((rd_T27 t832 t840).f3) from ge842_4); clear hv842_4 ge842_4; clear hcc842 hce842; have HR842_0 := Aside0.mk hi842_0; have HC842_0 := Aside0.mk hl842_0; clear hi842_0 hl842_0; have HR842_3 := Aside0.mk hi842_3; have HC842_3 := Aside0.mk hl842_3; clear hi842_3 hl842_3; have HR842_4 := Aside0.mk hi842_4; have HC842_4 := Aside0.mk hl842_4; clear hi842_4 hl842_4; replace p842 := eq_true p842; replace q842 := eq_true q842) | ((with_reducible refine gate_callee (f := 34) rfl ?_); refine goesL_ (some 33) rfl rfl Tryd.func34 (by kernel_rfl) rfl #[.agg #[.slice A842_0 ((rd_T27 t832 t840).f0).length c842_0, .int .i64 ((rd_T27 t832 t840).f1.f0), .bool ((rd_T27 t832 t840).f1.f1), .slice A842_3 ((rd_T27 t832 t840).f2).length c842_3, .slice A842_4 ((rd_T27 t832 t840).f3).length c842_4], .string t836] rfl (by (try simp only [List.map_toArray, List.map_cons, List.map_nil]); first | done | rfl | (simp only [List.length_drop, List.length_take]; rfl)) ?_; (with_reducible refine (spec_PsalmSing.calls kj4 _ _ ((rd_T27 t832 t840).f0) ((rd_T27 t832 t840).f1.f0) ((rd_T27 t832 t840).f1.f1) _ _ ((rd_T27 t832 t840).f2) _ _ ((rd_T27 t832 t840).f3) t836 t843 false _ ?side1 ?side2 ?side3 ?side4 ?side5 ?side6 A18.out).mono ?_); (case side1 => repeat (first | exact (by repeat (first | (with_reducible exact HR842_0.out) | (with_reducible refine Kd.C_alloc ?_ _) | (with_reducible refine Kd.C_drewN ?_ _) | (with_reducible refine Kd.C_drew ?_) | exact HR842_0.out)) | (with_reducible refine Kd.C_alloc ?_ _) | (with_reducible refine Kd.C_drewN ?_ _) | (with_reducible refine Kd.C_drew ?_))); (case side2 => exact HC842_0.out); (case side3 => repeat (first | exact (by repeat (first | (with_reducible exact HR842_3.out) | (with_reducible refine Kd.C_alloc ?_ _) | (with_reducible refine Kd.C_drewN ?_ _) | (with_reducible refine Kd.C_drew ?_) | exact HR842_3.out)) | (with_reducible refine Kd.C_alloc ?_ _) | (with_reducible refine Kd.C_drewN ?_ _) | (with_reducible refine Kd.C_drew ?_))); (case side4 => exact HC842_3.out); (case side5 => repeat (first | exact (by repeat (first | (with_reducible exact HR842_4.out) | (with_reducible refine Kd.C_alloc ?_ _) | (with_reducible refine Kd.C_drewN ?_ _) | (with_reducible refine Kd.C_drew ?_) | exact HR842_4.out)) | (with_reducible refine Kd.C_alloc ?_ _) | (with_reducible refine Kd.C_drewN ?_ _) | (with_reducible refine Kd.C_drew ?_))); (case side6 => exact HC842_4.out); rintro e w26 ⟨v844, rfl, ho0, hb⟩; refine ⟨_, rfl, ?_⟩; have n0_ := Aside0.mk (Kd.S_elder' (by (with_reducible repeat (first | apply Kd.S_alloc | apply Kd.S_drewN | apply Kd.S_drew)); exact HO_6.out) (Kd.R_base ho0) hb); have n1_ := Aside0.mk (Kd.R_elder' (by (with_reducible repeat (first | apply Kd.R_alloc | apply Kd.R_drewN | apply Kd.R_drew)); exact HL842_0.out) (Kd.R_base ho0) hb); have n2_ := Aside0.mk (Kd.R_elder' (by (with_reducible repeat (first | apply Kd.R_alloc | apply Kd.R_drewN | apply Kd.R_drew)); exact HL842_3.out) (Kd.R_base ho0) hb); have n3_ := Aside0.mk (Kd.R_elder' (by (with_reducible repeat (first | apply Kd.R_alloc | apply Kd.R_drewN | apply Kd.R_drew)); exact HL842_4.out) (Kd.R_base ho0) hb); have n4_ := Aside0.mk (Kd.R_lower (Kd.R_new' (Kd.R_new' (Kd.R_new' ho0 (Kd.R_lt (by (with_reducible repeat (first | apply Kd.R_alloc | apply Kd.R_drewN | apply Kd.R_drew)); exact HL842_0.out))) (Kd.R_lt (by (with_reducible repeat (first | apply Kd.R_alloc | apply Kd.R_drewN | apply Kd.R_drew)); exact HL842_3.out))) (Kd.R_lt (by (with_reducible repeat (first | apply Kd.R_alloc | apply Kd.R_drewN | apply Kd.R_drew)); exact HL842_4.out))) (below_size (by repeat (first | (with_reducible first | exact HB.out | apply below_alloc | apply pw_below_drewN | apply below_drew1 | refine below_set ?_ (IsS104.ge HI831.out)) | exact HB.out)))); have n5_ := Aside0.mk (IsS104.below (by repeat (first | (with_reducible first | exact HI831.out | apply IsS104.alloc | apply IsS104.drewN | apply IsS104.drew | apply IsS104.set_1) | exact HI831.out)) hb); have n6_ := Aside0.mk (Kd.C_below (by repeat (first | (with_reducible exact HR842_0.out) | (with_reducible refine Kd.C_alloc ?_ _) | (with_reducible refine Kd.C_drewN ?_ _) | (with_reducible refine Kd.C_drew ?_) | exact HR842_0.out)) hb); have n7_ := Aside0.mk (Kd.C_below (by repeat (first | (with_reducible exact HR842_3.out) | (with_reducible refine Kd.C_alloc ?_ _) | (with_reducible refine Kd.C_drewN ?_ _) | (with_reducible refine Kd.C_drew ?_) | exact HR842_3.out)) hb); have n8_ := Aside0.mk (Kd.C_below (by repeat (first | (with_reducible exact HR842_4.out) | (with_reducible refine Kd.C_alloc ?_ _) | (with_reducible refine Kd.C_drewN ?_ _) | (with_reducible refine Kd.C_drew ?_) | exact HR842_4.out)) hb); have n9_ := Aside0.mk (below_step (by repeat (first | (with_reducible first | exact HB.out | apply below_alloc | apply pw_below_drewN | apply below_drew1 | refine below_set ?_ (IsS104.ge HI831.out)) | exact HB.out)) hb); clear HO_6; clear HL842_0; clear HL842_3; clear HL842_4; clear HI831; clear HR842_0; clear HR842_3; clear HR842_4; clear HB; have HO_6 := n0_; have HL842_0 := n1_; have HL842_3 := n2_; have HL842_4 := n3_; have HO845 := n4_; have HI831 := n5_; have HR842_0 := n6_; have HR842_3 := n7_; have HR842_4 := n8_; have HB := n9_; clear n0_ n1_ n2_ n3_ n4_ n5_ n6_ n7_ n8_ n9_; (try clear hb); (try clear hb2); (try clear hk); (try clear hi); (try clear ho0)) | ((with_reducible refine gate_callee (f := 74) rfl ?_); refine goesL_ (some 43) rfl rfl Tryd.func74 (by kernel_rfl) rfl #[.pointer (some ⟨g831, 0, none⟩), .int .i64 8] rfl (by (try simp only [List.map_toArray, List.map_cons, List.map_nil]); first | done | rfl | (simp only [List.length_drop, List.length_take]; rfl)) ?_; (with_reducible refine (spec_l91Melody.calls kj4 g831 t829 t841 8 t847 t850 w _ ?side1 ?side2 A23.out).mono ?_); (case side1 => repeat (first | (with_reducible first | exact HI831.out | apply IsS104.alloc | apply IsS104.drewN | apply IsS104.drew | apply IsS104.set_1) | exact HI831.out)); (case side2 => repeat (first | (with_reducible first | exact HB.out | apply below_alloc | apply pw_below_drewN | apply below_drew1 | refine below_set ?_ (IsS104.ge HI831.out)) | exact HB.out)); rintro e w27 ⟨v848, rfl, ho0, hi, hb, hk⟩; refine ⟨_, rfl, ?_⟩; have n0_ := Aside0.mk (Kd.S_mono (Kd.S_told (Kd.S_oldK (IsS104.apartS (show IsS104 w _ g831 t829 t841 from by repeat (first | (with_reducible first | exact HI831.out | apply IsS104.alloc | apply IsS104.drewN | apply IsS104.drew | apply IsS104.set_1) | exact HI831.out)) (by (with_reducible repeat (first | apply Kd.S_alloc | apply Kd.S_drewN | apply Kd.S_drew)); exact HO_6.out) (by decide)) hk) (Kd.R_base ho0)) (fun _ h_ => h_.1)); have n1_ := Aside0.mk (Kd.R_mono (Kd.R_told (Kd.R_oldK (IsS104.apart (show IsS104 w _ g831 t829 t841 from by repeat (first | (with_reducible first | exact HI831.out | apply IsS104.alloc | apply IsS104.drewN | apply IsS104.drew | apply IsS104.set_1) | exact HI831.out)) (by (with_reducible repeat (first | apply Kd.R_alloc | apply Kd.R_drewN | apply Kd.R_drew)); exact HL842_0.out) (by decide)) hk) (Kd.R_base ho0)) (fun _ h_ => h_.1)); have n2_ := Aside0.mk (Kd.R_mono (Kd.R_told (Kd.R_oldK (IsS104.apart (show IsS104 w _ g831 t829 t841 from by repeat (first | (with_reducible first | exact HI831.out | apply IsS104.alloc | apply IsS104.drewN | apply IsS104.drew | apply IsS104.set_1) | exact HI831.out)) (by (with_reducible repeat (first | apply Kd.R_alloc | apply Kd.R_drewN | apply Kd.R_drew)); exact HL842_3.out) (by decide)) hk) (Kd.R_base ho0)) (fun _ h_ => h_.1)); have n3_ := Aside0.mk (Kd.R_mono (Kd.R_told (Kd.R_oldK (IsS104.apart (show IsS104 w _ g831 t829 t841 from by repeat (first | (with_reducible first | exact HI831.out | apply IsS104.alloc | apply IsS104.drewN | apply IsS104.drew | apply IsS104.set_1) | exact HI831.out)) (by (with_reducible repeat (first | apply Kd.R_alloc | apply Kd.R_drewN | apply Kd.R_drew)); exact HL842_4.out) (by decide)) hk) (Kd.R_base ho0)) (fun _ h_ => h_.1)); have n4_ := Aside0.mk (Kd.R_mono (Kd.R_told (Kd.R_oldK (IsS104.apart (show IsS104 w _ g831 t829 t841 from by repeat (first | (with_reducible first | exact HI831.out | apply IsS104.alloc | apply IsS104.drewN | apply IsS104.drew | apply IsS104.set_1) | exact HI831.out)) (by (with_reducible repeat (first | apply Kd.R_alloc | apply Kd.R_drewN | apply Kd.R_drew)); exact HO845.out) (by decide)) hk) (Kd.R_base ho0)) (fun _ h_ => h_.1)); have n5_ := Aside0.mk (Kd.R_lower (Kd.R_new' (Kd.R_new' (Kd.R_new' (Kd.R_new' ho0 (Kd.R_lt (by (with_reducible repeat (first | apply Kd.R_alloc | apply Kd.R_drewN | apply Kd.R_drew)); exact HL842_0.out))) (Kd.R_lt (by (with_reducible repeat (first | apply Kd.R_alloc | apply Kd.R_drewN | apply Kd.R_drew)); exact HL842_3.out))) (Kd.R_lt (by (with_reducible repeat (first | apply Kd.R_alloc | apply Kd.R_drewN | apply Kd.R_drew)); exact HL842_4.out))) (Kd.R_lt (by (with_reducible repeat (first | apply Kd.R_alloc | apply Kd.R_drewN | apply Kd.R_drew)); exact HO845.out))) (below_size (by repeat (first | (with_reducible first | exact HB.out | apply below_alloc | apply pw_below_drewN | apply below_drew1 | refine below_set ?_ (IsS104.ge HI831.out)) | exact HB.out)))); have n6_ := Aside0.mk (hb); have n7_ := Aside0.mk (hi); clear HO_6; clear HL842_0; clear HL842_3; clear HL842_4; clear HO845; clear HB; clear HI831; have HO_6 := n0_; have HL842_0 := n1_; have HL842_3 := n2_; have HL842_4 := n3_; have HO845 := n4_; have HO849 := n5_; have HB := n6_; have HI831 := n7_; clear n0_ n1_ n2_ n3_ n4_ n5_ n6_ n7_; (try clear hb); (try clear hb2); (try clear hk); (try clear hi); (try clear ho0)))
   go_ret3
   exact ⟨_, _, by first | rfl | (simp [errW_none, errW_some] <;> rfl) | (simp [*, errW_none, errW_some] <;> rfl), by (with_reducible repeat (first | apply Kd.S_alloc | apply Kd.S_drewN | apply Kd.S_drew)); exact Kd.S_mono HO_6.out (fun _ hk => hk.2), by (with_reducible repeat (first | apply Kd.R_alloc | apply Kd.R_drewN | apply Kd.R_drew)); exact Kd.R_mono HO849.out (fun _ hk => trivial), by repeat (first | (with_reducible first | exact HB.out | apply below_alloc | apply pw_below_drewN | apply below_drew1 | refine below_set ?_ (IsS104.ge HI831.out)) | exact HB.out)⟩
end Go.Proofs.YtdgmkfbmeaalpaaDoor.E
end
section
namespace Go.Proofs.YtdgmkfbmeaalpaaDoor.E
open Go.RowKit Go.Proofs.YtdgmkfbmeaalpaaDoorW.PrintWords Go.Proofs.YtdgmkfbmeaalpaaDoorW.PrintLast Go.Proofs.YtdgmkfbmeaalpaaDoorW.PrintMore
attribute [local go_sem] max2_int min2_int max_two min_two max_three min_three max_four min_four
set_option linter.unusedVariables false
set_option linter.unusedSimpArgs false
attribute [local go_sem] str_leq_ str_gtr_ str_geq_
def impl_VerseValid.f (a0 : ByteArray) : Option (Bool) := (impl_VerseHalves.f a0).bind fun bt262 => (some bt262.2.2)
set_option maxHeartbeats 8000000 in
set_option maxRecDepth 100000 in
theorem impl_VerseValid.calls (a0 : ByteArray) (r : Bool) (w : World) (hG : GOk [0] w) (h : impl_VerseValid.f a0 = some r) :
  Calls Tryd.prog 21 #[.string a0] w fun e w' => e = .returned (.bool r) ∧ Below w.heap.size w w' := by
 have HB := Aside0.mk (Below.refl w.heap.size w)
 have HG := Aside0.mk hG
 clear hG
 have H : ((impl_VerseHalves.f a0).bind fun bt262 => (some bt262.2.2)) = some r := h
 clear h
 replace H := Option.bind_eq_some_iff.mp H
 obtain ⟨⟨t262, t263, t264⟩, A20, H⟩ := H
 replace H : (some t264) = some r := H
 have A2 := Aside0.mk A20
 clear A20
 obtain rfl := Option.some.inj H
 go_enter Tryd.func21, Tryd.ntmps21
 go_wp2_with (first | ((with_reducible refine gate_callee (f := 18) rfl ?_); refine goesL_ (some 8) rfl rfl Tryd.func18 (by kernel_rfl) rfl #[.string a0] rfl (by (try simp only [List.map_toArray, List.map_cons, List.map_nil]); first | done | rfl | (simp only [List.length_drop, List.length_take]; rfl)) ?_; (with_reducible refine (impl_VerseHalves.calls a0 t262 t263 t264 _ ?side1 A2.out).mono ?_); (case side1 => exact GOk.sub (GOk.below HG.out (by repeat (first | (with_reducible first | exact HB.out | apply below_alloc | apply pw_below_drewN | apply below_drew1) | exact HB.out))) (by decide)); rintro e w3 ⟨rfl, hb⟩; refine ⟨_, rfl, ?_⟩; have n0_ := Aside0.mk (below_step (by repeat (first | (with_reducible first | exact HB.out | apply below_alloc | apply pw_below_drewN | apply below_drew1) | exact HB.out)) hb); clear HB; have HB := n0_; clear n0_; (try clear hb); (try clear hb2); (try clear hk); (try clear hi)))
 go_ret
 exact ⟨by first | rfl | (simp [errW_none, errW_some] <;> rfl) | (simp [*, errW_none, errW_some] <;> rfl), by repeat (first | (with_reducible first | exact HB.out | apply below_alloc | apply pw_below_drewN | apply below_drew1) | exact HB.out)⟩
end Go.Proofs.YtdgmkfbmeaalpaaDoor.E
end
section
namespace Go.Proofs.YtdgmkfbmeaalpaaDoor.E
open Go.RowKit Go.Proofs.YtdgmkfbmeaalpaaDoorW.PrintWords Go.Proofs.YtdgmkfbmeaalpaaDoorW.PrintLast Go.Proofs.YtdgmkfbmeaalpaaDoorW.PrintMore
attribute [local go_sem] max2_int min2_int max_two min_two max_three min_three max_four min_four
set_option linter.unusedVariables false
set_option linter.unusedSimpArgs false
attribute [local go_sem] str_leq_ str_gtr_ str_geq_
def impl_allPsalmsValid.l0 : Nat → List (S27) → Int → Int → Option (Bool)
 | 0, _, _, _ => none
 | k + 1, x5, x6, x7 => if x7 < x6 then (if 0 ≤ x7 then (if x7 < (x5.length : Int) then ((impl_PsalmValid.f k ((rd_T27 x5 x7).f0) ((rd_T27 x5 x7).f1.f0) ((rd_T27 x5 x7).f1.f1) ((rd_T27 x5 x7).f2) ((rd_T27 x5 x7).f3)).bind fun t773 => (if t773 = true then (impl_allPsalmsValid.l0 k x5 x6 (wrap64 (x7 + 1))) else (some false))) else (none)) else (none)) else (some true)
def impl_allPsalmsValid.f (k : Nat) (l0 : List (S27)) : Option (Bool) := impl_allPsalmsValid.l0 k l0 (l0.length : Int) 0
set_option maxHeartbeats 8000000 in
set_option maxRecDepth 100000 in
theorem impl_allPsalmsValid.calls (k : Nat) (A0 : Option Addr) (c0 : Nat) (l0 : List (S27)) (r : Bool) (w : World) (hr0 : Kd.C k27 w A0 l0.length l0) (hc0 : l0.length ≤ c0) (h : impl_allPsalmsValid.f k l0 = some r) :
  Calls Tryd.prog 71 #[.slice A0 l0.length c0] w fun e w' => e = .returned (.bool r) ∧ Below w.heap.size w w' := by
 have hu27 := Tryd.underlying27
 have HR0 := Aside0.mk hr0
 have HC0 := Aside0.mk hc0
 clear hr0 hc0
 have HB := Aside0.mk (Below.refl w.heap.size w)
 have H : (impl_allPsalmsValid.l0 k l0 (l0.length : Int) 0) = some r := h
 clear h
 have H' := Aside0.mk H
 clear H
 go_enter Tryd.func71, Tryd.ntmps71
 go_wp2
 go_loopg [7] k (fun kq v7 w' => ∃ (x7_1 : Int), v7 = .int .i64 x7_1 ∧ Aside0 (impl_allPsalmsValid.l0 kq l0 (l0.length : Int) x7_1 = some r) ∧ Aside0 (kq ≤ k) ∧ Aside0 (Below w.heap.size w w'))
 case atStart => exact ⟨(0), (by first | rfl | (simp; done) | (simp [*]; done)), H', ⟨Nat.le_refl _⟩, ⟨by repeat (first | (with_reducible first | exact HB.out | apply below_alloc | apply pw_below_drewN | apply below_drew1) | exact HB.out)⟩⟩
 case round =>
  clear H'
  obtain ⟨x7_1, rfl, HA, HK1, HB⟩ := hrel
  cases gk with
  | zero => exact absurd HA.out (by simp [impl_allPsalmsValid.l0])
  | succ k1 =>
   have H := HA.out
   clear HA
   simp only [impl_allPsalmsValid.l0] at H
   by_cases c2 : x7_1 < (l0.length : Int)
   rotate_left
   ·rw [if_neg c2] at H
    have c2b0 : decide (x7_1 < (l0.length : Int)) = false := decide_eq_false c2
    clear c2
    obtain rfl := Option.some.inj H
    go_wp2
    go_ret
    exact ⟨by first | rfl | (simp [errW_none, errW_some] <;> rfl) | (simp [*, errW_none, errW_some] <;> rfl), by repeat (first | (with_reducible first | exact HB.out | apply below_alloc | apply pw_below_drewN | apply below_drew1) | exact HB.out)⟩
   rw [if_pos c2] at H
   have c2b0 : decide (x7_1 < (l0.length : Int)) = true := decide_eq_true c2
   clear c2
   by_cases c3 : 0 ≤ x7_1
   rotate_left
   ·rw [if_neg c3] at H
    exact absurd H (by simp)
   rw [if_pos c3] at H
   have c3b0 : decide (0 ≤ x7_1) = true := decide_eq_true c3
   clear c3
   by_cases c4 : x7_1 < (l0.length : Int)
   rotate_left
   ·rw [if_neg c4] at H
    exact absurd H (by simp)
   rw [if_pos c4] at H
   have c4b0 : decide (x7_1 < (l0.length : Int)) = true := decide_eq_true c4
   clear c4
   replace H := Option.bind_eq_some_iff.mp H
   obtain ⟨t773, A50, H⟩ := H
   replace H : (if t773 = true then (impl_allPsalmsValid.l0 k1 l0 (l0.length : Int) (wrap64 (x7_1 + 1))) else (some false)) = some r := H
   have A5 := Aside0.mk A50
   clear A50
   by_cases c6 : t773 = true
   rotate_left
   ·replace c6 := Bool.eq_false_iff.mpr c6
    subst c6
    have H1 : (some false) = some r := by rw [if_neg (show ¬ (false = true) by decide)] at H; exact H
    clear H
    have H := H1
    clear H1
    obtain rfl := Option.some.inj H
    have p771 : 0 ≤ (x7_1 : Int) := of_decide_eq_true (by first | (with_reducible assumption) | assumption)
    have q771 : x7_1 < (l0.length : Int) := of_decide_eq_true (by first | (with_reducible assumption) | assumption)
    obtain ⟨ad771, A771_0, c771_0, A771_3, c771_3, A771_4, c771_4, e771, hx771_0, hx771_1, hx771_2, hx771_3, hx771_4, hl771_0, hi771_0, hl771_3, hi771_3, hl771_4, hi771_4⟩ := at_T27 HR0.out x7_1 p771 q771
    cases e771
    replace hx771_0 := (HB.out.cell (World.block_lt_of_cell? w _ hx771_0)).trans hx771_0
    replace hx771_1 := (HB.out.cell (World.block_lt_of_cell? w _ hx771_1)).trans hx771_1
    replace hx771_2 := (HB.out.cell (World.block_lt_of_cell? w _ hx771_2)).trans hx771_2
    replace hx771_3 := (HB.out.cell (World.block_lt_of_cell? w _ hx771_3)).trans hx771_3
    replace hx771_4 := (HB.out.cell (World.block_lt_of_cell? w _ hx771_4)).trans hx771_4
    have HR771_0 := Aside0.mk hi771_0
    have HC771_0 := Aside0.mk hl771_0
    clear hi771_0 hl771_0
    have HR771_3 := Aside0.mk hi771_3
    have HC771_3 := Aside0.mk hl771_3
    clear hi771_3 hl771_3
    have HR771_4 := Aside0.mk hi771_4
    have HC771_4 := Aside0.mk hl771_4
    clear hi771_4 hl771_4
    replace p771 := eq_true p771
    replace q771 := eq_true q771
    go_wp2_with (first | ((with_reducible refine gate_dst (N := 4) rfl ?_); refine box_event ?hg (N := 4) ?hd (cs := #[.slice none 0 0, .int .i64 0, .bool false, .slice none 0 0, .slice none 0 0]) (t := 27) ?hr ?_; (case hd => rfl); (case hg => rfl); (case hr => first | (go_simp; done) | (go_simp; rfl)); intro gb772 hg w10 hbox hb; have n0_ := Aside0.mk (below_step (by repeat (first | (with_reducible first | exact HB.out | apply below_alloc | apply pw_below_drewN | apply below_drew1) | exact HB.out)) hb); have n1_ := Aside0.mk (hbox); have n2_ := Aside0.mk ((by rw [hg]; exact (below_size (by repeat (first | (with_reducible first | exact HB.out | apply below_alloc | apply pw_below_drewN | apply below_drew1) | exact HB.out))) : w.heap.size ≤ gb772)); have n3_ := Aside0.mk ((by rw [hg]; exact (below_size (by repeat (first | (with_reducible first | exact HB.out | apply below_alloc | apply pw_below_drewN | apply below_drew1) | exact HB.out))) : w.heap.size ≤ gb772)); clear HB; have HB := n0_; have BK772 := n1_; have GW772 := n2_; have GE772 := n3_; clear n0_ n1_ n2_ n3_; clear hb hbox hg; have hcz11_0 : w10.cell? ⟨gb772, 0, none⟩ = some (.slice none 0 0) := (blk_cell BK772.out 0).trans rfl; have hcz11_1 : w10.cell? ⟨gb772, 1, none⟩ = some (.int .i64 0) := (blk_cell BK772.out 1).trans rfl; have hcz11_2 : w10.cell? ⟨gb772, 2, none⟩ = some (.bool false) := (blk_cell BK772.out 2).trans rfl; have hcz11_3 : w10.cell? ⟨gb772, 3, none⟩ = some (.slice none 0 0) := (blk_cell BK772.out 3).trans rfl; have hcz11_4 : w10.cell? ⟨gb772, 4, none⟩ = some (.slice none 0 0) := (blk_cell BK772.out 4).trans rfl; have hfz11_0 := blk_frozen BK772.out 0; have hfz11_1 := blk_frozen BK772.out 1; have hfz11_2 := blk_frozen BK772.out 2; have hfz11_3 := blk_frozen BK772.out 3; have hfz11_4 := blk_frozen BK772.out 4) | ((with_reducible refine gate_callee (f := 20) rfl ?_); refine goesL_ (some 12) rfl rfl Tryd.func20 (by kernel_rfl) rfl #[.agg #[.slice A771_0 ((rd_T27 l0 x7_1).f0).length c771_0, .int .i64 ((rd_T27 l0 x7_1).f1.f0), .bool ((rd_T27 l0 x7_1).f1.f1), .slice A771_3 ((rd_T27 l0 x7_1).f2).length c771_3, .slice A771_4 ((rd_T27 l0 x7_1).f3).length c771_4]] rfl (by (try simp only [List.map_toArray, List.map_cons, List.map_nil]); first | done | rfl | (simp only [List.length_drop, List.length_take]; rfl)) ?_; (with_reducible refine (impl_PsalmValid.calls k1 _ _ ((rd_T27 l0 x7_1).f0) ((rd_T27 l0 x7_1).f1.f0) ((rd_T27 l0 x7_1).f1.f1) _ _ ((rd_T27 l0 x7_1).f2) _ _ ((rd_T27 l0 x7_1).f3) false _ ?side1 ?side2 ?side3 ?side4 ?side5 ?side6 A5.out).mono ?_); (case side1 => exact Kd.C_below HR771_0.out (by repeat (first | (with_reducible first | exact HB.out | apply below_alloc | apply pw_below_drewN | apply below_drew1 | refine below_set ?_ GE772.out) | exact HB.out))); (case side2 => exact HC771_0.out); (case side3 => exact Kd.C_below HR771_3.out (by repeat (first | (with_reducible first | exact HB.out | apply below_alloc | apply pw_below_drewN | apply below_drew1 | refine below_set ?_ GE772.out) | exact HB.out))); (case side4 => exact HC771_3.out); (case side5 => exact Kd.C_below HR771_4.out (by repeat (first | (with_reducible first | exact HB.out | apply below_alloc | apply pw_below_drewN | apply below_drew1 | refine below_set ?_ GE772.out) | exact HB.out))); (case side6 => exact HC771_4.out); rintro e w12 ⟨rfl, hb⟩; refine ⟨_, rfl, ?_⟩; have n0_ := Aside0.mk (blk_below (g := gb772) (o := .cells #[.slice A771_0 ((rd_T27 l0 x7_1).f0).length c771_0, .int .i64 ((rd_T27 l0 x7_1).f1.f0), .bool ((rd_T27 l0 x7_1).f1.f1), .slice A771_3 ((rd_T27 l0 x7_1).f2).length c771_3, .slice A771_4 ((rd_T27 l0 x7_1).f3).length c771_4] 27 (0, 0)) (by (with_reducible repeat (first | refine blk_drewN ?_ _ | refine blk_drew ?_ | refine blk_alloc ?_ _)); refine blk_put (cs := #[.slice A771_0 ((rd_T27 l0 x7_1).f0).length c771_0, .int .i64 ((rd_T27 l0 x7_1).f1.f0), .bool ((rd_T27 l0 x7_1).f1.f1), .slice A771_3 ((rd_T27 l0 x7_1).f2).length c771_3, .slice none 0 0]) ?_ 4 _ rfl; (with_reducible repeat (first | refine blk_drewN ?_ _ | refine blk_drew ?_ | refine blk_alloc ?_ _)); refine blk_put (cs := #[.slice A771_0 ((rd_T27 l0 x7_1).f0).length c771_0, .int .i64 ((rd_T27 l0 x7_1).f1.f0), .bool ((rd_T27 l0 x7_1).f1.f1), .slice none 0 0, .slice none 0 0]) ?_ 3 _ rfl; (with_reducible repeat (first | refine blk_drewN ?_ _ | refine blk_drew ?_ | refine blk_alloc ?_ _)); refine blk_put (cs := #[.slice A771_0 ((rd_T27 l0 x7_1).f0).length c771_0, .int .i64 ((rd_T27 l0 x7_1).f1.f0), .bool false, .slice none 0 0, .slice none 0 0]) ?_ 2 _ rfl; (with_reducible repeat (first | refine blk_drewN ?_ _ | refine blk_drew ?_ | refine blk_alloc ?_ _)); refine blk_put (cs := #[.slice A771_0 ((rd_T27 l0 x7_1).f0).length c771_0, .int .i64 0, .bool false, .slice none 0 0, .slice none 0 0]) ?_ 1 _ rfl; (with_reducible repeat (first | refine blk_drewN ?_ _ | refine blk_drew ?_ | refine blk_alloc ?_ _)); refine blk_put (cs := #[.slice none 0 0, .int .i64 0, .bool false, .slice none 0 0, .slice none 0 0]) ?_ 0 _ rfl; (with_reducible repeat (first | refine blk_drewN ?_ _ | refine blk_drew ?_ | refine blk_alloc ?_ _)); exact BK772.out) hb); have n1_ := Aside0.mk (below_step (by repeat (first | (with_reducible first | exact HB.out | apply below_alloc | apply pw_below_drewN | apply below_drew1 | refine below_set ?_ GE772.out) | exact HB.out)) hb); clear BK772; clear HB; have BK772 := n0_; have HB := n1_; clear n0_ n1_; (try clear hb); (try clear hb2); (try clear hk); (try clear hi)))
    go_ret
    exact ⟨by first | rfl | (simp [errW_none, errW_some] <;> rfl) | (simp [*, errW_none, errW_some] <;> rfl), by repeat (first | (with_reducible first | exact HB.out | apply below_alloc | apply pw_below_drewN | apply below_drew1 | refine below_set ?_ GE772.out) | exact HB.out)⟩
   subst c6
   have H1 : (impl_allPsalmsValid.l0 k1 l0 (l0.length : Int) (wrap64 (x7_1 + 1))) = some r := by rw [if_pos rfl] at H; exact H
   clear H
   have H := H1
   clear H1
   have H' := Aside0.mk H
   clear H
   have p771 : 0 ≤ (x7_1 : Int) := of_decide_eq_true (by first | (with_reducible assumption) | assumption)
   have q771 : x7_1 < (l0.length : Int) := of_decide_eq_true (by first | (with_reducible assumption) | assumption)
   obtain ⟨ad771, A771_0, c771_0, A771_3, c771_3, A771_4, c771_4, e771, hx771_0, hx771_1, hx771_2, hx771_3, hx771_4, hl771_0, hi771_0, hl771_3, hi771_3, hl771_4, hi771_4⟩ := at_T27 HR0.out x7_1 p771 q771
   cases e771
   replace hx771_0 := (HB.out.cell (World.block_lt_of_cell? w _ hx771_0)).trans hx771_0
   replace hx771_1 := (HB.out.cell (World.block_lt_of_cell? w _ hx771_1)).trans hx771_1
   replace hx771_2 := (HB.out.cell (World.block_lt_of_cell? w _ hx771_2)).trans hx771_2
   replace hx771_3 := (HB.out.cell (World.block_lt_of_cell? w _ hx771_3)).trans hx771_3
   replace hx771_4 := (HB.out.cell (World.block_lt_of_cell? w _ hx771_4)).trans hx771_4
   have HR771_0 := Aside0.mk hi771_0
   have HC771_0 := Aside0.mk hl771_0
   clear hi771_0 hl771_0
   have HR771_3 := Aside0.mk hi771_3
   have HC771_3 := Aside0.mk hl771_3
   clear hi771_3 hl771_3
   have HR771_4 := Aside0.mk hi771_4
   have HC771_4 := Aside0.mk hl771_4
   clear hi771_4 hl771_4
   replace p771 := eq_true p771
   replace q771 := eq_true q771
   go_wp2_with (first | ((with_reducible refine gate_dst (N := 4) rfl ?_); refine box_event ?hg (N := 4) ?hd (cs := #[.slice none 0 0, .int .i64 0, .bool false, .slice none 0 0, .slice none 0 0]) (t := 27) ?hr ?_; (case hd => rfl); (case hg => rfl); (case hr => first | (go_simp; done) | (go_simp; rfl)); intro gb772 hg w7 hbox hb; have n0_ := Aside0.mk (below_step (by repeat (first | (with_reducible first | exact HB.out | apply below_alloc | apply pw_below_drewN | apply below_drew1) | exact HB.out)) hb); have n1_ := Aside0.mk (hbox); have n2_ := Aside0.mk ((by rw [hg]; exact (below_size (by repeat (first | (with_reducible first | exact HB.out | apply below_alloc | apply pw_below_drewN | apply below_drew1) | exact HB.out))) : w.heap.size ≤ gb772)); have n3_ := Aside0.mk ((by rw [hg]; exact (below_size (by repeat (first | (with_reducible first | exact HB.out | apply below_alloc | apply pw_below_drewN | apply below_drew1) | exact HB.out))) : w.heap.size ≤ gb772)); clear HB; have HB := n0_; have BK772 := n1_; have GW772 := n2_; have GE772 := n3_; clear n0_ n1_ n2_ n3_; clear hb hbox hg; have hcz8_0 : w7.cell? ⟨gb772, 0, none⟩ = some (.slice none 0 0) := (blk_cell BK772.out 0).trans rfl; have hcz8_1 : w7.cell? ⟨gb772, 1, none⟩ = some (.int .i64 0) := (blk_cell BK772.out 1).trans rfl; have hcz8_2 : w7.cell? ⟨gb772, 2, none⟩ = some (.bool false) := (blk_cell BK772.out 2).trans rfl; have hcz8_3 : w7.cell? ⟨gb772, 3, none⟩ = some (.slice none 0 0) := (blk_cell BK772.out 3).trans rfl; have hcz8_4 : w7.cell? ⟨gb772, 4, none⟩ = some (.slice none 0 0) := (blk_cell BK772.out 4).trans rfl; have hfz8_0 := blk_frozen BK772.out 0; have hfz8_1 := blk_frozen BK772.out 1; have hfz8_2 := blk_frozen BK772.out 2; have hfz8_3 := blk_frozen BK772.out 3; have hfz8_4 := blk_frozen BK772.out 4) | ((with_reducible refine gate_callee (f := 20) rfl ?_); refine goesL_ (some 12) rfl rfl Tryd.func20 (by kernel_rfl) rfl #[.agg #[.slice A771_0 ((rd_T27 l0 x7_1).f0).length c771_0, .int .i64 ((rd_T27 l0 x7_1).f1.f0), .bool ((rd_T27 l0 x7_1).f1.f1), .slice A771_3 ((rd_T27 l0 x7_1).f2).length c771_3, .slice A771_4 ((rd_T27 l0 x7_1).f3).length c771_4]] rfl (by (try simp only [List.map_toArray, List.map_cons, List.map_nil]); first | done | rfl | (simp only [List.length_drop, List.length_take]; rfl)) ?_; (with_reducible refine (impl_PsalmValid.calls k1 _ _ ((rd_T27 l0 x7_1).f0) ((rd_T27 l0 x7_1).f1.f0) ((rd_T27 l0 x7_1).f1.f1) _ _ ((rd_T27 l0 x7_1).f2) _ _ ((rd_T27 l0 x7_1).f3) true _ ?side1 ?side2 ?side3 ?side4 ?side5 ?side6 A5.out).mono ?_); (case side1 => exact Kd.C_below HR771_0.out (by repeat (first | (with_reducible first | exact HB.out | apply below_alloc | apply pw_below_drewN | apply below_drew1 | refine below_set ?_ GE772.out) | exact HB.out))); (case side2 => exact HC771_0.out); (case side3 => exact Kd.C_below HR771_3.out (by repeat (first | (with_reducible first | exact HB.out | apply below_alloc | apply pw_below_drewN | apply below_drew1 | refine below_set ?_ GE772.out) | exact HB.out))); (case side4 => exact HC771_3.out); (case side5 => exact Kd.C_below HR771_4.out (by repeat (first | (with_reducible first | exact HB.out | apply below_alloc | apply pw_below_drewN | apply below_drew1 | refine below_set ?_ GE772.out) | exact HB.out))); (case side6 => exact HC771_4.out); rintro e w9 ⟨rfl, hb⟩; refine ⟨_, rfl, ?_⟩; have n0_ := Aside0.mk (blk_below (g := gb772) (o := .cells #[.slice A771_0 ((rd_T27 l0 x7_1).f0).length c771_0, .int .i64 ((rd_T27 l0 x7_1).f1.f0), .bool ((rd_T27 l0 x7_1).f1.f1), .slice A771_3 ((rd_T27 l0 x7_1).f2).length c771_3, .slice A771_4 ((rd_T27 l0 x7_1).f3).length c771_4] 27 (0, 0)) (by (with_reducible repeat (first | refine blk_drewN ?_ _ | refine blk_drew ?_ | refine blk_alloc ?_ _)); refine blk_put (cs := #[.slice A771_0 ((rd_T27 l0 x7_1).f0).length c771_0, .int .i64 ((rd_T27 l0 x7_1).f1.f0), .bool ((rd_T27 l0 x7_1).f1.f1), .slice A771_3 ((rd_T27 l0 x7_1).f2).length c771_3, .slice none 0 0]) ?_ 4 _ rfl; (with_reducible repeat (first | refine blk_drewN ?_ _ | refine blk_drew ?_ | refine blk_alloc ?_ _)); refine blk_put (cs := #[.slice A771_0 ((rd_T27 l0 x7_1).f0).length c771_0, .int .i64 ((rd_T27 l0 x7_1).f1.f0), .bool ((rd_T27 l0 x7_1).f1.f1), .slice none 0 0, .slice none 0 0]) ?_ 3 _ rfl; (with_reducible repeat (first | refine blk_drewN ?_ _ | refine blk_drew ?_ | refine blk_alloc ?_ _)); refine blk_put (cs := #[.slice A771_0 ((rd_T27 l0 x7_1).f0).length c771_0, .int .i64 ((rd_T27 l0 x7_1).f1.f0), .bool false, .slice none 0 0, .slice none 0 0]) ?_ 2 _ rfl; (with_reducible repeat (first | refine blk_drewN ?_ _ | refine blk_drew ?_ | refine blk_alloc ?_ _)); refine blk_put (cs := #[.slice A771_0 ((rd_T27 l0 x7_1).f0).length c771_0, .int .i64 0, .bool false, .slice none 0 0, .slice none 0 0]) ?_ 1 _ rfl; (with_reducible repeat (first | refine blk_drewN ?_ _ | refine blk_drew ?_ | refine blk_alloc ?_ _)); refine blk_put (cs := #[.slice none 0 0, .int .i64 0, .bool false, .slice none 0 0, .slice none 0 0]) ?_ 0 _ rfl; (with_reducible repeat (first | refine blk_drewN ?_ _ | refine blk_drew ?_ | refine blk_alloc ?_ _)); exact BK772.out) hb); have n1_ := Aside0.mk (below_step (by repeat (first | (with_reducible first | exact HB.out | apply below_alloc | apply pw_below_drewN | apply below_drew1 | refine below_set ?_ GE772.out) | exact HB.out)) hb); clear BK772; clear HB; have BK772 := n0_; have HB := n1_; clear n0_ n1_; (try clear hb); (try clear hb2); (try clear hk); (try clear hi)))
   go_roundg k1
   case measure => have := HK1.out; omega
   case rel => exact ⟨(wrap64 (x7_1 + 1)), (by first | rfl | (simp; done) | (simp [*]; done)), H', ⟨by have := HK1.out; omega⟩, ⟨by repeat (first | (with_reducible first | exact HB.out | apply below_alloc | apply pw_below_drewN | apply below_drew1 | refine below_set ?_ GE772.out) | exact HB.out)⟩⟩
end Go.Proofs.YtdgmkfbmeaalpaaDoor.E
end
section
namespace Go.Proofs.YtdgmkfbmeaalpaaDoor.E
open Go.RowKit Go.Proofs.YtdgmkfbmeaalpaaDoorW.PrintWords Go.Proofs.YtdgmkfbmeaalpaaDoorW.PrintLast Go.Proofs.YtdgmkfbmeaalpaaDoorW.PrintMore
attribute [local go_sem] max2_int min2_int max_two min_two max_three min_three max_four min_four
set_option linter.unusedVariables false
set_option linter.unusedSimpArgs false
attribute [local go_sem] str_leq_ str_gtr_ str_geq_
theorem eqA25 (d : Nat) (w : World) (x0 y0 : Int) (x1 y1 : Bool) :
  (Op.equalIn (d + 2) 25 (.agg #[.int .i64 x0, .bool x1]) (.agg #[.int .i64 y0, .bool y1])).run Tryd.prog w = .ok (x0 == y0 && (x1 == y1)) w := by
 refine eqA_of Tryd.underlying25 (by kernel_rfl) ?_
 refine eqf_cons (by rfl) (by go_simp; rfl) (by go_simp; rfl) (by go_simp) ?_
 exact eqf_last (by rfl) (by go_simp; rfl) (by go_simp; rfl) (by go_simp)
end Go.Proofs.YtdgmkfbmeaalpaaDoor.E
end
section
namespace Go.Proofs.YtdgmkfbmeaalpaaDoor.E
open Go.RowKit Go.Proofs.YtdgmkfbmeaalpaaDoorW.PrintWords Go.Proofs.YtdgmkfbmeaalpaaDoorW.PrintLast Go.Proofs.YtdgmkfbmeaalpaaDoorW.PrintMore
attribute [local go_sem] max2_int min2_int max_two min_two max_three min_three max_four min_four
set_option linter.unusedVariables false
set_option linter.unusedSimpArgs false
attribute [local go_sem high] eqA25
attribute [local go_sem] str_leq_ str_gtr_ str_geq_
def impl_equalTones.l0 : Nat → List (S25) → List (S25) → Int → Int → Option (Bool)
 | 0, _, _, _, _ => none
 | k + 1, x1, x12, x13, x14 => if x14 < x13 then (if 0 ≤ x14 then (if x14 < (x12.length : Int) then (if x14 < (x1.length : Int) then (if (!(((rd_T25 x12 x14).f0) == ((rd_T25 x1 x14).f0)) || (!(((rd_T25 x12 x14).f1) == ((rd_T25 x1 x14).f1)))) = true then (some false) else (impl_equalTones.l0 k x1 x12 x13 (wrap64 (x14 + 1)))) else (none)) else (none)) else (none)) else (some true)
def impl_equalTones.f (k : Nat) (l0 : List (S25)) (l1 : List (S25)) : Option (Bool) := if (l0.length : Int) = (l1.length : Int) then (impl_equalTones.l0 k l1 l0 (l0.length : Int) 0) else (some false)
set_option maxHeartbeats 8000000 in
set_option maxRecDepth 100000 in
theorem impl_equalTones.calls (k : Nat) (A0 : Option Addr) (c0 : Nat) (l0 : List (S25)) (A1 : Option Addr) (c1 : Nat) (l1 : List (S25)) (r : Bool) (w : World) (hr0 : Kd.C k25 w A0 l0.length l0) (hc0 : l0.length ≤ c0) (hr1 : Kd.C k25 w A1 l1.length l1) (hc1 : l1.length ≤ c1) (h : impl_equalTones.f k l0 l1 = some r) :
  Calls Tryd.prog 76 #[.slice A0 l0.length c0, .slice A1 l1.length c1] w fun e w' => e = .returned (.bool r) ∧ Below w.heap.size w w' := by
 have hu25 := Tryd.underlying25
 have HR0 := Aside0.mk hr0
 have HC0 := Aside0.mk hc0
 clear hr0 hc0
 have HR1 := Aside0.mk hr1
 have HC1 := Aside0.mk hc1
 clear hr1 hc1
 have HB := Aside0.mk (Below.refl w.heap.size w)
 have H : (if (l0.length : Int) = (l1.length : Int) then (impl_equalTones.l0 k l1 l0 (l0.length : Int) 0) else (some false)) = some r := h
 clear h
 by_cases c3 : (l0.length : Int) = (l1.length : Int)
 rotate_left
 ·rw [if_neg c3] at H
  have c3b0 : ((l0.length : Int) == (l1.length : Int)) = false := beq_eq_false_iff_ne.mpr c3
  have c3b1 : ((l0.length : Int) != (l1.length : Int)) = true := bne_iff_ne.mpr c3
  have c3b2 : (l0.length == l1.length) = false := by first | simpa using c3 | (simp at c3 ⊢; omega)
  obtain rfl := Option.some.inj H
  go_enter Tryd.func76, Tryd.ntmps76
  go_wp2
  repeat (go_quiet (fail); try go_wp2)
  go_ret
  exact ⟨by first | rfl | (simp [errW_none, errW_some] <;> rfl) | (simp [*, errW_none, errW_some] <;> rfl), by repeat (first | (with_reducible first | exact HB.out | apply below_alloc | apply pw_below_drewN | apply below_drew1) | exact HB.out)⟩
 rw [if_pos c3] at H
 have c3b0 : ((l0.length : Int) == (l1.length : Int)) = true := beq_iff_eq.mpr c3
 have c3b1 : ((l0.length : Int) != (l1.length : Int)) = false := bne_eq_false_iff_eq.mpr c3
 have c3b2 : (l0.length == l1.length) = true := by first | simpa using c3 | (simp at c3 ⊢; omega)
 clear c3
 have H' := Aside0.mk H
 clear H
 go_enter Tryd.func76, Tryd.ntmps76
 go_wp2
 repeat (go_quiet (fail); try go_wp2)
 go_loopg [14] k (fun kq v14 w' => ∃ (x14_1 : Int), v14 = .int .i64 x14_1 ∧ Aside0 (impl_equalTones.l0 kq l1 l0 (l0.length : Int) x14_1 = some r) ∧ Aside0 (kq ≤ k) ∧ Aside0 (Below w.heap.size w w'))
 case atStart => exact ⟨(0), (by first | rfl | (simp; done) | (simp [*]; done)), H', ⟨Nat.le_refl _⟩, ⟨by repeat (first | (with_reducible first | exact HB.out | apply below_alloc | apply pw_below_drewN | apply below_drew1) | exact HB.out)⟩⟩
 case round =>
  clear H'
  try clear c1
  try clear p2
  try clear c3
  try clear c3b0
  try clear c3b1
  try clear c3b2
  obtain ⟨x14_1, rfl, HA, HK1, HB⟩ := hrel
  cases gk with
  | zero => exact absurd HA.out (by simp [impl_equalTones.l0])
  | succ k1 =>
   have H := HA.out
   clear HA
   simp only [impl_equalTones.l0] at H
   by_cases c4 : x14_1 < (l0.length : Int)
   rotate_left
   ·rw [if_neg c4] at H
    have c4b0 : decide (x14_1 < (l0.length : Int)) = false := decide_eq_false c4
    clear c4
    obtain rfl := Option.some.inj H
    go_wp2
    repeat (go_quiet (fail); try go_wp2)
    go_ret
    exact ⟨by first | rfl | (simp [errW_none, errW_some] <;> rfl) | (simp [*, errW_none, errW_some] <;> rfl), by repeat (first | (with_reducible first | exact HB.out | apply below_alloc | apply pw_below_drewN | apply below_drew1) | exact HB.out)⟩
   rw [if_pos c4] at H
   have c4b0 : decide (x14_1 < (l0.length : Int)) = true := decide_eq_true c4
   clear c4
   by_cases c5 : 0 ≤ x14_1
   rotate_left
   ·rw [if_neg c5] at H
    exact absurd H (by simp)
   rw [if_pos c5] at H
   have c5b0 : decide (0 ≤ x14_1) = true := decide_eq_true c5
   clear c5
   by_cases c6 : x14_1 < (l0.length : Int)
   rotate_left
   ·rw [if_neg c6] at H
    exact absurd H (by simp)
   rw [if_pos c6] at H
   have c6b0 : decide (x14_1 < (l0.length : Int)) = true := decide_eq_true c6
   clear c6
   by_cases c7 : x14_1 < (l1.length : Int)
   rotate_left
   ·rw [if_neg c7] at H
    exact absurd H (by simp)
   rw [if_pos c7] at H
   have c7b0 : decide (x14_1 < (l1.length : Int)) = true := decide_eq_true c7
   clear c7
   by_cases c8 : (!(((rd_T25 l0 x14_1).f0) == ((rd_T25 l1 x14_1).f0)) || (!(((rd_T25 l0 x14_1).f1) == ((rd_T25 l1 x14_1).f1)))) = true
   ·rw [if_pos c8] at H
    have c8b0 : (!(((rd_T25 l0 x14_1).f0) == ((rd_T25 l1 x14_1).f0)) || (!(((rd_T25 l0 x14_1).f1) == ((rd_T25 l1 x14_1).f1)))) = true := c8
    clear c8
    obtain rfl := Option.some.inj H
    have p855 : 0 ≤ (x14_1 : Int) := of_decide_eq_true (by first | (with_reducible assumption) | assumption)
    have q855 : x14_1 < (l0.length : Int) := of_decide_eq_true (by first | (with_reducible assumption) | assumption)
    obtain ⟨ad855, e855, hx855_0, hx855_1⟩ := at_T25 HR0.out x14_1 p855 q855
    cases e855
    replace hx855_0 := (HB.out.cell (World.block_lt_of_cell? w _ hx855_0)).trans hx855_0
    replace hx855_1 := (HB.out.cell (World.block_lt_of_cell? w _ hx855_1)).trans hx855_1
    replace p855 := eq_true p855
    replace q855 := eq_true q855
    go_wp2_with (first | ((with_reducible refine gate_dst (N := 6) rfl ?_); refine box_event ?hg (N := 6) ?hd (cs := #[.int .i64 0, .bool false]) (t := 25) ?hr ?_; (case hd => rfl); (case hg => rfl); (case hr => first | (go_simp; done) | (go_simp; rfl)); intro gb856 hg w9 hbox hb; have n0_ := Aside0.mk (below_step (by repeat (first | (with_reducible first | exact HB.out | apply below_alloc | apply pw_below_drewN | apply below_drew1) | exact HB.out)) hb); have n1_ := Aside0.mk (hbox); have n2_ := Aside0.mk ((by rw [hg]; exact (below_size (by repeat (first | (with_reducible first | exact HB.out | apply below_alloc | apply pw_below_drewN | apply below_drew1) | exact HB.out))) : w.heap.size ≤ gb856)); have n3_ := Aside0.mk ((by rw [hg]; exact (below_size (by repeat (first | (with_reducible first | exact HB.out | apply below_alloc | apply pw_below_drewN | apply below_drew1) | exact HB.out))) : w.heap.size ≤ gb856)); clear HB; have HB := n0_; have BK856 := n1_; have GW856 := n2_; have GE856 := n3_; clear n0_ n1_ n2_ n3_; clear hb hbox hg; have hcz10_0 : w9.cell? ⟨gb856, 0, none⟩ = some (.int .i64 0) := (blk_cell BK856.out 0).trans rfl; have hcz10_1 : w9.cell? ⟨gb856, 1, none⟩ = some (.bool false) := (blk_cell BK856.out 1).trans rfl; have hfz10_0 := blk_frozen BK856.out 0; have hfz10_1 := blk_frozen BK856.out 1; have p857 : 0 ≤ (x14_1 : Int) := of_decide_eq_true (by first | (with_reducible assumption) | assumption); have q857 : x14_1 < (l1.length : Int) := of_decide_eq_true (by first | (with_reducible assumption) | assumption); obtain ⟨ad857, e857, hx857_0, hx857_1⟩ := at_T25 HR1.out x14_1 p857 q857; cases e857; have hn857_0 : ad857.block ≠ gb856 := Nat.ne_of_lt (Nat.lt_of_lt_of_le (by have := World.block_lt_of_cell? _ _ hx857_0; first | rwa [add_block] at this | exact this) GW856.out); have hn857_1 : ad857.block ≠ gb856 := Nat.ne_of_lt (Nat.lt_of_lt_of_le (by have := World.block_lt_of_cell? _ _ hx857_0; first | rwa [add_block] at this | exact this) GW856.out); replace hx857_0 := (HB.out.cell (World.block_lt_of_cell? w _ hx857_0)).trans hx857_0; replace hx857_1 := (HB.out.cell (World.block_lt_of_cell? w _ hx857_1)).trans hx857_1; replace hx857_0 := (cell_far (p := ⟨gb856, 0, none⟩) (by first | (rw [add_block]; exact hn857_0) | (show (Addr.add _ _).block ≠ _; rw [add_block]; exact hn857_0) | exact hn857_0) (.int .i64 ((rd_T25 l0 x14_1).f0))).trans hx857_0; replace hx857_1 := (cell_far (p := ⟨gb856, 0, none⟩) (by first | (rw [add_block]; exact hn857_0) | (show (Addr.add _ _).block ≠ _; rw [add_block]; exact hn857_0) | exact hn857_0) (.int .i64 ((rd_T25 l0 x14_1).f0))).trans hx857_1; replace hx857_0 := (cell_far (p := ⟨gb856, 1, none⟩) (by first | (rw [add_block]; exact hn857_1) | (show (Addr.add _ _).block ≠ _; rw [add_block]; exact hn857_1) | exact hn857_1) (.bool ((rd_T25 l0 x14_1).f1))).trans hx857_0; replace hx857_1 := (cell_far (p := ⟨gb856, 1, none⟩) (by first | (rw [add_block]; exact hn857_1) | (show (Addr.add _ _).block ≠ _; rw [add_block]; exact hn857_1) | exact hn857_1) (.bool ((rd_T25 l0 x14_1).f1))).trans hx857_1; (try have hy857_0 := fun (n_ : Nat) => (show ((((w9.drewN n_).setCell ⟨gb856, 0, none⟩ (.int .i64 ((rd_T25 l0 x14_1).f0))).setCell ⟨gb856, 1, none⟩ (.bool ((rd_T25 l0 x14_1).f1)))).cell? _ = some _ from hx857_0)); (try have hy857_1 := fun (n_ : Nat) => (show ((((w9.drewN n_).setCell ⟨gb856, 0, none⟩ (.int .i64 ((rd_T25 l0 x14_1).f0))).setCell ⟨gb856, 1, none⟩ (.bool ((rd_T25 l0 x14_1).f1)))).cell? _ = some _ from hx857_1)); clear hn857_0; clear hn857_1; replace p857 := eq_true p857; replace q857 := eq_true q857))
    repeat (go_quiet (first | ((with_reducible refine gate_dst (N := 6) rfl ?_); refine box_event ?hg (N := 6) ?hd (cs := #[.int .i64 0, .bool false]) (t := 25) ?hr ?_; (case hd => rfl); (case hg => rfl); (case hr => first | (go_simp; done) | (go_simp; rfl)); intro gb856 hg w9 hbox hb; have n0_ := Aside0.mk (below_step (by repeat (first | (with_reducible first | exact HB.out | apply below_alloc | apply pw_below_drewN | apply below_drew1) | exact HB.out)) hb); have n1_ := Aside0.mk (hbox); have n2_ := Aside0.mk ((by rw [hg]; exact (below_size (by repeat (first | (with_reducible first | exact HB.out | apply below_alloc | apply pw_below_drewN | apply below_drew1) | exact HB.out))) : w.heap.size ≤ gb856)); have n3_ := Aside0.mk ((by rw [hg]; exact (below_size (by repeat (first | (with_reducible first | exact HB.out | apply below_alloc | apply pw_below_drewN | apply below_drew1) | exact HB.out))) : w.heap.size ≤ gb856)); clear HB; have HB := n0_; have BK856 := n1_; have GW856 := n2_; have GE856 := n3_; clear n0_ n1_ n2_ n3_; clear hb hbox hg; have hcz10_0 : w9.cell? ⟨gb856, 0, none⟩ = some (.int .i64 0) := (blk_cell BK856.out 0).trans rfl; have hcz10_1 : w9.cell? ⟨gb856, 1, none⟩ = some (.bool false) := (blk_cell BK856.out 1).trans rfl; have hfz10_0 := blk_frozen BK856.out 0; have hfz10_1 := blk_frozen BK856.out 1; have p857 : 0 ≤ (x14_1 : Int) := of_decide_eq_true (by first | (with_reducible assumption) | assumption); have q857 : x14_1 < (l1.length : Int) := of_decide_eq_true (by first | (with_reducible assumption) | assumption); obtain ⟨ad857, e857, hx857_0, hx857_1⟩ := at_T25 HR1.out x14_1 p857 q857; cases e857; have hn857_0 : ad857.block ≠ gb856 := Nat.ne_of_lt (Nat.lt_of_lt_of_le (by have := World.block_lt_of_cell? _ _ hx857_0; first | rwa [add_block] at this | exact this) GW856.out); have hn857_1 : ad857.block ≠ gb856 := Nat.ne_of_lt (Nat.lt_of_lt_of_le (by have := World.block_lt_of_cell? _ _ hx857_0; first | rwa [add_block] at this | exact this) GW856.out); replace hx857_0 := (HB.out.cell (World.block_lt_of_cell? w _ hx857_0)).trans hx857_0; replace hx857_1 := (HB.out.cell (World.block_lt_of_cell? w _ hx857_1)).trans hx857_1; replace hx857_0 := (cell_far (p := ⟨gb856, 0, none⟩) (by first | (rw [add_block]; exact hn857_0) | (show (Addr.add _ _).block ≠ _; rw [add_block]; exact hn857_0) | exact hn857_0) (.int .i64 ((rd_T25 l0 x14_1).f0))).trans hx857_0; replace hx857_1 := (cell_far (p := ⟨gb856, 0, none⟩) (by first | (rw [add_block]; exact hn857_0) | (show (Addr.add _ _).block ≠ _; rw [add_block]; exact hn857_0) | exact hn857_0) (.int .i64 ((rd_T25 l0 x14_1).f0))).trans hx857_1; replace hx857_0 := (cell_far (p := ⟨gb856, 1, none⟩) (by first | (rw [add_block]; exact hn857_1) | (show (Addr.add _ _).block ≠ _; rw [add_block]; exact hn857_1) | exact hn857_1) (.bool ((rd_T25 l0 x14_1).f1))).trans hx857_0; replace hx857_1 := (cell_far (p := ⟨gb856, 1, none⟩) (by first | (rw [add_block]; exact hn857_1) | (show (Addr.add _ _).block ≠ _; rw [add_block]; exact hn857_1) | exact hn857_1) (.bool ((rd_T25 l0 x14_1).f1))).trans hx857_1; (try have hy857_0 := fun (n_ : Nat) => (show ((((w9.drewN n_).setCell ⟨gb856, 0, none⟩ (.int .i64 ((rd_T25 l0 x14_1).f0))).setCell ⟨gb856, 1, none⟩ (.bool ((rd_T25 l0 x14_1).f1)))).cell? _ = some _ from hx857_0)); (try have hy857_1 := fun (n_ : Nat) => (show ((((w9.drewN n_).setCell ⟨gb856, 0, none⟩ (.int .i64 ((rd_T25 l0 x14_1).f0))).setCell ⟨gb856, 1, none⟩ (.bool ((rd_T25 l0 x14_1).f1)))).cell? _ = some _ from hx857_1)); clear hn857_0; clear hn857_1; replace p857 := eq_true p857; replace q857 := eq_true q857)); try go_wp2_with (first | ((with_reducible refine gate_dst (N := 6) rfl ?_); refine box_event ?hg (N := 6) ?hd (cs := #[.int .i64 0, .bool false]) (t := 25) ?hr ?_; (case hd => rfl); (case hg => rfl); (case hr => first | (go_simp; done) | (go_simp; rfl)); intro gb856 hg w9 hbox hb; have n0_ := Aside0.mk (below_step (by repeat (first | (with_reducible first | exact HB.out | apply below_alloc | apply pw_below_drewN | apply below_drew1) | exact HB.out)) hb); have n1_ := Aside0.mk (hbox); have n2_ := Aside0.mk ((by rw [hg]; exact (below_size (by repeat (first | (with_reducible first | exact HB.out | apply below_alloc | apply pw_below_drewN | apply below_drew1) | exact HB.out))) : w.heap.size ≤ gb856)); have n3_ := Aside0.mk ((by rw [hg]; exact (below_size (by repeat (first | (with_reducible first | exact HB.out | apply below_alloc | apply pw_below_drewN | apply below_drew1) | exact HB.out))) : w.heap.size ≤ gb856)); clear HB; have HB := n0_; have BK856 := n1_; have GW856 := n2_; have GE856 := n3_; clear n0_ n1_ n2_ n3_; clear hb hbox hg; have hcz10_0 : w9.cell? ⟨gb856, 0, none⟩ = some (.int .i64 0) := (blk_cell BK856.out 0).trans rfl; have hcz10_1 : w9.cell? ⟨gb856, 1, none⟩ = some (.bool false) := (blk_cell BK856.out 1).trans rfl; have hfz10_0 := blk_frozen BK856.out 0; have hfz10_1 := blk_frozen BK856.out 1; have p857 : 0 ≤ (x14_1 : Int) := of_decide_eq_true (by first | (with_reducible assumption) | assumption); have q857 : x14_1 < (l1.length : Int) := of_decide_eq_true (by first | (with_reducible assumption) | assumption); obtain ⟨ad857, e857, hx857_0, hx857_1⟩ := at_T25 HR1.out x14_1 p857 q857; cases e857; have hn857_0 : ad857.block ≠ gb856 := Nat.ne_of_lt (Nat.lt_of_lt_of_le (by have := World.block_lt_of_cell? _ _ hx857_0; first | rwa [add_block] at this | exact this) GW856.out); have hn857_1 : ad857.block ≠ gb856 := Nat.ne_of_lt (Nat.lt_of_lt_of_le (by have := World.block_lt_of_cell? _ _ hx857_0; first | rwa [add_block] at this | exact this) GW856.out); replace hx857_0 := (HB.out.cell (World.block_lt_of_cell? w _ hx857_0)).trans hx857_0; replace hx857_1 := (HB.out.cell (World.block_lt_of_cell? w _ hx857_1)).trans hx857_1; replace hx857_0 := (cell_far (p := ⟨gb856, 0, none⟩) (by first | (rw [add_block]; exact hn857_0) | (show (Addr.add _ _).block ≠ _; rw [add_block]; exact hn857_0) | exact hn857_0) (.int .i64 ((rd_T25 l0 x14_1).f0))).trans hx857_0; replace hx857_1 := (cell_far (p := ⟨gb856, 0, none⟩) (by first | (rw [add_block]; exact hn857_0) | (show (Addr.add _ _).block ≠ _; rw [add_block]; exact hn857_0) | exact hn857_0) (.int .i64 ((rd_T25 l0 x14_1).f0))).trans hx857_1; replace hx857_0 := (cell_far (p := ⟨gb856, 1, none⟩) (by first | (rw [add_block]; exact hn857_1) | (show (Addr.add _ _).block ≠ _; rw [add_block]; exact hn857_1) | exact hn857_1) (.bool ((rd_T25 l0 x14_1).f1))).trans hx857_0; replace hx857_1 := (cell_far (p := ⟨gb856, 1, none⟩) (by first | (rw [add_block]; exact hn857_1) | (show (Addr.add _ _).block ≠ _; rw [add_block]; exact hn857_1) | exact hn857_1) (.bool ((rd_T25 l0 x14_1).f1))).trans hx857_1; (try have hy857_0 := fun (n_ : Nat) => (show ((((w9.drewN n_).setCell ⟨gb856, 0, none⟩ (.int .i64 ((rd_T25 l0 x14_1).f0))).setCell ⟨gb856, 1, none⟩ (.bool ((rd_T25 l0 x14_1).f1)))).cell? _ = some _ from hx857_0)); (try have hy857_1 := fun (n_ : Nat) => (show ((((w9.drewN n_).setCell ⟨gb856, 0, none⟩ (.int .i64 ((rd_T25 l0 x14_1).f0))).setCell ⟨gb856, 1, none⟩ (.bool ((rd_T25 l0 x14_1).f1)))).cell? _ = some _ from hx857_1)); clear hn857_0; clear hn857_1; replace p857 := eq_true p857; replace q857 := eq_true q857)))
    go_ret
    exact ⟨by first | rfl | (simp [errW_none, errW_some] <;> rfl) | (simp [*, errW_none, errW_some] <;> rfl), by repeat (first | (with_reducible first | exact HB.out | apply below_alloc | apply pw_below_drewN | apply below_drew1 | refine below_set ?_ GE856.out) | exact HB.out)⟩
   rw [if_neg c8] at H
   have c8b0 : (!(((rd_T25 l0 x14_1).f0) == ((rd_T25 l1 x14_1).f0)) || (!(((rd_T25 l0 x14_1).f1) == ((rd_T25 l1 x14_1).f1)))) = false := by simpa using c8
   clear c8
   have H' := Aside0.mk H
   clear H
   have p855 : 0 ≤ (x14_1 : Int) := of_decide_eq_true (by first | (with_reducible assumption) | assumption)
   have q855 : x14_1 < (l0.length : Int) := of_decide_eq_true (by first | (with_reducible assumption) | assumption)
   obtain ⟨ad855, e855, hx855_0, hx855_1⟩ := at_T25 HR0.out x14_1 p855 q855
   cases e855
   replace hx855_0 := (HB.out.cell (World.block_lt_of_cell? w _ hx855_0)).trans hx855_0
   replace hx855_1 := (HB.out.cell (World.block_lt_of_cell? w _ hx855_1)).trans hx855_1
   replace p855 := eq_true p855
   replace q855 := eq_true q855
   go_wp2_with (first | ((with_reducible refine gate_dst (N := 6) rfl ?_); refine box_event ?hg (N := 6) ?hd (cs := #[.int .i64 0, .bool false]) (t := 25) ?hr ?_; (case hd => rfl); (case hg => rfl); (case hr => first | (go_simp; done) | (go_simp; rfl)); intro gb856 hg w11 hbox hb; have n0_ := Aside0.mk (below_step (by repeat (first | (with_reducible first | exact HB.out | apply below_alloc | apply pw_below_drewN | apply below_drew1) | exact HB.out)) hb); have n1_ := Aside0.mk (hbox); have n2_ := Aside0.mk ((by rw [hg]; exact (below_size (by repeat (first | (with_reducible first | exact HB.out | apply below_alloc | apply pw_below_drewN | apply below_drew1) | exact HB.out))) : w.heap.size ≤ gb856)); have n3_ := Aside0.mk ((by rw [hg]; exact (below_size (by repeat (first | (with_reducible first | exact HB.out | apply below_alloc | apply pw_below_drewN | apply below_drew1) | exact HB.out))) : w.heap.size ≤ gb856)); clear HB; have HB := n0_; have BK856 := n1_; have GW856 := n2_; have GE856 := n3_; clear n0_ n1_ n2_ n3_; clear hb hbox hg; have hcz12_0 : w11.cell? ⟨gb856, 0, none⟩ = some (.int .i64 0) := (blk_cell BK856.out 0).trans rfl; have hcz12_1 : w11.cell? ⟨gb856, 1, none⟩ = some (.bool false) := (blk_cell BK856.out 1).trans rfl; have hfz12_0 := blk_frozen BK856.out 0; have hfz12_1 := blk_frozen BK856.out 1; have p857 : 0 ≤ (x14_1 : Int) := of_decide_eq_true (by first | (with_reducible assumption) | assumption); have q857 : x14_1 < (l1.length : Int) := of_decide_eq_true (by first | (with_reducible assumption) | assumption); obtain ⟨ad857, e857, hx857_0, hx857_1⟩ := at_T25 HR1.out x14_1 p857 q857; cases e857; have hn857_0 : ad857.block ≠ gb856 := Nat.ne_of_lt (Nat.lt_of_lt_of_le (by have := World.block_lt_of_cell? _ _ hx857_0; first | rwa [add_block] at this | exact this) GW856.out); have hn857_1 : ad857.block ≠ gb856 := Nat.ne_of_lt (Nat.lt_of_lt_of_le (by have := World.block_lt_of_cell? _ _ hx857_0; first | rwa [add_block] at this | exact this) GW856.out); replace hx857_0 := (HB.out.cell (World.block_lt_of_cell? w _ hx857_0)).trans hx857_0; replace hx857_1 := (HB.out.cell (World.block_lt_of_cell? w _ hx857_1)).trans hx857_1; replace hx857_0 := (cell_far (p := ⟨gb856, 0, none⟩) (by first | (rw [add_block]; exact hn857_0) | (show (Addr.add _ _).block ≠ _; rw [add_block]; exact hn857_0) | exact hn857_0) (.int .i64 ((rd_T25 l0 x14_1).f0))).trans hx857_0; replace hx857_1 := (cell_far (p := ⟨gb856, 0, none⟩) (by first | (rw [add_block]; exact hn857_0) | (show (Addr.add _ _).block ≠ _; rw [add_block]; exact hn857_0) | exact hn857_0) (.int .i64 ((rd_T25 l0 x14_1).f0))).trans hx857_1; replace hx857_0 := (cell_far (p := ⟨gb856, 1, none⟩) (by first | (rw [add_block]; exact hn857_1) | (show (Addr.add _ _).block ≠ _; rw [add_block]; exact hn857_1) | exact hn857_1) (.bool ((rd_T25 l0 x14_1).f1))).trans hx857_0; replace hx857_1 := (cell_far (p := ⟨gb856, 1, none⟩) (by first | (rw [add_block]; exact hn857_1) | (show (Addr.add _ _).block ≠ _; rw [add_block]; exact hn857_1) | exact hn857_1) (.bool ((rd_T25 l0 x14_1).f1))).trans hx857_1; (try have hy857_0 := fun (n_ : Nat) => (show ((((w11.drewN n_).setCell ⟨gb856, 0, none⟩ (.int .i64 ((rd_T25 l0 x14_1).f0))).setCell ⟨gb856, 1, none⟩ (.bool ((rd_T25 l0 x14_1).f1)))).cell? _ = some _ from hx857_0)); (try have hy857_1 := fun (n_ : Nat) => (show ((((w11.drewN n_).setCell ⟨gb856, 0, none⟩ (.int .i64 ((rd_T25 l0 x14_1).f0))).setCell ⟨gb856, 1, none⟩ (.bool ((rd_T25 l0 x14_1).f1)))).cell? _ = some _ from hx857_1)); clear hn857_0; clear hn857_1; replace p857 := eq_true p857; replace q857 := eq_true q857))
   repeat (go_quiet (first | ((with_reducible refine gate_dst (N := 6) rfl ?_); refine box_event ?hg (N := 6) ?hd (cs := #[.int .i64 0, .bool false]) (t := 25) ?hr ?_; (case hd => rfl); (case hg => rfl); (case hr => first | (go_simp; done) | (go_simp; rfl)); intro gb856 hg w11 hbox hb; have n0_ := Aside0.mk (below_step (by repeat (first | (with_reducible first | exact HB.out | apply below_alloc | apply pw_below_drewN | apply below_drew1) | exact HB.out)) hb); have n1_ := Aside0.mk (hbox); have n2_ := Aside0.mk ((by rw [hg]; exact (below_size (by repeat (first | (with_reducible first | exact HB.out | apply below_alloc | apply pw_below_drewN | apply below_drew1) | exact HB.out))) : w.heap.size ≤ gb856)); have n3_ := Aside0.mk ((by rw [hg]; exact (below_size (by repeat (first | (with_reducible first | exact HB.out | apply below_alloc | apply pw_below_drewN | apply below_drew1) | exact HB.out))) : w.heap.size ≤ gb856)); clear HB; have HB := n0_; have BK856 := n1_; have GW856 := n2_; have GE856 := n3_; clear n0_ n1_ n2_ n3_; clear hb hbox hg; have hcz12_0 : w11.cell? ⟨gb856, 0, none⟩ = some (.int .i64 0) := (blk_cell BK856.out 0).trans rfl; have hcz12_1 : w11.cell? ⟨gb856, 1, none⟩ = some (.bool false) := (blk_cell BK856.out 1).trans rfl; have hfz12_0 := blk_frozen BK856.out 0; have hfz12_1 := blk_frozen BK856.out 1; have p857 : 0 ≤ (x14_1 : Int) := of_decide_eq_true (by first | (with_reducible assumption) | assumption); have q857 : x14_1 < (l1.length : Int) := of_decide_eq_true (by first | (with_reducible assumption) | assumption); obtain ⟨ad857, e857, hx857_0, hx857_1⟩ := at_T25 HR1.out x14_1 p857 q857; cases e857; have hn857_0 : ad857.block ≠ gb856 := Nat.ne_of_lt (Nat.lt_of_lt_of_le (by have := World.block_lt_of_cell? _ _ hx857_0; first | rwa [add_block] at this | exact this) GW856.out); have hn857_1 : ad857.block ≠ gb856 := Nat.ne_of_lt (Nat.lt_of_lt_of_le (by have := World.block_lt_of_cell? _ _ hx857_0; first | rwa [add_block] at this | exact this) GW856.out); replace hx857_0 := (HB.out.cell (World.block_lt_of_cell? w _ hx857_0)).trans hx857_0; replace hx857_1 := (HB.out.cell (World.block_lt_of_cell? w _ hx857_1)).trans hx857_1; replace hx857_0 := (cell_far (p := ⟨gb856, 0, none⟩) (by first | (rw [add_block]; exact hn857_0) | (show (Addr.add _ _).block ≠ _; rw [add_block]; exact hn857_0) | exact hn857_0) (.int .i64 ((rd_T25 l0 x14_1).f0))).trans hx857_0; replace hx857_1 := (cell_far (p := ⟨gb856, 0, none⟩) (by first | (rw [add_block]; exact hn857_0) | (show (Addr.add _ _).block ≠ _; rw [add_block]; exact hn857_0) | exact hn857_0) (.int .i64 ((rd_T25 l0 x14_1).f0))).trans hx857_1; replace hx857_0 := (cell_far (p := ⟨gb856, 1, none⟩) (by first | (rw [add_block]; exact hn857_1) | (show (Addr.add _ _).block ≠ _; rw [add_block]; exact hn857_1) | exact hn857_1) (.bool ((rd_T25 l0 x14_1).f1))).trans hx857_0; replace hx857_1 := (cell_far (p := ⟨gb856, 1, none⟩) (by first | (rw [add_block]; exact hn857_1) | (show (Addr.add _ _).block ≠ _; rw [add_block]; exact hn857_1) | exact hn857_1) (.bool ((rd_T25 l0 x14_1).f1))).trans hx857_1; (try have hy857_0 := fun (n_ : Nat) => (show ((((w11.drewN n_).setCell ⟨gb856, 0, none⟩ (.int .i64 ((rd_T25 l0 x14_1).f0))).setCell ⟨gb856, 1, none⟩ (.bool ((rd_T25 l0 x14_1).f1)))).cell? _ = some _ from hx857_0)); (try have hy857_1 := fun (n_ : Nat) => (show ((((w11.drewN n_).setCell ⟨gb856, 0, none⟩ (.int .i64 ((rd_T25 l0 x14_1).f0))).setCell ⟨gb856, 1, none⟩ (.bool ((rd_T25 l0 x14_1).f1)))).cell? _ = some _ from hx857_1)); clear hn857_0; clear hn857_1; replace p857 := eq_true p857; replace q857 := eq_true q857)); try go_wp2_with (first | ((with_reducible refine gate_dst (N := 6) rfl ?_); refine box_event ?hg (N := 6) ?hd (cs := #[.int .i64 0, .bool false]) (t := 25) ?hr ?_; (case hd => rfl); (case hg => rfl); (case hr => first | (go_simp; done) | (go_simp; rfl)); intro gb856 hg w11 hbox hb; have n0_ := Aside0.mk (below_step (by repeat (first | (with_reducible first | exact HB.out | apply below_alloc | apply pw_below_drewN | apply below_drew1) | exact HB.out)) hb); have n1_ := Aside0.mk (hbox); have n2_ := Aside0.mk ((by rw [hg]; exact (below_size (by repeat (first | (with_reducible first | exact HB.out | apply below_alloc | apply pw_below_drewN | apply below_drew1) | exact HB.out))) : w.heap.size ≤ gb856)); have n3_ := Aside0.mk ((by rw [hg]; exact (below_size (by repeat (first | (with_reducible first | exact HB.out | apply below_alloc | apply pw_below_drewN | apply below_drew1) | exact HB.out))) : w.heap.size ≤ gb856)); clear HB; have HB := n0_; have BK856 := n1_; have GW856 := n2_; have GE856 := n3_; clear n0_ n1_ n2_ n3_; clear hb hbox hg; have hcz12_0 : w11.cell? ⟨gb856, 0, none⟩ = some (.int .i64 0) := (blk_cell BK856.out 0).trans rfl; have hcz12_1 : w11.cell? ⟨gb856, 1, none⟩ = some (.bool false) := (blk_cell BK856.out 1).trans rfl; have hfz12_0 := blk_frozen BK856.out 0; have hfz12_1 := blk_frozen BK856.out 1; have p857 : 0 ≤ (x14_1 : Int) := of_decide_eq_true (by first | (with_reducible assumption) | assumption); have q857 : x14_1 < (l1.length : Int) := of_decide_eq_true (by first | (with_reducible assumption) | assumption); obtain ⟨ad857, e857, hx857_0, hx857_1⟩ := at_T25 HR1.out x14_1 p857 q857; cases e857; have hn857_0 : ad857.block ≠ gb856 := Nat.ne_of_lt (Nat.lt_of_lt_of_le (by have := World.block_lt_of_cell? _ _ hx857_0; first | rwa [add_block] at this | exact this) GW856.out); have hn857_1 : ad857.block ≠ gb856 := Nat.ne_of_lt (Nat.lt_of_lt_of_le (by have := World.block_lt_of_cell? _ _ hx857_0; first | rwa [add_block] at this | exact this) GW856.out); replace hx857_0 := (HB.out.cell (World.block_lt_of_cell? w _ hx857_0)).trans hx857_0; replace hx857_1 := (HB.out.cell (World.block_lt_of_cell? w _ hx857_1)).trans hx857_1; replace hx857_0 := (cell_far (p := ⟨gb856, 0, none⟩) (by first | (rw [add_block]; exact hn857_0) | (show (Addr.add _ _).block ≠ _; rw [add_block]; exact hn857_0) | exact hn857_0) (.int .i64 ((rd_T25 l0 x14_1).f0))).trans hx857_0; replace hx857_1 := (cell_far (p := ⟨gb856, 0, none⟩) (by first | (rw [add_block]; exact hn857_0) | (show (Addr.add _ _).block ≠ _; rw [add_block]; exact hn857_0) | exact hn857_0) (.int .i64 ((rd_T25 l0 x14_1).f0))).trans hx857_1; replace hx857_0 := (cell_far (p := ⟨gb856, 1, none⟩) (by first | (rw [add_block]; exact hn857_1) | (show (Addr.add _ _).block ≠ _; rw [add_block]; exact hn857_1) | exact hn857_1) (.bool ((rd_T25 l0 x14_1).f1))).trans hx857_0; replace hx857_1 := (cell_far (p := ⟨gb856, 1, none⟩) (by first | (rw [add_block]; exact hn857_1) | (show (Addr.add _ _).block ≠ _; rw [add_block]; exact hn857_1) | exact hn857_1) (.bool ((rd_T25 l0 x14_1).f1))).trans hx857_1; (try have hy857_0 := fun (n_ : Nat) => (show ((((w11.drewN n_).setCell ⟨gb856, 0, none⟩ (.int .i64 ((rd_T25 l0 x14_1).f0))).setCell ⟨gb856, 1, none⟩ (.bool ((rd_T25 l0 x14_1).f1)))).cell? _ = some _ from hx857_0)); (try have hy857_1 := fun (n_ : Nat) => (show ((((w11.drewN n_).setCell ⟨gb856, 0, none⟩ (.int .i64 ((rd_T25 l0 x14_1).f0))).setCell ⟨gb856, 1, none⟩ (.bool ((rd_T25 l0 x14_1).f1)))).cell? _ = some _ from hx857_1)); clear hn857_0; clear hn857_1; replace p857 := eq_true p857; replace q857 := eq_true q857)))
   go_roundg k1
   case measure => have := HK1.out; omega
   case rel => exact ⟨(wrap64 (x14_1 + 1)), (by first | rfl | (simp; done) | (simp [*]; done)), H', ⟨by have := HK1.out; omega⟩, ⟨by repeat (first | (with_reducible first | exact HB.out | apply below_alloc | apply pw_below_drewN | apply below_drew1 | refine below_set ?_ GE856.out) | exact HB.out)⟩⟩
end Go.Proofs.YtdgmkfbmeaalpaaDoor.E
end
section
namespace Go.Proofs.YtdgmkfbmeaalpaaDoor.E
open Go.RowKit Go.Proofs.YtdgmkfbmeaalpaaDoorW.PrintWords Go.Proofs.YtdgmkfbmeaalpaaDoorW.PrintLast Go.Proofs.YtdgmkfbmeaalpaaDoorW.PrintMore
attribute [local go_sem] max2_int min2_int max_two min_two max_three min_three max_four min_four
set_option linter.unusedVariables false
set_option linter.unusedSimpArgs false
attribute [local go_sem] str_leq_ str_gtr_ str_geq_
mutual
def impl_PsalmRead.j0 : Nat → List (S27) → ByteArray → List (S25) → Bool → Option (Int)
 | 0, _, _, _, _ => none
 | k + 1, x0, x1, x2, x24 => if x24 = true then (some (-1)) else (impl_PsalmRead.l0 k x1 x2 0 x0 (x0.length : Int) 0)
def impl_PsalmRead.l0 : Nat → ByteArray → List (S25) → Int → List (S27) → Int → Int → Option (Int)
 | 0, _, _, _, _, _, _ => none
 | k + 1, x1, x2, x7, x25, x26, x27 => if x27 < x26 then (if 0 ≤ x27 then (if x27 < (x25.length : Int) then ((impl_PsalmSing.f k ((rd_T27 x25 x27).f0) ((rd_T27 x25 x27).f1.f0) ((rd_T27 x25 x27).f1.f1) ((rd_T27 x25 x27).f2) ((rd_T27 x25 x27).f3) x1).bind fun bt863 => (if bt863.2 = true then ((impl_equalTones.f k bt863.1 x2).bind fun t867 => (if t867 = true then (impl_PsalmRead.l0 k x1 x2 (wrap64 (x7 + 1)) x25 x26 (wrap64 (x27 + 1))) else (impl_PsalmRead.l0 k x1 x2 x7 x25 x26 (wrap64 (x27 + 1))))) else (impl_PsalmRead.l0 k x1 x2 x7 x25 x26 (wrap64 (x27 + 1))))) else (none)) else (none)) else (some x7)
end
def impl_PsalmRead.f (k : Nat) (l0 : List (S27)) (a1 : ByteArray) (l2 : List (S25)) : Option (Int) := (impl_VerseValid.f a1).bind fun t858 => (if t858 = true then ((impl_MelodyValid.f k l2).bind fun t859 => (if t859 = true then ((impl_allPsalmsValid.f k l0).bind fun t860 => (impl_PsalmRead.j0 k l0 a1 l2 (!t860))) else (impl_PsalmRead.j0 k l0 a1 l2 true))) else (impl_PsalmRead.j0 k l0 a1 l2 true))
set_option maxHeartbeats 8000000 in
set_option maxRecDepth 100000 in
theorem impl_PsalmRead.calls (k : Nat) (A0 : Option Addr) (c0 : Nat) (l0 : List (S27)) (a1 : ByteArray) (A2 : Option Addr) (c2 : Nat) (l2 : List (S25)) (r : Int) (w : World) (hr0 : Kd.C k27 w A0 l0.length l0) (hc0 : l0.length ≤ c0) (hr2 : Kd.C k25 w A2 l2.length l2) (hc2 : l2.length ≤ c2) (hG : GOk [0] w) (h : impl_PsalmRead.f k l0 a1 l2 = some r) :
  Calls Tryd.prog 44 #[.slice A0 l0.length c0, .string a1, .slice A2 l2.length c2] w fun e w' => e = .returned (.int .i64 r) ∧ Below w.heap.size w w' := by
 have hu27 := Tryd.underlying27
 have HR0 := Aside0.mk hr0
 have HC0 := Aside0.mk hc0
 clear hr0 hc0
 have HR2 := Aside0.mk hr2
 have HC2 := Aside0.mk hc2
 clear hr2 hc2
 have HB := Aside0.mk (Below.refl w.heap.size w)
 have HG := Aside0.mk hG
 clear hG
 have H : ((impl_VerseValid.f a1).bind fun t858 => (if t858 = true then ((impl_MelodyValid.f k l2).bind fun t859 => (if t859 = true then ((impl_allPsalmsValid.f k l0).bind fun t860 => (impl_PsalmRead.j0 k l0 a1 l2 (!t860))) else (impl_PsalmRead.j0 k l0 a1 l2 true))) else (impl_PsalmRead.j0 k l0 a1 l2 true))) = some r := h
 clear h
 have HC4 := Aside0.mk H
 clear H
 go_enter Tryd.func44, Tryd.ntmps44
 go_upto_region 1 with (fail)
 go_cut [24] (fun v24 wc => ∃ (kq : Nat) (x24_3 : Bool), v24 = .bool x24_3 ∧ Aside0 (impl_PsalmRead.j0 kq l0 a1 l2 x24_3 = some r) ∧ Aside0 (kq ≤ k) ∧ Aside0 (Below w.heap.size w wc))
 case first =>
  have H := HC4.out
  clear HC4
  replace H := Option.bind_eq_some_iff.mp H
  obtain ⟨t858, A50, H⟩ := H
  replace H : (if t858 = true then ((impl_MelodyValid.f k l2).bind fun t859 => (if t859 = true then ((impl_allPsalmsValid.f k l0).bind fun t860 => (impl_PsalmRead.j0 k l0 a1 l2 (!t860))) else (impl_PsalmRead.j0 k l0 a1 l2 true))) else (impl_PsalmRead.j0 k l0 a1 l2 true)) = some r := H
  have A5 := Aside0.mk A50
  clear A50
  by_cases c6 : t858 = true
  rotate_left
  ·replace c6 := Bool.eq_false_iff.mpr c6
   subst c6
   have H1 : (impl_PsalmRead.j0 k l0 a1 l2 true) = some r := by rw [if_neg (show ¬ (false = true) by decide)] at H; exact H
   clear H
   have H := H1
   clear H1
   have H' := Aside0.mk H
   clear H
   go_wp2_with (first | ((with_reducible refine gate_callee (f := 21) rfl ?_); refine goesL_ (some 13) rfl rfl Tryd.func21 (by kernel_rfl) rfl #[.string a1] rfl (by (try simp only [List.map_toArray, List.map_cons, List.map_nil]); first | done | rfl | (simp only [List.length_drop, List.length_take]; rfl)) ?_; (with_reducible refine (impl_VerseValid.calls a1 false _ ?side1 A5.out).mono ?_); (case side1 => exact GOk.sub (GOk.below HG.out (by repeat (first | (with_reducible first | exact HB.out | apply below_alloc | apply pw_below_drewN | apply below_drew1) | exact HB.out))) (by decide)); rintro e w15 ⟨rfl, hb⟩; refine ⟨_, rfl, ?_⟩; have n0_ := Aside0.mk (below_step (by repeat (first | (with_reducible first | exact HB.out | apply below_alloc | apply pw_below_drewN | apply below_drew1) | exact HB.out)) hb); clear HB; have HB := n0_; clear n0_; (try clear hb); (try clear hb2); (try clear hk); (try clear hi)))
   go_meet
   case rel => exact ⟨_, (true), (by first | rfl | (simp; done) | (simp [*]; done)), H', ⟨by first | omega | exact Nat.le_refl _⟩, ⟨by repeat (first | (with_reducible first | exact HB.out | apply below_alloc | apply pw_below_drewN | apply below_drew1) | exact HB.out)⟩⟩
  subst c6
  have H1 : ((impl_MelodyValid.f k l2).bind fun t859 => (if t859 = true then ((impl_allPsalmsValid.f k l0).bind fun t860 => (impl_PsalmRead.j0 k l0 a1 l2 (!t860))) else (impl_PsalmRead.j0 k l0 a1 l2 true))) = some r := by rw [if_pos rfl] at H; exact H
  clear H
  have H := H1
  clear H1
  replace H := Option.bind_eq_some_iff.mp H
  obtain ⟨t859, A70, H⟩ := H
  replace H : (if t859 = true then ((impl_allPsalmsValid.f k l0).bind fun t860 => (impl_PsalmRead.j0 k l0 a1 l2 (!t860))) else (impl_PsalmRead.j0 k l0 a1 l2 true)) = some r := H
  have A7 := Aside0.mk A70
  clear A70
  by_cases c8 : t859 = true
  rotate_left
  ·replace c8 := Bool.eq_false_iff.mpr c8
   subst c8
   have H1 : (impl_PsalmRead.j0 k l0 a1 l2 true) = some r := by rw [if_neg (show ¬ (false = true) by decide)] at H; exact H
   clear H
   have H := H1
   clear H1
   have H' := Aside0.mk H
   clear H
   go_wp2_with (first | ((with_reducible refine gate_callee (f := 21) rfl ?_); refine goesL_ (some 13) rfl rfl Tryd.func21 (by kernel_rfl) rfl #[.string a1] rfl (by (try simp only [List.map_toArray, List.map_cons, List.map_nil]); first | done | rfl | (simp only [List.length_drop, List.length_take]; rfl)) ?_; (with_reducible refine (impl_VerseValid.calls a1 true _ ?side1 A5.out).mono ?_); (case side1 => exact GOk.sub (GOk.below HG.out (by repeat (first | (with_reducible first | exact HB.out | apply below_alloc | apply pw_below_drewN | apply below_drew1) | exact HB.out))) (by decide)); rintro e w13 ⟨rfl, hb⟩; refine ⟨_, rfl, ?_⟩; have n0_ := Aside0.mk (below_step (by repeat (first | (with_reducible first | exact HB.out | apply below_alloc | apply pw_below_drewN | apply below_drew1) | exact HB.out)) hb); clear HB; have HB := n0_; clear n0_; (try clear hb); (try clear hb2); (try clear hk); (try clear hi)) | (go_at_call 75; (with_reducible refine (impl_MelodyValid.calls k _ _ l2 false _ ?side1 ?side2 A7.out).mono ?_); (case side1 => repeat (first | exact (Kd.C_below HR2.out HB.out) | (with_reducible refine Kd.C_alloc ?_ _) | (with_reducible refine Kd.C_drewN ?_ _) | (with_reducible refine Kd.C_drew ?_))); (case side2 => exact HC2.out); rintro e w14 ⟨rfl, hb⟩; have n0_ := Aside0.mk (below_step (by repeat (first | (with_reducible first | exact HB.out | apply below_alloc | apply pw_below_drewN | apply below_drew1) | exact HB.out)) hb); clear HB; have HB := n0_; clear n0_; (try clear hb); (try clear hb2); (try clear hk); (try clear hi)))
   go_meet
   case rel => exact ⟨_, (true), (by first | rfl | (simp; done) | (simp [*]; done)), H', ⟨by first | omega | exact Nat.le_refl _⟩, ⟨by repeat (first | (with_reducible first | exact HB.out | apply below_alloc | apply pw_below_drewN | apply below_drew1) | exact HB.out)⟩⟩
  subst c8
  have H1 : ((impl_allPsalmsValid.f k l0).bind fun t860 => (impl_PsalmRead.j0 k l0 a1 l2 (!t860))) = some r := by rw [if_pos rfl] at H; exact H
  clear H
  have H := H1
  clear H1
  replace H := Option.bind_eq_some_iff.mp H
  obtain ⟨t860, A90, H⟩ := H
  replace H : (impl_PsalmRead.j0 k l0 a1 l2 (!t860)) = some r := H
  have A9 := Aside0.mk A90
  clear A90
  have H' := Aside0.mk H
  clear H
  go_wp2_with (first | ((with_reducible refine gate_callee (f := 21) rfl ?_); refine goesL_ (some 13) rfl rfl Tryd.func21 (by kernel_rfl) rfl #[.string a1] rfl (by (try simp only [List.map_toArray, List.map_cons, List.map_nil]); first | done | rfl | (simp only [List.length_drop, List.length_take]; rfl)) ?_; (with_reducible refine (impl_VerseValid.calls a1 true _ ?side1 A5.out).mono ?_); (case side1 => exact GOk.sub (GOk.below HG.out (by repeat (first | (with_reducible first | exact HB.out | apply below_alloc | apply pw_below_drewN | apply below_drew1) | exact HB.out))) (by decide)); rintro e w10 ⟨rfl, hb⟩; refine ⟨_, rfl, ?_⟩; have n0_ := Aside0.mk (below_step (by repeat (first | (with_reducible first | exact HB.out | apply below_alloc | apply pw_below_drewN | apply below_drew1) | exact HB.out)) hb); clear HB; have HB := n0_; clear n0_; (try clear hb); (try clear hb2); (try clear hk); (try clear hi)) | (go_at_call 75; (with_reducible refine (impl_MelodyValid.calls k _ _ l2 true _ ?side1 ?side2 A7.out).mono ?_); (case side1 => repeat (first | exact (Kd.C_below HR2.out HB.out) | (with_reducible refine Kd.C_alloc ?_ _) | (with_reducible refine Kd.C_drewN ?_ _) | (with_reducible refine Kd.C_drew ?_))); (case side2 => exact HC2.out); rintro e w11 ⟨rfl, hb⟩; have n0_ := Aside0.mk (below_step (by repeat (first | (with_reducible first | exact HB.out | apply below_alloc | apply pw_below_drewN | apply below_drew1) | exact HB.out)) hb); clear HB; have HB := n0_; clear n0_; (try clear hb); (try clear hb2); (try clear hk); (try clear hi)) | (go_at_call 71; (with_reducible refine (impl_allPsalmsValid.calls k _ _ l0 t860 _ ?side1 ?side2 A9.out).mono ?_); (case side1 => repeat (first | exact (Kd.C_below HR0.out HB.out) | (with_reducible refine Kd.C_alloc ?_ _) | (with_reducible refine Kd.C_drewN ?_ _) | (with_reducible refine Kd.C_drew ?_))); (case side2 => exact HC0.out); rintro e w12 ⟨rfl, hb⟩; have n0_ := Aside0.mk (below_step (by repeat (first | (with_reducible first | exact HB.out | apply below_alloc | apply pw_below_drewN | apply below_drew1) | exact HB.out)) hb); clear HB; have HB := n0_; clear n0_; (try clear hb); (try clear hb2); (try clear hk); (try clear hi)))
  go_meet
  case rel => exact ⟨_, (!t860), (by first | rfl | (simp; done) | (simp [*]; done)), H', ⟨by first | omega | exact Nat.le_refl _⟩, ⟨by repeat (first | (with_reducible first | exact HB.out | apply below_alloc | apply pw_below_drewN | apply below_drew1) | exact HB.out)⟩⟩
 case rest =>
  clear HC4
  try clear c2
  try clear p2
  try clear c4
  try clear c6
  try clear c8
  obtain ⟨kq, x24_3, rfl, HA, HJ3, HB⟩ := hcut
  cases kq with
  | zero => exact absurd HA.out (by simp [impl_PsalmRead.j0])
  | succ kj3 =>
   have H := HA.out
   clear HA
   simp only [impl_PsalmRead.j0] at H
   by_cases c16 : x24_3 = true
   ·subst c16
    have H1 : (some (-1)) = some r := by rw [if_pos rfl] at H; exact H
    clear H
    have H := H1
    clear H1
    obtain rfl := Option.some.inj H
    go_wp2
    go_ret
    exact ⟨by first | rfl | (simp [errW_none, errW_some] <;> rfl) | (simp [*, errW_none, errW_some] <;> rfl), by repeat (first | (with_reducible first | exact HB.out | apply below_alloc | apply pw_below_drewN | apply below_drew1) | exact HB.out)⟩
   replace c16 := Bool.eq_false_iff.mpr c16
   subst c16
   have H1 : (impl_PsalmRead.l0 kj3 a1 l2 0 l0 (l0.length : Int) 0) = some r := by rw [if_neg (show ¬ (false = true) by decide)] at H; exact H
   clear H
   have H := H1
   clear H1
   have H' := Aside0.mk H
   clear H
   go_wp2
   go_loopg [7, 27] kj3 (fun kq v7 v27 w' => ∃ (x7_2 : Int) (x27_2 : Int), v7 = .int .i64 x7_2 ∧ v27 = .int .i64 x27_2 ∧ Aside0 (impl_PsalmRead.l0 kq a1 l2 x7_2 l0 (l0.length : Int) x27_2 = some r) ∧ Aside0 (kq ≤ kj3) ∧ Aside0 (Below w.heap.size w w'))
   case atStart => exact ⟨(0), (0), (by first | rfl | (simp; done) | (simp [*]; done)), (by first | rfl | (simp; done) | (simp [*]; done)), H', ⟨Nat.le_refl _⟩, ⟨by repeat (first | (with_reducible first | exact HB.out | apply below_alloc | apply pw_below_drewN | apply below_drew1) | exact HB.out)⟩⟩
   case round =>
    clear H'
    try clear c1
    try clear c2
    try clear p2
    try clear c4
    try clear c6
    try clear c8
    try clear c16
    try clear p2
    obtain ⟨x7_2, x27_2, rfl, rfl, HA, HK2, HB⟩ := hrel
    cases gk with
    | zero => exact absurd HA.out (by simp [impl_PsalmRead.l0])
    | succ k2 =>
     have H := HA.out
     clear HA
     simp only [impl_PsalmRead.l0] at H
     by_cases c17 : x27_2 < (l0.length : Int)
     rotate_left
     ·rw [if_neg c17] at H
      have c17b0 : decide (x27_2 < (l0.length : Int)) = false := decide_eq_false c17
      clear c17
      obtain rfl := Option.some.inj H
      go_wp2
      go_ret
      exact ⟨by first | rfl | (simp [errW_none, errW_some] <;> rfl) | (simp [*, errW_none, errW_some] <;> rfl), by repeat (first | (with_reducible first | exact HB.out | apply below_alloc | apply pw_below_drewN | apply below_drew1) | exact HB.out)⟩
     rw [if_pos c17] at H
     have c17b0 : decide (x27_2 < (l0.length : Int)) = true := decide_eq_true c17
     clear c17
     by_cases c18 : 0 ≤ x27_2
     rotate_left
     ·rw [if_neg c18] at H
      exact absurd H (by simp)
     rw [if_pos c18] at H
     have c18b0 : decide (0 ≤ x27_2) = true := decide_eq_true c18
     clear c18
     by_cases c19 : x27_2 < (l0.length : Int)
     rotate_left
     ·rw [if_neg c19] at H
      exact absurd H (by simp)
     rw [if_pos c19] at H
     have c19b0 : decide (x27_2 < (l0.length : Int)) = true := decide_eq_true c19
     clear c19
     replace H := Option.bind_eq_some_iff.mp H
     obtain ⟨⟨t863, t866⟩, A200, H⟩ := H
     replace H : (if t866 = true then ((impl_equalTones.f k2 t863 l2).bind fun t867 => (if t867 = true then (impl_PsalmRead.l0 k2 a1 l2 (wrap64 (x7_2 + 1)) l0 (l0.length : Int) (wrap64 (x27_2 + 1))) else (impl_PsalmRead.l0 k2 a1 l2 x7_2 l0 (l0.length : Int) (wrap64 (x27_2 + 1))))) else (impl_PsalmRead.l0 k2 a1 l2 x7_2 l0 (l0.length : Int) (wrap64 (x27_2 + 1)))) = some r := H
     have A20 := Aside0.mk A200
     clear A200
     by_cases c21 : t866 = true
     rotate_left
     ·replace c21 := Bool.eq_false_iff.mpr c21
      subst c21
      have H1 : (impl_PsalmRead.l0 k2 a1 l2 x7_2 l0 (l0.length : Int) (wrap64 (x27_2 + 1))) = some r := by rw [if_neg (show ¬ (false = true) by decide)] at H; exact H
      clear H
      have H := H1
      clear H1
      have H' := Aside0.mk H
      clear H
      have p861 : 0 ≤ (x27_2 : Int) := of_decide_eq_true (by first | (with_reducible assumption) | assumption)
      have q861 : x27_2 < (l0.length : Int) := of_decide_eq_true (by first | (with_reducible assumption) | assumption)
      obtain ⟨ad861, A861_0, c861_0, A861_3, c861_3, A861_4, c861_4, e861, hx861_0, hx861_1, hx861_2, hx861_3, hx861_4, hl861_0, hi861_0, hl861_3, hi861_3, hl861_4, hi861_4⟩ := at_T27 HR0.out x27_2 p861 q861
      cases e861
      replace hx861_0 := (HB.out.cell (World.block_lt_of_cell? w _ hx861_0)).trans hx861_0
      replace hx861_1 := (HB.out.cell (World.block_lt_of_cell? w _ hx861_1)).trans hx861_1
      replace hx861_2 := (HB.out.cell (World.block_lt_of_cell? w _ hx861_2)).trans hx861_2
      replace hx861_3 := (HB.out.cell (World.block_lt_of_cell? w _ hx861_3)).trans hx861_3
      replace hx861_4 := (HB.out.cell (World.block_lt_of_cell? w _ hx861_4)).trans hx861_4
      have HR861_0 := Aside0.mk hi861_0
      have HC861_0 := Aside0.mk hl861_0
      clear hi861_0 hl861_0
      have HR861_3 := Aside0.mk hi861_3
      have HC861_3 := Aside0.mk hl861_3
      clear hi861_3 hl861_3
      have HR861_4 := Aside0.mk hi861_4
      have HC861_4 := Aside0.mk hl861_4
      clear hi861_4 hl861_4
      replace p861 := eq_true p861
      replace q861 := eq_true q861
      go_wp2_with (first | ((with_reducible refine gate_dst (N := 9) rfl ?_); refine box_event ?hg (N := 9) ?hd (cs := #[.slice none 0 0, .int .i64 0, .bool false, .slice none 0 0, .slice none 0 0]) (t := 27) ?hr ?_; (case hd => rfl); (case hg => rfl); (case hr => first | (go_simp; done) | (go_simp; rfl)); intro gb862 hg w34 hbox hb; have n0_ := Aside0.mk (below_step (by repeat (first | (with_reducible first | exact HB.out | apply below_alloc | apply pw_below_drewN | apply below_drew1) | exact HB.out)) hb); have n1_ := Aside0.mk (hbox); have n2_ := Aside0.mk ((by rw [hg]; exact (below_size (by repeat (first | (with_reducible first | exact HB.out | apply below_alloc | apply pw_below_drewN | apply below_drew1) | exact HB.out))) : w.heap.size ≤ gb862)); have n3_ := Aside0.mk ((by rw [hg]; exact (below_size (by repeat (first | (with_reducible first | exact HB.out | apply below_alloc | apply pw_below_drewN | apply below_drew1) | exact HB.out))) : w.heap.size ≤ gb862)); clear HB; have HB := n0_; have BK862 := n1_; have GW862 := n2_; have GE862 := n3_; clear n0_ n1_ n2_ n3_; clear hb hbox hg; have hcz35_0 : w34.cell? ⟨gb862, 0, none⟩ = some (.slice none 0 0) := (blk_cell BK862.out 0).trans rfl; have hcz35_1 : w34.cell? ⟨gb862, 1, none⟩ = some (.int .i64 0) := (blk_cell BK862.out 1).trans rfl; have hcz35_2 : w34.cell? ⟨gb862, 2, none⟩ = some (.bool false) := (blk_cell BK862.out 2).trans rfl; have hcz35_3 : w34.cell? ⟨gb862, 3, none⟩ = some (.slice none 0 0) := (blk_cell BK862.out 3).trans rfl; have hcz35_4 : w34.cell? ⟨gb862, 4, none⟩ = some (.slice none 0 0) := (blk_cell BK862.out 4).trans rfl; have hfz35_0 := blk_frozen BK862.out 0; have hfz35_1 := blk_frozen BK862.out 1; have hfz35_2 := blk_frozen BK862.out 2; have hfz35_3 := blk_frozen BK862.out 3; have hfz35_4 := blk_frozen BK862.out 4) | ((with_reducible refine gate_callee (f := 19) rfl ?_); refine goesL_ (some 34) rfl rfl Tryd.func19 (by kernel_rfl) rfl #[.agg #[.slice A861_0 ((rd_T27 l0 x27_2).f0).length c861_0, .int .i64 ((rd_T27 l0 x27_2).f1.f0), .bool ((rd_T27 l0 x27_2).f1.f1), .slice A861_3 ((rd_T27 l0 x27_2).f2).length c861_3, .slice A861_4 ((rd_T27 l0 x27_2).f3).length c861_4], .string a1] rfl (by (try simp only [List.map_toArray, List.map_cons, List.map_nil]); first | done | rfl | (simp only [List.length_drop, List.length_take]; rfl)) ?_; (with_reducible refine (impl_PsalmSing.calls k2 _ _ ((rd_T27 l0 x27_2).f0) ((rd_T27 l0 x27_2).f1.f0) ((rd_T27 l0 x27_2).f1.f1) _ _ ((rd_T27 l0 x27_2).f2) _ _ ((rd_T27 l0 x27_2).f3) a1 t863 false _ ?side1 ?side2 ?side3 ?side4 ?side5 ?side6 ?side7 A20.out).mono ?_); (case side1 => exact Kd.C_below HR861_0.out (by repeat (first | (with_reducible first | exact HB.out | apply below_alloc | apply pw_below_drewN | apply below_drew1 | refine below_set ?_ GE862.out) | exact HB.out))); (case side2 => exact HC861_0.out); (case side3 => exact Kd.C_below HR861_3.out (by repeat (first | (with_reducible first | exact HB.out | apply below_alloc | apply pw_below_drewN | apply below_drew1 | refine below_set ?_ GE862.out) | exact HB.out))); (case side4 => exact HC861_3.out); (case side5 => exact Kd.C_below HR861_4.out (by repeat (first | (with_reducible first | exact HB.out | apply below_alloc | apply pw_below_drewN | apply below_drew1 | refine below_set ?_ GE862.out) | exact HB.out))); (case side6 => exact HC861_4.out); (case side7 => exact GOk.sub (GOk.below HG.out (by repeat (first | (with_reducible first | exact HB.out | apply below_alloc | apply pw_below_drewN | apply below_drew1 | refine below_set ?_ GE862.out) | exact HB.out))) (by decide)); rintro e w36 ⟨v864, rfl, ho0, hb⟩; refine ⟨_, rfl, ?_⟩; have n0_ := Aside0.mk (Kd.R_lower ho0 (below_size (by repeat (first | (with_reducible first | exact HB.out | apply below_alloc | apply pw_below_drewN | apply below_drew1 | refine below_set ?_ GE862.out) | exact HB.out)))); have n1_ := Aside0.mk (blk_below (g := gb862) (o := .cells #[.slice A861_0 ((rd_T27 l0 x27_2).f0).length c861_0, .int .i64 ((rd_T27 l0 x27_2).f1.f0), .bool ((rd_T27 l0 x27_2).f1.f1), .slice A861_3 ((rd_T27 l0 x27_2).f2).length c861_3, .slice A861_4 ((rd_T27 l0 x27_2).f3).length c861_4] 27 (0, 0)) (by (with_reducible repeat (first | refine blk_drewN ?_ _ | refine blk_drew ?_ | refine blk_alloc ?_ _)); refine blk_put (cs := #[.slice A861_0 ((rd_T27 l0 x27_2).f0).length c861_0, .int .i64 ((rd_T27 l0 x27_2).f1.f0), .bool ((rd_T27 l0 x27_2).f1.f1), .slice A861_3 ((rd_T27 l0 x27_2).f2).length c861_3, .slice none 0 0]) ?_ 4 _ rfl; (with_reducible repeat (first | refine blk_drewN ?_ _ | refine blk_drew ?_ | refine blk_alloc ?_ _)); refine blk_put (cs := #[.slice A861_0 ((rd_T27 l0 x27_2).f0).length c861_0, .int .i64 ((rd_T27 l0 x27_2).f1.f0), .bool ((rd_T27 l0 x27_2).f1.f1), .slice none 0 0, .slice none 0 0]) ?_ 3 _ rfl; (with_reducible repeat (first | refine blk_drewN ?_ _ | refine blk_drew ?_ | refine blk_alloc ?_ _)); refine blk_put (cs := #[.slice A861_0 ((rd_T27 l0 x27_2).f0).length c861_0, .int .i64 ((rd_T27 l0 x27_2).f1.f0), .bool false, .slice none 0 0, .slice none 0 0]) ?_ 2 _ rfl; (with_reducible repeat (first | refine blk_drewN ?_ _ | refine blk_drew ?_ | refine blk_alloc ?_ _)); refine blk_put (cs := #[.slice A861_0 ((rd_T27 l0 x27_2).f0).length c861_0, .int .i64 0, .bool false, .slice none 0 0, .slice none 0 0]) ?_ 1 _ rfl; (with_reducible repeat (first | refine blk_drewN ?_ _ | refine blk_drew ?_ | refine blk_alloc ?_ _)); refine blk_put (cs := #[.slice none 0 0, .int .i64 0, .bool false, .slice none 0 0, .slice none 0 0]) ?_ 0 _ rfl; (with_reducible repeat (first | refine blk_drewN ?_ _ | refine blk_drew ?_ | refine blk_alloc ?_ _)); exact BK862.out) hb); have n2_ := Aside0.mk (below_step (by repeat (first | (with_reducible first | exact HB.out | apply below_alloc | apply pw_below_drewN | apply below_drew1 | refine below_set ?_ GE862.out) | exact HB.out)) hb); clear BK862; clear HB; have HO865 := n0_; have BK862 := n1_; have HB := n2_; clear n0_ n1_ n2_; (try clear hb); (try clear hb2); (try clear hk); (try clear hi); (try clear ho0)))
      go_roundg k2
      case measure => have := HJ3.out; have := HK2.out; omega
      case rel => exact ⟨(x7_2), (wrap64 (x27_2 + 1)), (by first | rfl | (simp; done) | (simp [*]; done)), (by first | rfl | (simp; done) | (simp [*]; done)), H', ⟨by have := HJ3.out; have := HK2.out; omega⟩, ⟨by repeat (first | (with_reducible first | exact HB.out | apply below_alloc | apply pw_below_drewN | apply below_drew1 | refine below_set ?_ GE862.out) | exact HB.out)⟩⟩
     subst c21
     have H1 : ((impl_equalTones.f k2 t863 l2).bind fun t867 => (if t867 = true then (impl_PsalmRead.l0 k2 a1 l2 (wrap64 (x7_2 + 1)) l0 (l0.length : Int) (wrap64 (x27_2 + 1))) else (impl_PsalmRead.l0 k2 a1 l2 x7_2 l0 (l0.length : Int) (wrap64 (x27_2 + 1))))) = some r := by rw [if_pos rfl] at H; exact H
     clear H
     have H := H1
     clear H1
     replace H := Option.bind_eq_some_iff.mp H
     obtain ⟨t867, A220, H⟩ := H
     replace H : (if t867 = true then (impl_PsalmRead.l0 k2 a1 l2 (wrap64 (x7_2 + 1)) l0 (l0.length : Int) (wrap64 (x27_2 + 1))) else (impl_PsalmRead.l0 k2 a1 l2 x7_2 l0 (l0.length : Int) (wrap64 (x27_2 + 1)))) = some r := H
     have A22 := Aside0.mk A220
     clear A220
     by_cases c23 : t867 = true
     ·subst c23
      have H1 : (impl_PsalmRead.l0 k2 a1 l2 (wrap64 (x7_2 + 1)) l0 (l0.length : Int) (wrap64 (x27_2 + 1))) = some r := by rw [if_pos rfl] at H; exact H
      clear H
      have H := H1
      clear H1
      have H' := Aside0.mk H
      clear H
      have p861 : 0 ≤ (x27_2 : Int) := of_decide_eq_true (by first | (with_reducible assumption) | assumption)
      have q861 : x27_2 < (l0.length : Int) := of_decide_eq_true (by first | (with_reducible assumption) | assumption)
      obtain ⟨ad861, A861_0, c861_0, A861_3, c861_3, A861_4, c861_4, e861, hx861_0, hx861_1, hx861_2, hx861_3, hx861_4, hl861_0, hi861_0, hl861_3, hi861_3, hl861_4, hi861_4⟩ := at_T27 HR0.out x27_2 p861 q861
      cases e861
      replace hx861_0 := (HB.out.cell (World.block_lt_of_cell? w _ hx861_0)).trans hx861_0
      replace hx861_1 := (HB.out.cell (World.block_lt_of_cell? w _ hx861_1)).trans hx861_1
      replace hx861_2 := (HB.out.cell (World.block_lt_of_cell? w _ hx861_2)).trans hx861_2
      replace hx861_3 := (HB.out.cell (World.block_lt_of_cell? w _ hx861_3)).trans hx861_3
      replace hx861_4 := (HB.out.cell (World.block_lt_of_cell? w _ hx861_4)).trans hx861_4
      have HR861_0 := Aside0.mk hi861_0
      have HC861_0 := Aside0.mk hl861_0
      clear hi861_0 hl861_0
      have HR861_3 := Aside0.mk hi861_3
      have HC861_3 := Aside0.mk hl861_3
      clear hi861_3 hl861_3
      have HR861_4 := Aside0.mk hi861_4
      have HC861_4 := Aside0.mk hl861_4
      clear hi861_4 hl861_4
      replace p861 := eq_true p861
      replace q861 := eq_true q861
      go_wp2_with (first | ((with_reducible refine gate_dst (N := 9) rfl ?_); refine box_event ?hg (N := 9) ?hd (cs := #[.slice none 0 0, .int .i64 0, .bool false, .slice none 0 0, .slice none 0 0]) (t := 27) ?hr ?_; (case hd => rfl); (case hg => rfl); (case hr => first | (go_simp; done) | (go_simp; rfl)); intro gb862 hg w24 hbox hb; have n0_ := Aside0.mk (below_step (by repeat (first | (with_reducible first | exact HB.out | apply below_alloc | apply pw_below_drewN | apply below_drew1) | exact HB.out)) hb); have n1_ := Aside0.mk (hbox); have n2_ := Aside0.mk ((by rw [hg]; exact (below_size (by repeat (first | (with_reducible first | exact HB.out | apply below_alloc | apply pw_below_drewN | apply below_drew1) | exact HB.out))) : w.heap.size ≤ gb862)); have n3_ := Aside0.mk ((by rw [hg]; exact (below_size (by repeat (first | (with_reducible first | exact HB.out | apply below_alloc | apply pw_below_drewN | apply below_drew1) | exact HB.out))) : w.heap.size ≤ gb862)); clear HB; have HB := n0_; have BK862 := n1_; have GW862 := n2_; have GE862 := n3_; clear n0_ n1_ n2_ n3_; clear hb hbox hg; have hcz25_0 : w24.cell? ⟨gb862, 0, none⟩ = some (.slice none 0 0) := (blk_cell BK862.out 0).trans rfl; have hcz25_1 : w24.cell? ⟨gb862, 1, none⟩ = some (.int .i64 0) := (blk_cell BK862.out 1).trans rfl; have hcz25_2 : w24.cell? ⟨gb862, 2, none⟩ = some (.bool false) := (blk_cell BK862.out 2).trans rfl; have hcz25_3 : w24.cell? ⟨gb862, 3, none⟩ = some (.slice none 0 0) := (blk_cell BK862.out 3).trans rfl; have hcz25_4 : w24.cell? ⟨gb862, 4, none⟩ = some (.slice none 0 0) := (blk_cell BK862.out 4).trans rfl; have hfz25_0 := blk_frozen BK862.out 0; have hfz25_1 := blk_frozen BK862.out 1; have hfz25_2 := blk_frozen BK862.out 2; have hfz25_3 := blk_frozen BK862.out 3; have hfz25_4 := blk_frozen BK862.out 4) | ((with_reducible refine gate_callee (f := 19) rfl ?_); refine goesL_ (some 34) rfl rfl Tryd.func19 (by kernel_rfl) rfl #[.agg #[.slice A861_0 ((rd_T27 l0 x27_2).f0).length c861_0, .int .i64 ((rd_T27 l0 x27_2).f1.f0), .bool ((rd_T27 l0 x27_2).f1.f1), .slice A861_3 ((rd_T27 l0 x27_2).f2).length c861_3, .slice A861_4 ((rd_T27 l0 x27_2).f3).length c861_4], .string a1] rfl (by (try simp only [List.map_toArray, List.map_cons, List.map_nil]); first | done | rfl | (simp only [List.length_drop, List.length_take]; rfl)) ?_; (with_reducible refine (impl_PsalmSing.calls k2 _ _ ((rd_T27 l0 x27_2).f0) ((rd_T27 l0 x27_2).f1.f0) ((rd_T27 l0 x27_2).f1.f1) _ _ ((rd_T27 l0 x27_2).f2) _ _ ((rd_T27 l0 x27_2).f3) a1 t863 true _ ?side1 ?side2 ?side3 ?side4 ?side5 ?side6 ?side7 A20.out).mono ?_); (case side1 => exact Kd.C_below HR861_0.out (by repeat (first | (with_reducible first | exact HB.out | apply below_alloc | apply pw_below_drewN | apply below_drew1 | refine below_set ?_ GE862.out) | exact HB.out))); (case side2 => exact HC861_0.out); (case side3 => exact Kd.C_below HR861_3.out (by repeat (first | (with_reducible first | exact HB.out | apply below_alloc | apply pw_below_drewN | apply below_drew1 | refine below_set ?_ GE862.out) | exact HB.out))); (case side4 => exact HC861_3.out); (case side5 => exact Kd.C_below HR861_4.out (by repeat (first | (with_reducible first | exact HB.out | apply below_alloc | apply pw_below_drewN | apply below_drew1 | refine below_set ?_ GE862.out) | exact HB.out))); (case side6 => exact HC861_4.out); (case side7 => exact GOk.sub (GOk.below HG.out (by repeat (first | (with_reducible first | exact HB.out | apply below_alloc | apply pw_below_drewN | apply below_drew1 | refine below_set ?_ GE862.out) | exact HB.out))) (by decide)); rintro e w26 ⟨v864, rfl, ho0, hb⟩; refine ⟨_, rfl, ?_⟩; have n0_ := Aside0.mk (Kd.R_lower ho0 (below_size (by repeat (first | (with_reducible first | exact HB.out | apply below_alloc | apply pw_below_drewN | apply below_drew1 | refine below_set ?_ GE862.out) | exact HB.out)))); have n1_ := Aside0.mk (blk_below (g := gb862) (o := .cells #[.slice A861_0 ((rd_T27 l0 x27_2).f0).length c861_0, .int .i64 ((rd_T27 l0 x27_2).f1.f0), .bool ((rd_T27 l0 x27_2).f1.f1), .slice A861_3 ((rd_T27 l0 x27_2).f2).length c861_3, .slice A861_4 ((rd_T27 l0 x27_2).f3).length c861_4] 27 (0, 0)) (by (with_reducible repeat (first | refine blk_drewN ?_ _ | refine blk_drew ?_ | refine blk_alloc ?_ _)); refine blk_put (cs := #[.slice A861_0 ((rd_T27 l0 x27_2).f0).length c861_0, .int .i64 ((rd_T27 l0 x27_2).f1.f0), .bool ((rd_T27 l0 x27_2).f1.f1), .slice A861_3 ((rd_T27 l0 x27_2).f2).length c861_3, .slice none 0 0]) ?_ 4 _ rfl; (with_reducible repeat (first | refine blk_drewN ?_ _ | refine blk_drew ?_ | refine blk_alloc ?_ _)); refine blk_put (cs := #[.slice A861_0 ((rd_T27 l0 x27_2).f0).length c861_0, .int .i64 ((rd_T27 l0 x27_2).f1.f0), .bool ((rd_T27 l0 x27_2).f1.f1), .slice none 0 0, .slice none 0 0]) ?_ 3 _ rfl; (with_reducible repeat (first | refine blk_drewN ?_ _ | refine blk_drew ?_ | refine blk_alloc ?_ _)); refine blk_put (cs := #[.slice A861_0 ((rd_T27 l0 x27_2).f0).length c861_0, .int .i64 ((rd_T27 l0 x27_2).f1.f0), .bool false, .slice none 0 0, .slice none 0 0]) ?_ 2 _ rfl; (with_reducible repeat (first | refine blk_drewN ?_ _ | refine blk_drew ?_ | refine blk_alloc ?_ _)); refine blk_put (cs := #[.slice A861_0 ((rd_T27 l0 x27_2).f0).length c861_0, .int .i64 0, .bool false, .slice none 0 0, .slice none 0 0]) ?_ 1 _ rfl; (with_reducible repeat (first | refine blk_drewN ?_ _ | refine blk_drew ?_ | refine blk_alloc ?_ _)); refine blk_put (cs := #[.slice none 0 0, .int .i64 0, .bool false, .slice none 0 0, .slice none 0 0]) ?_ 0 _ rfl; (with_reducible repeat (first | refine blk_drewN ?_ _ | refine blk_drew ?_ | refine blk_alloc ?_ _)); exact BK862.out) hb); have n2_ := Aside0.mk (below_step (by repeat (first | (with_reducible first | exact HB.out | apply below_alloc | apply pw_below_drewN | apply below_drew1 | refine below_set ?_ GE862.out) | exact HB.out)) hb); clear BK862; clear HB; have HO865 := n0_; have BK862 := n1_; have HB := n2_; clear n0_ n1_ n2_; (try clear hb); (try clear hb2); (try clear hk); (try clear hi); (try clear ho0); obtain ⟨Ao27, co27, eo27⟩ := Kd.R_slice HO865.out; subst eo27) | (go_at_call 76; (with_reducible refine (impl_equalTones.calls k2 _ _ t863 _ _ l2 true _ ?side1 ?side2 ?side3 ?side4 A22.out).mono ?_); (case side1 => repeat (first | exact (Kd.R_reads' HO865.out).2.2 | (with_reducible refine Kd.C_alloc ?_ _) | (with_reducible refine Kd.C_drewN ?_ _) | (with_reducible refine Kd.C_drew ?_))); (case side2 => exact (Kd.R_reads' HO865.out).2.1); (case side3 => repeat (first | exact (Kd.C_below HR2.out HB.out) | (with_reducible refine Kd.C_alloc ?_ _) | (with_reducible refine Kd.C_drewN ?_ _) | (with_reducible refine Kd.C_drew ?_))); (case side4 => exact HC2.out); rintro e w28 ⟨rfl, hb⟩; have n0_ := Aside0.mk (Kd.R_below (by (with_reducible repeat (first | apply Kd.R_alloc | apply Kd.R_drewN | apply Kd.R_drew)); exact HO865.out) hb); have n1_ := Aside0.mk (blk_below (g := gb862) (o := .cells #[.slice A861_0 ((rd_T27 l0 x27_2).f0).length c861_0, .int .i64 ((rd_T27 l0 x27_2).f1.f0), .bool ((rd_T27 l0 x27_2).f1.f1), .slice A861_3 ((rd_T27 l0 x27_2).f2).length c861_3, .slice A861_4 ((rd_T27 l0 x27_2).f3).length c861_4] 27 (0, 0)) (by (with_reducible repeat (first | refine blk_drewN ?_ _ | refine blk_drew ?_ | refine blk_alloc ?_ _)); exact BK862.out) hb); have n2_ := Aside0.mk (below_step (by repeat (first | (with_reducible first | exact HB.out | apply below_alloc | apply pw_below_drewN | apply below_drew1 | refine below_set ?_ GE862.out) | exact HB.out)) hb); clear HO865; clear BK862; clear HB; have HO865 := n0_; have BK862 := n1_; have HB := n2_; clear n0_ n1_ n2_; (try clear hb); (try clear hb2); (try clear hk); (try clear hi)))
      go_roundg k2
      case measure => have := HJ3.out; have := HK2.out; omega
      case rel => exact ⟨(wrap64 (x7_2 + 1)), (wrap64 (x27_2 + 1)), (by first | rfl | (simp; done) | (simp [*]; done)), (by first | rfl | (simp; done) | (simp [*]; done)), H', ⟨by have := HJ3.out; have := HK2.out; omega⟩, ⟨by repeat (first | (with_reducible first | exact HB.out | apply below_alloc | apply pw_below_drewN | apply below_drew1 | refine below_set ?_ GE862.out) | exact HB.out)⟩⟩
     replace c23 := Bool.eq_false_iff.mpr c23
     subst c23
     have H1 : (impl_PsalmRead.l0 k2 a1 l2 x7_2 l0 (l0.length : Int) (wrap64 (x27_2 + 1))) = some r := by rw [if_neg (show ¬ (false = true) by decide)] at H; exact H
     clear H
     have H := H1
     clear H1
     have H' := Aside0.mk H
     clear H
     have p861 : 0 ≤ (x27_2 : Int) := of_decide_eq_true (by first | (with_reducible assumption) | assumption)
     have q861 : x27_2 < (l0.length : Int) := of_decide_eq_true (by first | (with_reducible assumption) | assumption)
     obtain ⟨ad861, A861_0, c861_0, A861_3, c861_3, A861_4, c861_4, e861, hx861_0, hx861_1, hx861_2, hx861_3, hx861_4, hl861_0, hi861_0, hl861_3, hi861_3, hl861_4, hi861_4⟩ := at_T27 HR0.out x27_2 p861 q861
     cases e861
     replace hx861_0 := (HB.out.cell (World.block_lt_of_cell? w _ hx861_0)).trans hx861_0
     replace hx861_1 := (HB.out.cell (World.block_lt_of_cell? w _ hx861_1)).trans hx861_1
     replace hx861_2 := (HB.out.cell (World.block_lt_of_cell? w _ hx861_2)).trans hx861_2
     replace hx861_3 := (HB.out.cell (World.block_lt_of_cell? w _ hx861_3)).trans hx861_3
     replace hx861_4 := (HB.out.cell (World.block_lt_of_cell? w _ hx861_4)).trans hx861_4
     have HR861_0 := Aside0.mk hi861_0
     have HC861_0 := Aside0.mk hl861_0
     clear hi861_0 hl861_0
     have HR861_3 := Aside0.mk hi861_3
     have HC861_3 := Aside0.mk hl861_3
     clear hi861_3 hl861_3
     have HR861_4 := Aside0.mk hi861_4
     have HC861_4 := Aside0.mk hl861_4
     clear hi861_4 hl861_4
     replace p861 := eq_true p861
     replace q861 := eq_true q861
     go_wp2_with (first | ((with_reducible refine gate_dst (N := 9) rfl ?_); refine box_event ?hg (N := 9) ?hd (cs := #[.slice none 0 0, .int .i64 0, .bool false, .slice none 0 0, .slice none 0 0]) (t := 27) ?hr ?_; (case hd => rfl); (case hg => rfl); (case hr => first | (go_simp; done) | (go_simp; rfl)); intro gb862 hg w29 hbox hb; have n0_ := Aside0.mk (below_step (by repeat (first | (with_reducible first | exact HB.out | apply below_alloc | apply pw_below_drewN | apply below_drew1) | exact HB.out)) hb); have n1_ := Aside0.mk (hbox); have n2_ := Aside0.mk ((by rw [hg]; exact (below_size (by repeat (first | (with_reducible first | exact HB.out | apply below_alloc | apply pw_below_drewN | apply below_drew1) | exact HB.out))) : w.heap.size ≤ gb862)); have n3_ := Aside0.mk ((by rw [hg]; exact (below_size (by repeat (first | (with_reducible first | exact HB.out | apply below_alloc | apply pw_below_drewN | apply below_drew1) | exact HB.out))) : w.heap.size ≤ gb862)); clear HB; have HB := n0_; have BK862 := n1_; have GW862 := n2_; have GE862 := n3_; clear n0_ n1_ n2_ n3_; clear hb hbox hg; have hcz30_0 : w29.cell? ⟨gb862, 0, none⟩ = some (.slice none 0 0) := (blk_cell BK862.out 0).trans rfl; have hcz30_1 : w29.cell? ⟨gb862, 1, none⟩ = some (.int .i64 0) := (blk_cell BK862.out 1).trans rfl; have hcz30_2 : w29.cell? ⟨gb862, 2, none⟩ = some (.bool false) := (blk_cell BK862.out 2).trans rfl; have hcz30_3 : w29.cell? ⟨gb862, 3, none⟩ = some (.slice none 0 0) := (blk_cell BK862.out 3).trans rfl; have hcz30_4 : w29.cell? ⟨gb862, 4, none⟩ = some (.slice none 0 0) := (blk_cell BK862.out 4).trans rfl; have hfz30_0 := blk_frozen BK862.out 0; have hfz30_1 := blk_frozen BK862.out 1; have hfz30_2 := blk_frozen BK862.out 2; have hfz30_3 := blk_frozen BK862.out 3; have hfz30_4 := blk_frozen BK862.out 4) | ((with_reducible refine gate_callee (f := 19) rfl ?_); refine goesL_ (some 34) rfl rfl Tryd.func19 (by kernel_rfl) rfl #[.agg #[.slice A861_0 ((rd_T27 l0 x27_2).f0).length c861_0, .int .i64 ((rd_T27 l0 x27_2).f1.f0), .bool ((rd_T27 l0 x27_2).f1.f1), .slice A861_3 ((rd_T27 l0 x27_2).f2).length c861_3, .slice A861_4 ((rd_T27 l0 x27_2).f3).length c861_4], .string a1] rfl (by (try simp only [List.map_toArray, List.map_cons, List.map_nil]); first | done | rfl | (simp only [List.length_drop, List.length_take]; rfl)) ?_; (with_reducible refine (impl_PsalmSing.calls k2 _ _ ((rd_T27 l0 x27_2).f0) ((rd_T27 l0 x27_2).f1.f0) ((rd_T27 l0 x27_2).f1.f1) _ _ ((rd_T27 l0 x27_2).f2) _ _ ((rd_T27 l0 x27_2).f3) a1 t863 true _ ?side1 ?side2 ?side3 ?side4 ?side5 ?side6 ?side7 A20.out).mono ?_); (case side1 => exact Kd.C_below HR861_0.out (by repeat (first | (with_reducible first | exact HB.out | apply below_alloc | apply pw_below_drewN | apply below_drew1 | refine below_set ?_ GE862.out) | exact HB.out))); (case side2 => exact HC861_0.out); (case side3 => exact Kd.C_below HR861_3.out (by repeat (first | (with_reducible first | exact HB.out | apply below_alloc | apply pw_below_drewN | apply below_drew1 | refine below_set ?_ GE862.out) | exact HB.out))); (case side4 => exact HC861_3.out); (case side5 => exact Kd.C_below HR861_4.out (by repeat (first | (with_reducible first | exact HB.out | apply below_alloc | apply pw_below_drewN | apply below_drew1 | refine below_set ?_ GE862.out) | exact HB.out))); (case side6 => exact HC861_4.out); (case side7 => exact GOk.sub (GOk.below HG.out (by repeat (first | (with_reducible first | exact HB.out | apply below_alloc | apply pw_below_drewN | apply below_drew1 | refine below_set ?_ GE862.out) | exact HB.out))) (by decide)); rintro e w31 ⟨v864, rfl, ho0, hb⟩; refine ⟨_, rfl, ?_⟩; have n0_ := Aside0.mk (Kd.R_lower ho0 (below_size (by repeat (first | (with_reducible first | exact HB.out | apply below_alloc | apply pw_below_drewN | apply below_drew1 | refine below_set ?_ GE862.out) | exact HB.out)))); have n1_ := Aside0.mk (blk_below (g := gb862) (o := .cells #[.slice A861_0 ((rd_T27 l0 x27_2).f0).length c861_0, .int .i64 ((rd_T27 l0 x27_2).f1.f0), .bool ((rd_T27 l0 x27_2).f1.f1), .slice A861_3 ((rd_T27 l0 x27_2).f2).length c861_3, .slice A861_4 ((rd_T27 l0 x27_2).f3).length c861_4] 27 (0, 0)) (by (with_reducible repeat (first | refine blk_drewN ?_ _ | refine blk_drew ?_ | refine blk_alloc ?_ _)); refine blk_put (cs := #[.slice A861_0 ((rd_T27 l0 x27_2).f0).length c861_0, .int .i64 ((rd_T27 l0 x27_2).f1.f0), .bool ((rd_T27 l0 x27_2).f1.f1), .slice A861_3 ((rd_T27 l0 x27_2).f2).length c861_3, .slice none 0 0]) ?_ 4 _ rfl; (with_reducible repeat (first | refine blk_drewN ?_ _ | refine blk_drew ?_ | refine blk_alloc ?_ _)); refine blk_put (cs := #[.slice A861_0 ((rd_T27 l0 x27_2).f0).length c861_0, .int .i64 ((rd_T27 l0 x27_2).f1.f0), .bool ((rd_T27 l0 x27_2).f1.f1), .slice none 0 0, .slice none 0 0]) ?_ 3 _ rfl; (with_reducible repeat (first | refine blk_drewN ?_ _ | refine blk_drew ?_ | refine blk_alloc ?_ _)); refine blk_put (cs := #[.slice A861_0 ((rd_T27 l0 x27_2).f0).length c861_0, .int .i64 ((rd_T27 l0 x27_2).f1.f0), .bool false, .slice none 0 0, .slice none 0 0]) ?_ 2 _ rfl; (with_reducible repeat (first | refine blk_drewN ?_ _ | refine blk_drew ?_ | refine blk_alloc ?_ _)); refine blk_put (cs := #[.slice A861_0 ((rd_T27 l0 x27_2).f0).length c861_0, .int .i64 0, .bool false, .slice none 0 0, .slice none 0 0]) ?_ 1 _ rfl; (with_reducible repeat (first | refine blk_drewN ?_ _ | refine blk_drew ?_ | refine blk_alloc ?_ _)); refine blk_put (cs := #[.slice none 0 0, .int .i64 0, .bool false, .slice none 0 0, .slice none 0 0]) ?_ 0 _ rfl; (with_reducible repeat (first | refine blk_drewN ?_ _ | refine blk_drew ?_ | refine blk_alloc ?_ _)); exact BK862.out) hb); have n2_ := Aside0.mk (below_step (by repeat (first | (with_reducible first | exact HB.out | apply below_alloc | apply pw_below_drewN | apply below_drew1 | refine below_set ?_ GE862.out) | exact HB.out)) hb); clear BK862; clear HB; have HO865 := n0_; have BK862 := n1_; have HB := n2_; clear n0_ n1_ n2_; (try clear hb); (try clear hb2); (try clear hk); (try clear hi); (try clear ho0); obtain ⟨Ao32, co32, eo32⟩ := Kd.R_slice HO865.out; subst eo32) | (go_at_call 76; (with_reducible refine (impl_equalTones.calls k2 _ _ t863 _ _ l2 false _ ?side1 ?side2 ?side3 ?side4 A22.out).mono ?_); (case side1 => repeat (first | exact (Kd.R_reads' HO865.out).2.2 | (with_reducible refine Kd.C_alloc ?_ _) | (with_reducible refine Kd.C_drewN ?_ _) | (with_reducible refine Kd.C_drew ?_))); (case side2 => exact (Kd.R_reads' HO865.out).2.1); (case side3 => repeat (first | exact (Kd.C_below HR2.out HB.out) | (with_reducible refine Kd.C_alloc ?_ _) | (with_reducible refine Kd.C_drewN ?_ _) | (with_reducible refine Kd.C_drew ?_))); (case side4 => exact HC2.out); rintro e w33 ⟨rfl, hb⟩; have n0_ := Aside0.mk (Kd.R_below (by (with_reducible repeat (first | apply Kd.R_alloc | apply Kd.R_drewN | apply Kd.R_drew)); exact HO865.out) hb); have n1_ := Aside0.mk (blk_below (g := gb862) (o := .cells #[.slice A861_0 ((rd_T27 l0 x27_2).f0).length c861_0, .int .i64 ((rd_T27 l0 x27_2).f1.f0), .bool ((rd_T27 l0 x27_2).f1.f1), .slice A861_3 ((rd_T27 l0 x27_2).f2).length c861_3, .slice A861_4 ((rd_T27 l0 x27_2).f3).length c861_4] 27 (0, 0)) (by (with_reducible repeat (first | refine blk_drewN ?_ _ | refine blk_drew ?_ | refine blk_alloc ?_ _)); exact BK862.out) hb); have n2_ := Aside0.mk (below_step (by repeat (first | (with_reducible first | exact HB.out | apply below_alloc | apply pw_below_drewN | apply below_drew1 | refine below_set ?_ GE862.out) | exact HB.out)) hb); clear HO865; clear BK862; clear HB; have HO865 := n0_; have BK862 := n1_; have HB := n2_; clear n0_ n1_ n2_; (try clear hb); (try clear hb2); (try clear hk); (try clear hi)))
     go_roundg k2
     case measure => have := HJ3.out; have := HK2.out; omega
     case rel => exact ⟨(x7_2), (wrap64 (x27_2 + 1)), (by first | rfl | (simp; done) | (simp [*]; done)), (by first | rfl | (simp; done) | (simp [*]; done)), H', ⟨by have := HJ3.out; have := HK2.out; omega⟩, ⟨by repeat (first | (with_reducible first | exact HB.out | apply below_alloc | apply pw_below_drewN | apply below_drew1 | refine below_set ?_ GE862.out) | exact HB.out)⟩⟩
end Go.Proofs.YtdgmkfbmeaalpaaDoor.E
end
section
namespace Go.Proofs.YtdgmkfbmeaalpaaDoor.E
open Go.RowKit Go.Proofs.YtdgmkfbmeaalpaaDoorW.PrintWords Go.Proofs.YtdgmkfbmeaalpaaDoorW.PrintLast Go.Proofs.YtdgmkfbmeaalpaaDoorW.PrintMore
attribute [local go_sem] max2_int min2_int max_two min_two max_three min_three max_four min_four
set_option linter.unusedVariables false
set_option linter.unusedSimpArgs false
attribute [local go_sem] str_leq_ str_gtr_ str_geq_
def spec_l4All.l0 : Nat → List (S27) → Int → Option (Bool)
 | 0, _, _ => none
 | k + 1, x0, x3 => if x3 < (x0.length : Int) then (if 0 ≤ x3 then ((spec_PsalmValid.f k ((rd_T27 x0 x3).f0) ((rd_T27 x0 x3).f1.f0) ((rd_T27 x0 x3).f1.f1) ((rd_T27 x0 x3).f2) ((rd_T27 x0 x3).f3)).bind fun t780 => (if t780 = true then (spec_l4All.l0 k x0 (wrap64 (x3 + 1))) else (some false))) else (none)) else (some true)
def spec_l4All.f (k : Nat) (l0 : List (S27)) : Option (Bool) := spec_l4All.l0 k l0 0
set_option maxHeartbeats 8000000 in
set_option maxRecDepth 100000 in
theorem spec_l4All.calls (k : Nat) (A0 : Option Addr) (c0 : Nat) (l0 : List (S27)) (r : Bool) (w : World) (hr0 : Kd.C k27 w A0 l0.length l0) (hc0 : l0.length ≤ c0) (h : spec_l4All.f k l0 = some r) :
  Calls Tryd.prog 72 #[.slice A0 l0.length c0] w fun e w' => e = .returned (.bool r) ∧ Below w.heap.size w w' := by
 have hu27 := Tryd.underlying27
 have HR0 := Aside0.mk hr0
 have HC0 := Aside0.mk hc0
 clear hr0 hc0
 have HB := Aside0.mk (Below.refl w.heap.size w)
 have H : (spec_l4All.l0 k l0 0) = some r := h
 clear h
 have H' := Aside0.mk H
 clear H
 go_enter Tryd.func72, Tryd.ntmps72
 go_wp2
 go_loopg [3] k (fun kq v3 w' => ∃ (x3_1 : Int), v3 = .int .i64 x3_1 ∧ Aside0 (spec_l4All.l0 kq l0 x3_1 = some r) ∧ Aside0 (kq ≤ k) ∧ Aside0 (Below w.heap.size w w'))
 case atStart => exact ⟨(0), (by first | rfl | (simp; done) | (simp [*]; done)), H', ⟨Nat.le_refl _⟩, ⟨by repeat (first | (with_reducible first | exact HB.out | apply below_alloc | apply pw_below_drewN | apply below_drew1) | exact HB.out)⟩⟩
 case round =>
  clear H'
  obtain ⟨x3_1, rfl, HA, HK1, HB⟩ := hrel
  cases gk with
  | zero => exact absurd HA.out (by simp [spec_l4All.l0])
  | succ k1 =>
   have H := HA.out
   clear HA
   simp only [spec_l4All.l0] at H
   by_cases c2 : x3_1 < (l0.length : Int)
   rotate_left
   ·rw [if_neg c2] at H
    have c2b0 : decide (x3_1 < (l0.length : Int)) = false := decide_eq_false c2
    clear c2
    obtain rfl := Option.some.inj H
    go_wp2
    go_ret
    exact ⟨by first | rfl | (simp [errW_none, errW_some] <;> rfl) | (simp [*, errW_none, errW_some] <;> rfl), by repeat (first | (with_reducible first | exact HB.out | apply below_alloc | apply pw_below_drewN | apply below_drew1) | exact HB.out)⟩
   rw [if_pos c2] at H
   have c2b0 : decide (x3_1 < (l0.length : Int)) = true := decide_eq_true c2
   clear c2
   by_cases c3 : 0 ≤ x3_1
   rotate_left
   ·rw [if_neg c3] at H
    exact absurd H (by simp)
   rw [if_pos c3] at H
   have c3b0 : decide (0 ≤ x3_1) = true := decide_eq_true c3
   clear c3
   replace H := Option.bind_eq_some_iff.mp H
   obtain ⟨t780, A40, H⟩ := H
   replace H : (if t780 = true then (spec_l4All.l0 k1 l0 (wrap64 (x3_1 + 1))) else (some false)) = some r := H
   have A4 := Aside0.mk A40
   clear A40
   by_cases c5 : t780 = true
   rotate_left
   ·replace c5 := Bool.eq_false_iff.mpr c5
    subst c5
    have H1 : (some false) = some r := by rw [if_neg (show ¬ (false = true) by decide)] at H; exact H
    clear H
    have H := H1
    clear H1
    obtain rfl := Option.some.inj H
    have p779 : 0 ≤ (x3_1 : Int) := of_decide_eq_true (by first | (with_reducible assumption) | assumption)
    have q779 : x3_1 < (l0.length : Int) := of_decide_eq_true (by first | (with_reducible assumption) | assumption)
    obtain ⟨ad779, A779_0, c779_0, A779_3, c779_3, A779_4, c779_4, e779, hx779_0, hx779_1, hx779_2, hx779_3, hx779_4, hl779_0, hi779_0, hl779_3, hi779_3, hl779_4, hi779_4⟩ := at_T27 HR0.out x3_1 p779 q779
    cases e779
    replace hx779_0 := (HB.out.cell (World.block_lt_of_cell? w _ hx779_0)).trans hx779_0
    replace hx779_1 := (HB.out.cell (World.block_lt_of_cell? w _ hx779_1)).trans hx779_1
    replace hx779_2 := (HB.out.cell (World.block_lt_of_cell? w _ hx779_2)).trans hx779_2
    replace hx779_3 := (HB.out.cell (World.block_lt_of_cell? w _ hx779_3)).trans hx779_3
    replace hx779_4 := (HB.out.cell (World.block_lt_of_cell? w _ hx779_4)).trans hx779_4
    have HR779_0 := Aside0.mk hi779_0
    have HC779_0 := Aside0.mk hl779_0
    clear hi779_0 hl779_0
    have HR779_3 := Aside0.mk hi779_3
    have HC779_3 := Aside0.mk hl779_3
    clear hi779_3 hl779_3
    have HR779_4 := Aside0.mk hi779_4
    have HC779_4 := Aside0.mk hl779_4
    clear hi779_4 hl779_4
    replace p779 := eq_true p779
    replace q779 := eq_true q779
    go_wp2_with (first | ((with_reducible refine gate_callee (f := 60) rfl ?_); refine goesL_ (some 14) rfl rfl Tryd.func60 (by kernel_rfl) rfl #[.agg #[.slice A779_0 ((rd_T27 l0 x3_1).f0).length c779_0, .int .i64 ((rd_T27 l0 x3_1).f1.f0), .bool ((rd_T27 l0 x3_1).f1.f1), .slice A779_3 ((rd_T27 l0 x3_1).f2).length c779_3, .slice A779_4 ((rd_T27 l0 x3_1).f3).length c779_4]] rfl (by (try simp only [List.map_toArray, List.map_cons, List.map_nil]); first | done | rfl | (simp only [List.length_drop, List.length_take]; rfl)) ?_; (with_reducible refine (spec_PsalmValid.calls k1 _ _ ((rd_T27 l0 x3_1).f0) ((rd_T27 l0 x3_1).f1.f0) ((rd_T27 l0 x3_1).f1.f1) _ _ ((rd_T27 l0 x3_1).f2) _ _ ((rd_T27 l0 x3_1).f3) false _ ?side1 ?side2 ?side3 ?side4 ?side5 ?side6 A4.out).mono ?_); (case side1 => repeat (first | exact (Kd.C_below HR779_0.out HB.out) | (with_reducible refine Kd.C_alloc ?_ _) | (with_reducible refine Kd.C_drewN ?_ _) | (with_reducible refine Kd.C_drew ?_))); (case side2 => exact HC779_0.out); (case side3 => repeat (first | exact (Kd.C_below HR779_3.out HB.out) | (with_reducible refine Kd.C_alloc ?_ _) | (with_reducible refine Kd.C_drewN ?_ _) | (with_reducible refine Kd.C_drew ?_))); (case side4 => exact HC779_3.out); (case side5 => repeat (first | exact (Kd.C_below HR779_4.out HB.out) | (with_reducible refine Kd.C_alloc ?_ _) | (with_reducible refine Kd.C_drewN ?_ _) | (with_reducible refine Kd.C_drew ?_))); (case side6 => exact HC779_4.out); rintro e w7 ⟨rfl, hb⟩; refine ⟨_, rfl, ?_⟩; have n0_ := Aside0.mk (below_step (by repeat (first | (with_reducible first | exact HB.out | apply below_alloc | apply pw_below_drewN | apply below_drew1) | exact HB.out)) hb); clear HB; have HB := n0_; clear n0_; (try clear hb); (try clear hb2); (try clear hk); (try clear hi)))
    go_ret
    exact ⟨by first | rfl | (simp [errW_none, errW_some] <;> rfl) | (simp [*, errW_none, errW_some] <;> rfl), by repeat (first | (with_reducible first | exact HB.out | apply below_alloc | apply pw_below_drewN | apply below_drew1) | exact HB.out)⟩
   subst c5
   have H1 : (spec_l4All.l0 k1 l0 (wrap64 (x3_1 + 1))) = some r := by rw [if_pos rfl] at H; exact H
   clear H
   have H := H1
   clear H1
   have H' := Aside0.mk H
   clear H
   have p779 : 0 ≤ (x3_1 : Int) := of_decide_eq_true (by first | (with_reducible assumption) | assumption)
   have q779 : x3_1 < (l0.length : Int) := of_decide_eq_true (by first | (with_reducible assumption) | assumption)
   obtain ⟨ad779, A779_0, c779_0, A779_3, c779_3, A779_4, c779_4, e779, hx779_0, hx779_1, hx779_2, hx779_3, hx779_4, hl779_0, hi779_0, hl779_3, hi779_3, hl779_4, hi779_4⟩ := at_T27 HR0.out x3_1 p779 q779
   cases e779
   replace hx779_0 := (HB.out.cell (World.block_lt_of_cell? w _ hx779_0)).trans hx779_0
   replace hx779_1 := (HB.out.cell (World.block_lt_of_cell? w _ hx779_1)).trans hx779_1
   replace hx779_2 := (HB.out.cell (World.block_lt_of_cell? w _ hx779_2)).trans hx779_2
   replace hx779_3 := (HB.out.cell (World.block_lt_of_cell? w _ hx779_3)).trans hx779_3
   replace hx779_4 := (HB.out.cell (World.block_lt_of_cell? w _ hx779_4)).trans hx779_4
   have HR779_0 := Aside0.mk hi779_0
   have HC779_0 := Aside0.mk hl779_0
   clear hi779_0 hl779_0
   have HR779_3 := Aside0.mk hi779_3
   have HC779_3 := Aside0.mk hl779_3
   clear hi779_3 hl779_3
   have HR779_4 := Aside0.mk hi779_4
   have HC779_4 := Aside0.mk hl779_4
   clear hi779_4 hl779_4
   replace p779 := eq_true p779
   replace q779 := eq_true q779
   go_wp2_with (first | ((with_reducible refine gate_callee (f := 60) rfl ?_); refine goesL_ (some 14) rfl rfl Tryd.func60 (by kernel_rfl) rfl #[.agg #[.slice A779_0 ((rd_T27 l0 x3_1).f0).length c779_0, .int .i64 ((rd_T27 l0 x3_1).f1.f0), .bool ((rd_T27 l0 x3_1).f1.f1), .slice A779_3 ((rd_T27 l0 x3_1).f2).length c779_3, .slice A779_4 ((rd_T27 l0 x3_1).f3).length c779_4]] rfl (by (try simp only [List.map_toArray, List.map_cons, List.map_nil]); first | done | rfl | (simp only [List.length_drop, List.length_take]; rfl)) ?_; (with_reducible refine (spec_PsalmValid.calls k1 _ _ ((rd_T27 l0 x3_1).f0) ((rd_T27 l0 x3_1).f1.f0) ((rd_T27 l0 x3_1).f1.f1) _ _ ((rd_T27 l0 x3_1).f2) _ _ ((rd_T27 l0 x3_1).f3) true _ ?side1 ?side2 ?side3 ?side4 ?side5 ?side6 A4.out).mono ?_); (case side1 => repeat (first | exact (Kd.C_below HR779_0.out HB.out) | (with_reducible refine Kd.C_alloc ?_ _) | (with_reducible refine Kd.C_drewN ?_ _) | (with_reducible refine Kd.C_drew ?_))); (case side2 => exact HC779_0.out); (case side3 => repeat (first | exact (Kd.C_below HR779_3.out HB.out) | (with_reducible refine Kd.C_alloc ?_ _) | (with_reducible refine Kd.C_drewN ?_ _) | (with_reducible refine Kd.C_drew ?_))); (case side4 => exact HC779_3.out); (case side5 => repeat (first | exact (Kd.C_below HR779_4.out HB.out) | (with_reducible refine Kd.C_alloc ?_ _) | (with_reducible refine Kd.C_drewN ?_ _) | (with_reducible refine Kd.C_drew ?_))); (case side6 => exact HC779_4.out); rintro e w6 ⟨rfl, hb⟩; refine ⟨_, rfl, ?_⟩; have n0_ := Aside0.mk (below_step (by repeat (first | (with_reducible first | exact HB.out | apply below_alloc | apply pw_below_drewN | apply below_drew1) | exact HB.out)) hb); clear HB; have HB := n0_; clear n0_; (try clear hb); (try clear hb2); (try clear hk); (try clear hi)))
   go_roundg k1
   case measure => have := HK1.out; omega
   case rel => exact ⟨(wrap64 (x3_1 + 1)), (by first | rfl | (simp; done) | (simp [*]; done)), H', ⟨by have := HK1.out; omega⟩, ⟨by repeat (first | (with_reducible first | exact HB.out | apply below_alloc | apply pw_below_drewN | apply below_drew1) | exact HB.out)⟩⟩
end Go.Proofs.YtdgmkfbmeaalpaaDoor.E
end
section
namespace Go.Proofs.YtdgmkfbmeaalpaaDoor.E
open Go.RowKit Go.Proofs.YtdgmkfbmeaalpaaDoorW.PrintWords Go.Proofs.YtdgmkfbmeaalpaaDoorW.PrintLast Go.Proofs.YtdgmkfbmeaalpaaDoorW.PrintMore
attribute [local go_sem] max2_int min2_int max_two min_two max_three min_three max_four min_four
set_option linter.unusedVariables false
set_option linter.unusedSimpArgs false
attribute [local go_sem high] eqA25
attribute [local go_sem] str_leq_ str_gtr_ str_geq_
def spec_l4Equal.l0 : Nat → List (S25) → List (S25) → Int → Option (Bool)
 | 0, _, _, _ => none
 | k + 1, x0, x1, x5 => if x5 < (x0.length : Int) then (if 0 ≤ x5 then (if x5 < (x1.length : Int) then (if (!(((rd_T25 x0 x5).f0) == ((rd_T25 x1 x5).f0)) || (!(((rd_T25 x0 x5).f1) == ((rd_T25 x1 x5).f1)))) = true then (some false) else (spec_l4Equal.l0 k x0 x1 (wrap64 (x5 + 1)))) else (none)) else (none)) else (some true)
def spec_l4Equal.f (k : Nat) (l0 : List (S25)) (l1 : List (S25)) : Option (Bool) := if (l0.length : Int) = (l1.length : Int) then (spec_l4Equal.l0 k l0 l1 0) else (some false)
set_option maxHeartbeats 8000000 in
set_option maxRecDepth 100000 in
theorem spec_l4Equal.calls (k : Nat) (A0 : Option Addr) (c0 : Nat) (l0 : List (S25)) (A1 : Option Addr) (c1 : Nat) (l1 : List (S25)) (r : Bool) (w : World) (hr0 : Kd.C k25 w A0 l0.length l0) (hc0 : l0.length ≤ c0) (hr1 : Kd.C k25 w A1 l1.length l1) (hc1 : l1.length ≤ c1) (h : spec_l4Equal.f k l0 l1 = some r) :
  Calls Tryd.prog 78 #[.slice A0 l0.length c0, .slice A1 l1.length c1] w fun e w' => e = .returned (.bool r) ∧ Drawn0 w w' := by
 have hu25 := Tryd.underlying25
 have HR0 := Aside0.mk hr0
 have HC0 := Aside0.mk hc0
 clear hr0 hc0
 have HR1 := Aside0.mk hr1
 have HC1 := Aside0.mk hc1
 clear hr1 hc1
 have H : (if (l0.length : Int) = (l1.length : Int) then (spec_l4Equal.l0 k l0 l1 0) else (some false)) = some r := h
 clear h
 by_cases c3 : (l0.length : Int) = (l1.length : Int)
 rotate_left
 ·rw [if_neg c3] at H
  have c3b0 : ((l0.length : Int) == (l1.length : Int)) = false := beq_eq_false_iff_ne.mpr c3
  have c3b1 : ((l0.length : Int) != (l1.length : Int)) = true := bne_iff_ne.mpr c3
  have c3b2 : (l0.length == l1.length) = false := by first | simpa using c3 | (simp at c3 ⊢; omega)
  obtain rfl := Option.some.inj H
  go_enter Tryd.func78, Tryd.ntmps78
  go_wp2
  repeat (go_quiet (fail); try go_wp2)
  go_ret
  exact ⟨by first | rfl | (simp; done) | (simp [*]; done), by repeat (first | exact Drawn0.refl _ | apply Drawn0.step)⟩
 rw [if_pos c3] at H
 have c3b0 : ((l0.length : Int) == (l1.length : Int)) = true := beq_iff_eq.mpr c3
 have c3b1 : ((l0.length : Int) != (l1.length : Int)) = false := bne_eq_false_iff_eq.mpr c3
 have c3b2 : (l0.length == l1.length) = true := by first | simpa using c3 | (simp at c3 ⊢; omega)
 clear c3
 have H' := Aside0.mk H
 clear H
 go_enter Tryd.func78, Tryd.ntmps78
 go_wp2
 repeat (go_quiet (fail); try go_wp2)
 go_loopg [5] k (fun kq v5 w' => ∃ (x5_1 : Int), v5 = .int .i64 x5_1 ∧ Aside0 (spec_l4Equal.l0 kq l0 l1 x5_1 = some r) ∧ Aside0 (kq ≤ k) ∧ Drawn0 w w')
 case atStart => exact ⟨(0), (by first | rfl | (simp; done) | (simp [*]; done)), H', ⟨Nat.le_refl _⟩, by repeat (first | exact Drawn0.refl _ | apply Drawn0.step)⟩
 case round =>
  clear H'
  try clear c1
  try clear p2
  try clear c3
  try clear c3b0
  try clear c3b1
  try clear c3b2
  obtain ⟨x5_1, rfl, HA, HK1, ⟨m1, rfl⟩⟩ := hrel
  cases gk with
  | zero => exact absurd HA.out (by simp [spec_l4Equal.l0])
  | succ k1 =>
   have H := HA.out
   clear HA
   simp only [spec_l4Equal.l0] at H
   by_cases c4 : x5_1 < (l0.length : Int)
   rotate_left
   ·rw [if_neg c4] at H
    have c4b0 : decide (x5_1 < (l0.length : Int)) = false := decide_eq_false c4
    clear c4
    obtain rfl := Option.some.inj H
    go_wp2
    repeat (go_quiet (fail); try go_wp2)
    go_ret
    exact ⟨by first | rfl | (simp; done) | (simp [*]; done), by repeat (first | exact Drawn0.refl _ | apply Drawn0.step)⟩
   rw [if_pos c4] at H
   have c4b0 : decide (x5_1 < (l0.length : Int)) = true := decide_eq_true c4
   clear c4
   by_cases c5 : 0 ≤ x5_1
   rotate_left
   ·rw [if_neg c5] at H
    exact absurd H (by simp)
   rw [if_pos c5] at H
   have c5b0 : decide (0 ≤ x5_1) = true := decide_eq_true c5
   clear c5
   by_cases c6 : x5_1 < (l1.length : Int)
   rotate_left
   ·rw [if_neg c6] at H
    exact absurd H (by simp)
   rw [if_pos c6] at H
   have c6b0 : decide (x5_1 < (l1.length : Int)) = true := decide_eq_true c6
   clear c6
   by_cases c7 : (!(((rd_T25 l0 x5_1).f0) == ((rd_T25 l1 x5_1).f0)) || (!(((rd_T25 l0 x5_1).f1) == ((rd_T25 l1 x5_1).f1)))) = true
   ·rw [if_pos c7] at H
    have c7b0 : (!(((rd_T25 l0 x5_1).f0) == ((rd_T25 l1 x5_1).f0)) || (!(((rd_T25 l0 x5_1).f1) == ((rd_T25 l1 x5_1).f1)))) = true := c7
    clear c7
    obtain rfl := Option.some.inj H
    have p868 : 0 ≤ (x5_1 : Int) := of_decide_eq_true (by first | (with_reducible assumption) | assumption)
    have q868 : x5_1 < (l0.length : Int) := of_decide_eq_true (by first | (with_reducible assumption) | assumption)
    obtain ⟨ad868, e868, hx868_0, hx868_1⟩ := at_T25 HR0.out x5_1 p868 q868
    cases e868
    replace p868 := eq_true p868
    replace q868 := eq_true q868
    have p869 : 0 ≤ (x5_1 : Int) := of_decide_eq_true (by first | (with_reducible assumption) | assumption)
    have q869 : x5_1 < (l1.length : Int) := of_decide_eq_true (by first | (with_reducible assumption) | assumption)
    obtain ⟨ad869, e869, hx869_0, hx869_1⟩ := at_T25 HR1.out x5_1 p869 q869
    cases e869
    replace p869 := eq_true p869
    replace q869 := eq_true q869
    go_wp2
    repeat (go_quiet (fail); try go_wp2)
    go_ret
    exact ⟨by first | rfl | (simp; done) | (simp [*]; done), by repeat (first | exact Drawn0.refl _ | apply Drawn0.step)⟩
   rw [if_neg c7] at H
   have c7b0 : (!(((rd_T25 l0 x5_1).f0) == ((rd_T25 l1 x5_1).f0)) || (!(((rd_T25 l0 x5_1).f1) == ((rd_T25 l1 x5_1).f1)))) = false := by simpa using c7
   clear c7
   have H' := Aside0.mk H
   clear H
   have p868 : 0 ≤ (x5_1 : Int) := of_decide_eq_true (by first | (with_reducible assumption) | assumption)
   have q868 : x5_1 < (l0.length : Int) := of_decide_eq_true (by first | (with_reducible assumption) | assumption)
   obtain ⟨ad868, e868, hx868_0, hx868_1⟩ := at_T25 HR0.out x5_1 p868 q868
   cases e868
   replace p868 := eq_true p868
   replace q868 := eq_true q868
   have p869 : 0 ≤ (x5_1 : Int) := of_decide_eq_true (by first | (with_reducible assumption) | assumption)
   have q869 : x5_1 < (l1.length : Int) := of_decide_eq_true (by first | (with_reducible assumption) | assumption)
   obtain ⟨ad869, e869, hx869_0, hx869_1⟩ := at_T25 HR1.out x5_1 p869 q869
   cases e869
   replace p869 := eq_true p869
   replace q869 := eq_true q869
   go_wp2
   repeat (go_quiet (fail); try go_wp2)
   go_roundg k1
   case measure => have := HK1.out; omega
   case rel => exact ⟨(wrap64 (x5_1 + 1)), (by first | rfl | (simp; done) | (simp [*]; done)), H', ⟨by have := HK1.out; omega⟩, by repeat (first | exact Drawn0.refl _ | apply Drawn0.step)⟩
end Go.Proofs.YtdgmkfbmeaalpaaDoor.E
end
section
namespace Go.Proofs.YtdgmkfbmeaalpaaDoor.E
open Go.RowKit Go.Proofs.YtdgmkfbmeaalpaaDoorW.PrintWords Go.Proofs.YtdgmkfbmeaalpaaDoorW.PrintLast Go.Proofs.YtdgmkfbmeaalpaaDoorW.PrintMore
attribute [local go_sem] max2_int min2_int max_two min_two max_three min_three max_four min_four
set_option linter.unusedVariables false
set_option linter.unusedSimpArgs false
attribute [local go_sem] str_leq_ str_gtr_ str_geq_
mutual
def spec_PsalmRead.j0 : Nat → List (S27) → ByteArray → List (S25) → Bool → Option (Int)
 | 0, _, _, _, _ => none
 | k + 1, x0, x1, x2, x23 => if x23 = true then (some (-1)) else (spec_PsalmRead.l0 k x0 x1 x2 0 0)
def spec_PsalmRead.l0 : Nat → List (S27) → ByteArray → List (S25) → Int → Int → Option (Int)
 | 0, _, _, _, _, _ => none
 | k + 1, x0, x1, x2, x7, x8 => if x8 < (x0.length : Int) then (if 0 ≤ x8 then ((spec_PsalmSing.f k ((rd_T27 x0 x8).f0) ((rd_T27 x0 x8).f1.f0) ((rd_T27 x0 x8).f1.f1) ((rd_T27 x0 x8).f2) ((rd_T27 x0 x8).f3) x1).bind fun bt874 => (if bt874.2 = true then ((spec_l4Equal.f k bt874.1 x2).bind fun t878 => (if t878 = true then (spec_PsalmRead.l0 k x0 x1 x2 (wrap64 (x7 + 1)) (wrap64 (x8 + 1))) else (spec_PsalmRead.l0 k x0 x1 x2 x7 (wrap64 (x8 + 1))))) else (spec_PsalmRead.l0 k x0 x1 x2 x7 (wrap64 (x8 + 1))))) else (none)) else (some x7)
end
def spec_PsalmRead.f (k : Nat) (l0 : List (S27)) (a1 : ByteArray) (l2 : List (S25)) : Option (Int) := (spec_l4All.f k l0).bind fun t870 => (if t870 = true then ((spec_VerseValid.f k a1).bind fun t871 => (if t871 = true then ((spec_MelodyValid.f k l2).bind fun t872 => (spec_PsalmRead.j0 k l0 a1 l2 (!t872))) else (spec_PsalmRead.j0 k l0 a1 l2 true))) else (spec_PsalmRead.j0 k l0 a1 l2 true))
set_option maxHeartbeats 8000000 in
set_option maxRecDepth 100000 in
theorem spec_PsalmRead.calls (k : Nat) (A0 : Option Addr) (c0 : Nat) (l0 : List (S27)) (a1 : ByteArray) (A2 : Option Addr) (c2 : Nat) (l2 : List (S25)) (r : Int) (w : World) (hr0 : Kd.C k27 w A0 l0.length l0) (hc0 : l0.length ≤ c0) (hr2 : Kd.C k25 w A2 l2.length l2) (hc2 : l2.length ≤ c2) (h : spec_PsalmRead.f k l0 a1 l2 = some r) :
  Calls Tryd.prog 45 #[.slice A0 l0.length c0, .string a1, .slice A2 l2.length c2] w fun e w' => e = .returned (.int .i64 r) ∧ Below w.heap.size w w' := by
 have hu27 := Tryd.underlying27
 have HR0 := Aside0.mk hr0
 have HC0 := Aside0.mk hc0
 clear hr0 hc0
 have HR2 := Aside0.mk hr2
 have HC2 := Aside0.mk hc2
 clear hr2 hc2
 have HB := Aside0.mk (Below.refl w.heap.size w)
 have H : ((spec_l4All.f k l0).bind fun t870 => (if t870 = true then ((spec_VerseValid.f k a1).bind fun t871 => (if t871 = true then ((spec_MelodyValid.f k l2).bind fun t872 => (spec_PsalmRead.j0 k l0 a1 l2 (!t872))) else (spec_PsalmRead.j0 k l0 a1 l2 true))) else (spec_PsalmRead.j0 k l0 a1 l2 true))) = some r := h
 clear h
 have HC4 := Aside0.mk H
 clear H
 go_enter Tryd.func45, Tryd.ntmps45
 go_upto_region 1 with (fail)
 go_cut [23] (fun v23 wc => ∃ (kq : Nat) (x23_3 : Bool), v23 = .bool x23_3 ∧ Aside0 (spec_PsalmRead.j0 kq l0 a1 l2 x23_3 = some r) ∧ Aside0 (kq ≤ k) ∧ Aside0 (Below w.heap.size w wc))
 case first =>
  have H := HC4.out
  clear HC4
  replace H := Option.bind_eq_some_iff.mp H
  obtain ⟨t870, A50, H⟩ := H
  replace H : (if t870 = true then ((spec_VerseValid.f k a1).bind fun t871 => (if t871 = true then ((spec_MelodyValid.f k l2).bind fun t872 => (spec_PsalmRead.j0 k l0 a1 l2 (!t872))) else (spec_PsalmRead.j0 k l0 a1 l2 true))) else (spec_PsalmRead.j0 k l0 a1 l2 true)) = some r := H
  have A5 := Aside0.mk A50
  clear A50
  by_cases c6 : t870 = true
  rotate_left
  ·replace c6 := Bool.eq_false_iff.mpr c6
   subst c6
   have H1 : (spec_PsalmRead.j0 k l0 a1 l2 true) = some r := by rw [if_neg (show ¬ (false = true) by decide)] at H; exact H
   clear H
   have H := H1
   clear H1
   have H' := Aside0.mk H
   clear H
   go_wp2_with (first | ((with_reducible refine gate_callee (f := 72) rfl ?_); refine goesL_ (some 12) rfl rfl Tryd.func72 (by kernel_rfl) rfl #[.slice A0 l0.length c0] rfl (by (try simp only [List.map_toArray, List.map_cons, List.map_nil]); first | done | rfl | (simp only [List.length_drop, List.length_take]; rfl)) ?_; (with_reducible refine (spec_l4All.calls k _ _ l0 false _ ?side1 ?side2 A5.out).mono ?_); (case side1 => repeat (first | exact (Kd.C_below HR0.out HB.out) | (with_reducible refine Kd.C_alloc ?_ _) | (with_reducible refine Kd.C_drewN ?_ _) | (with_reducible refine Kd.C_drew ?_))); (case side2 => exact HC0.out); rintro e w13 ⟨rfl, hb⟩; refine ⟨_, rfl, ?_⟩; have n0_ := Aside0.mk (below_step (by repeat (first | (with_reducible first | exact HB.out | apply below_alloc | apply pw_below_drewN | apply below_drew1) | exact HB.out)) hb); clear HB; have HB := n0_; clear n0_; (try clear hb); (try clear hb2); (try clear hk); (try clear hi)))
   go_meet
   case rel => exact ⟨_, (true), (by first | rfl | (simp; done) | (simp [*]; done)), H', ⟨by first | omega | exact Nat.le_refl _⟩, ⟨by repeat (first | (with_reducible first | exact HB.out | apply below_alloc | apply pw_below_drewN | apply below_drew1) | exact HB.out)⟩⟩
  subst c6
  have H1 : ((spec_VerseValid.f k a1).bind fun t871 => (if t871 = true then ((spec_MelodyValid.f k l2).bind fun t872 => (spec_PsalmRead.j0 k l0 a1 l2 (!t872))) else (spec_PsalmRead.j0 k l0 a1 l2 true))) = some r := by rw [if_pos rfl] at H; exact H
  clear H
  have H := H1
  clear H1
  replace H := Option.bind_eq_some_iff.mp H
  obtain ⟨t871, A70, H⟩ := H
  replace H : (if t871 = true then ((spec_MelodyValid.f k l2).bind fun t872 => (spec_PsalmRead.j0 k l0 a1 l2 (!t872))) else (spec_PsalmRead.j0 k l0 a1 l2 true)) = some r := H
  have A7 := Aside0.mk A70
  clear A70
  by_cases c8 : t871 = true
  rotate_left
  ·replace c8 := Bool.eq_false_iff.mpr c8
   subst c8
   have H1 : (spec_PsalmRead.j0 k l0 a1 l2 true) = some r := by rw [if_neg (show ¬ (false = true) by decide)] at H; exact H
   clear H
   have H := H1
   clear H1
   have H' := Aside0.mk H
   clear H
   go_wp2_with (first | ((with_reducible refine gate_callee (f := 72) rfl ?_); refine goesL_ (some 12) rfl rfl Tryd.func72 (by kernel_rfl) rfl #[.slice A0 l0.length c0] rfl (by (try simp only [List.map_toArray, List.map_cons, List.map_nil]); first | done | rfl | (simp only [List.length_drop, List.length_take]; rfl)) ?_; (with_reducible refine (spec_l4All.calls k _ _ l0 true _ ?side1 ?side2 A5.out).mono ?_); (case side1 => repeat (first | exact (Kd.C_below HR0.out HB.out) | (with_reducible refine Kd.C_alloc ?_ _) | (with_reducible refine Kd.C_drewN ?_ _) | (with_reducible refine Kd.C_drew ?_))); (case side2 => exact HC0.out); rintro e w12 ⟨rfl, hb⟩; refine ⟨_, rfl, ?_⟩; have n0_ := Aside0.mk (below_step (by repeat (first | (with_reducible first | exact HB.out | apply below_alloc | apply pw_below_drewN | apply below_drew1) | exact HB.out)) hb); clear HB; have HB := n0_; clear n0_; (try clear hb); (try clear hb2); (try clear hk); (try clear hi)) | (go_at_call 61; (with_reducible refine (spec_VerseValid.calls k a1 false _ A7.out).mono ?_); rintro e w' ⟨rfl, ⟨nd, rfl⟩⟩))
   go_meet
   case rel => exact ⟨_, (true), (by first | rfl | (simp; done) | (simp [*]; done)), H', ⟨by first | omega | exact Nat.le_refl _⟩, ⟨by repeat (first | (with_reducible first | exact HB.out | apply below_alloc | apply pw_below_drewN | apply below_drew1) | exact HB.out)⟩⟩
  subst c8
  have H1 : ((spec_MelodyValid.f k l2).bind fun t872 => (spec_PsalmRead.j0 k l0 a1 l2 (!t872))) = some r := by rw [if_pos rfl] at H; exact H
  clear H
  have H := H1
  clear H1
  replace H := Option.bind_eq_some_iff.mp H
  obtain ⟨t872, A90, H⟩ := H
  replace H : (spec_PsalmRead.j0 k l0 a1 l2 (!t872)) = some r := H
  have A9 := Aside0.mk A90
  clear A90
  have H' := Aside0.mk H
  clear H
  go_wp2_with (first | ((with_reducible refine gate_callee (f := 72) rfl ?_); refine goesL_ (some 12) rfl rfl Tryd.func72 (by kernel_rfl) rfl #[.slice A0 l0.length c0] rfl (by (try simp only [List.map_toArray, List.map_cons, List.map_nil]); first | done | rfl | (simp only [List.length_drop, List.length_take]; rfl)) ?_; (with_reducible refine (spec_l4All.calls k _ _ l0 true _ ?side1 ?side2 A5.out).mono ?_); (case side1 => repeat (first | exact (Kd.C_below HR0.out HB.out) | (with_reducible refine Kd.C_alloc ?_ _) | (with_reducible refine Kd.C_drewN ?_ _) | (with_reducible refine Kd.C_drew ?_))); (case side2 => exact HC0.out); rintro e w10 ⟨rfl, hb⟩; refine ⟨_, rfl, ?_⟩; have n0_ := Aside0.mk (below_step (by repeat (first | (with_reducible first | exact HB.out | apply below_alloc | apply pw_below_drewN | apply below_drew1) | exact HB.out)) hb); clear HB; have HB := n0_; clear n0_; (try clear hb); (try clear hb2); (try clear hk); (try clear hi)) | (go_at_call 61; (with_reducible refine (spec_VerseValid.calls k a1 true _ A7.out).mono ?_); rintro e w' ⟨rfl, ⟨nd, rfl⟩⟩) | (go_at_call 77; (with_reducible refine (spec_MelodyValid.calls k _ _ l2 t872 _ ?side1 ?side2 A9.out).mono ?_); (case side1 => repeat (first | exact (Kd.C_below HR2.out (by repeat (first | (with_reducible first | exact HB.out | apply below_alloc | apply pw_below_drewN | apply below_drew1) | exact HB.out))) | (with_reducible refine Kd.C_alloc ?_ _) | (with_reducible refine Kd.C_drewN ?_ _) | (with_reducible refine Kd.C_drew ?_))); (case side2 => exact HC2.out); rintro e w11 ⟨rfl, hb⟩; have n0_ := Aside0.mk (below_step (by repeat (first | (with_reducible first | exact HB.out | apply below_alloc | apply pw_below_drewN | apply below_drew1) | exact HB.out)) hb); clear HB; have HB := n0_; clear n0_; (try clear hb); (try clear hb2); (try clear hk); (try clear hi)))
  go_meet
  case rel => exact ⟨_, (!t872), (by first | rfl | (simp; done) | (simp [*]; done)), H', ⟨by first | omega | exact Nat.le_refl _⟩, ⟨by repeat (first | (with_reducible first | exact HB.out | apply below_alloc | apply pw_below_drewN | apply below_drew1) | exact HB.out)⟩⟩
 case rest =>
  clear HC4
  try clear c2
  try clear p2
  try clear c4
  try clear c6
  try clear c7
  try clear c8
  obtain ⟨kq, x23_3, rfl, HA, HJ3, HB⟩ := hcut
  cases kq with
  | zero => exact absurd HA.out (by simp [spec_PsalmRead.j0])
  | succ kj3 =>
   have H := HA.out
   clear HA
   simp only [spec_PsalmRead.j0] at H
   by_cases c14 : x23_3 = true
   ·subst c14
    have H1 : (some (-1)) = some r := by rw [if_pos rfl] at H; exact H
    clear H
    have H := H1
    clear H1
    obtain rfl := Option.some.inj H
    go_wp2
    go_ret
    exact ⟨by first | rfl | (simp [errW_none, errW_some] <;> rfl) | (simp [*, errW_none, errW_some] <;> rfl), by repeat (first | (with_reducible first | exact HB.out | apply below_alloc | apply pw_below_drewN | apply below_drew1) | exact HB.out)⟩
   replace c14 := Bool.eq_false_iff.mpr c14
   subst c14
   have H1 : (spec_PsalmRead.l0 kj3 l0 a1 l2 0 0) = some r := by rw [if_neg (show ¬ (false = true) by decide)] at H; exact H
   clear H
   have H := H1
   clear H1
   have H' := Aside0.mk H
   clear H
   go_wp2
   go_loopg [7, 8] kj3 (fun kq v7 v8 w' => ∃ (x7_2 : Int) (x8_2 : Int), v7 = .int .i64 x7_2 ∧ v8 = .int .i64 x8_2 ∧ Aside0 (spec_PsalmRead.l0 kq l0 a1 l2 x7_2 x8_2 = some r) ∧ Aside0 (kq ≤ kj3) ∧ Aside0 (Below w.heap.size w w'))
   case atStart => exact ⟨(0), (0), (by first | rfl | (simp; done) | (simp [*]; done)), (by first | rfl | (simp; done) | (simp [*]; done)), H', ⟨Nat.le_refl _⟩, ⟨by repeat (first | (with_reducible first | exact HB.out | apply below_alloc | apply pw_below_drewN | apply below_drew1) | exact HB.out)⟩⟩
   case round =>
    clear H'
    try clear c1
    try clear c2
    try clear p2
    try clear c4
    try clear c6
    try clear c7
    try clear c8
    try clear c14
    try clear p2
    obtain ⟨x7_2, x8_2, rfl, rfl, HA, HK2, HB⟩ := hrel
    cases gk with
    | zero => exact absurd HA.out (by simp [spec_PsalmRead.l0])
    | succ k2 =>
     have H := HA.out
     clear HA
     simp only [spec_PsalmRead.l0] at H
     by_cases c15 : x8_2 < (l0.length : Int)
     rotate_left
     ·rw [if_neg c15] at H
      have c15b0 : decide (x8_2 < (l0.length : Int)) = false := decide_eq_false c15
      clear c15
      obtain rfl := Option.some.inj H
      go_wp2
      go_ret
      exact ⟨by first | rfl | (simp [errW_none, errW_some] <;> rfl) | (simp [*, errW_none, errW_some] <;> rfl), by repeat (first | (with_reducible first | exact HB.out | apply below_alloc | apply pw_below_drewN | apply below_drew1) | exact HB.out)⟩
     rw [if_pos c15] at H
     have c15b0 : decide (x8_2 < (l0.length : Int)) = true := decide_eq_true c15
     clear c15
     by_cases c16 : 0 ≤ x8_2
     rotate_left
     ·rw [if_neg c16] at H
      exact absurd H (by simp)
     rw [if_pos c16] at H
     have c16b0 : decide (0 ≤ x8_2) = true := decide_eq_true c16
     clear c16
     replace H := Option.bind_eq_some_iff.mp H
     obtain ⟨⟨t874, t877⟩, A170, H⟩ := H
     replace H : (if t877 = true then ((spec_l4Equal.f k2 t874 l2).bind fun t878 => (if t878 = true then (spec_PsalmRead.l0 k2 l0 a1 l2 (wrap64 (x7_2 + 1)) (wrap64 (x8_2 + 1))) else (spec_PsalmRead.l0 k2 l0 a1 l2 x7_2 (wrap64 (x8_2 + 1))))) else (spec_PsalmRead.l0 k2 l0 a1 l2 x7_2 (wrap64 (x8_2 + 1)))) = some r := H
     have A17 := Aside0.mk A170
     clear A170
     by_cases c18 : t877 = true
     rotate_left
     ·replace c18 := Bool.eq_false_iff.mpr c18
      subst c18
      have H1 : (spec_PsalmRead.l0 k2 l0 a1 l2 x7_2 (wrap64 (x8_2 + 1))) = some r := by rw [if_neg (show ¬ (false = true) by decide)] at H; exact H
      clear H
      have H := H1
      clear H1
      have H' := Aside0.mk H
      clear H
      have p873 : 0 ≤ (x8_2 : Int) := of_decide_eq_true (by first | (with_reducible assumption) | assumption)
      have q873 : x8_2 < (l0.length : Int) := of_decide_eq_true (by first | (with_reducible assumption) | assumption)
      obtain ⟨ad873, A873_0, c873_0, A873_3, c873_3, A873_4, c873_4, e873, hx873_0, hx873_1, hx873_2, hx873_3, hx873_4, hl873_0, hi873_0, hl873_3, hi873_3, hl873_4, hi873_4⟩ := at_T27 HR0.out x8_2 p873 q873
      cases e873
      replace hx873_0 := (HB.out.cell (World.block_lt_of_cell? w _ hx873_0)).trans hx873_0
      replace hx873_1 := (HB.out.cell (World.block_lt_of_cell? w _ hx873_1)).trans hx873_1
      replace hx873_2 := (HB.out.cell (World.block_lt_of_cell? w _ hx873_2)).trans hx873_2
      replace hx873_3 := (HB.out.cell (World.block_lt_of_cell? w _ hx873_3)).trans hx873_3
      replace hx873_4 := (HB.out.cell (World.block_lt_of_cell? w _ hx873_4)).trans hx873_4
      have HR873_0 := Aside0.mk hi873_0
      have HC873_0 := Aside0.mk hl873_0
      clear hi873_0 hl873_0
      have HR873_3 := Aside0.mk hi873_3
      have HC873_3 := Aside0.mk hl873_3
      clear hi873_3 hl873_3
      have HR873_4 := Aside0.mk hi873_4
      have HC873_4 := Aside0.mk hl873_4
      clear hi873_4 hl873_4
      replace p873 := eq_true p873
      replace q873 := eq_true q873
      go_wp2_with (first | ((with_reducible refine gate_callee (f := 34) rfl ?_); refine goesL_ (some 36) rfl rfl Tryd.func34 (by kernel_rfl) rfl #[.agg #[.slice A873_0 ((rd_T27 l0 x8_2).f0).length c873_0, .int .i64 ((rd_T27 l0 x8_2).f1.f0), .bool ((rd_T27 l0 x8_2).f1.f1), .slice A873_3 ((rd_T27 l0 x8_2).f2).length c873_3, .slice A873_4 ((rd_T27 l0 x8_2).f3).length c873_4], .string a1] rfl (by (try simp only [List.map_toArray, List.map_cons, List.map_nil]); first | done | rfl | (simp only [List.length_drop, List.length_take]; rfl)) ?_; (with_reducible refine (spec_PsalmSing.calls k2 _ _ ((rd_T27 l0 x8_2).f0) ((rd_T27 l0 x8_2).f1.f0) ((rd_T27 l0 x8_2).f1.f1) _ _ ((rd_T27 l0 x8_2).f2) _ _ ((rd_T27 l0 x8_2).f3) a1 t874 false _ ?side1 ?side2 ?side3 ?side4 ?side5 ?side6 A17.out).mono ?_); (case side1 => repeat (first | exact (Kd.C_below HR873_0.out HB.out) | (with_reducible refine Kd.C_alloc ?_ _) | (with_reducible refine Kd.C_drewN ?_ _) | (with_reducible refine Kd.C_drew ?_))); (case side2 => exact HC873_0.out); (case side3 => repeat (first | exact (Kd.C_below HR873_3.out HB.out) | (with_reducible refine Kd.C_alloc ?_ _) | (with_reducible refine Kd.C_drewN ?_ _) | (with_reducible refine Kd.C_drew ?_))); (case side4 => exact HC873_3.out); (case side5 => repeat (first | exact (Kd.C_below HR873_4.out HB.out) | (with_reducible refine Kd.C_alloc ?_ _) | (with_reducible refine Kd.C_drewN ?_ _) | (with_reducible refine Kd.C_drew ?_))); (case side6 => exact HC873_4.out); rintro e w25 ⟨v875, rfl, ho0, hb⟩; refine ⟨_, rfl, ?_⟩; have n0_ := Aside0.mk (Kd.R_lower ho0 (below_size (by repeat (first | (with_reducible first | exact HB.out | apply below_alloc | apply pw_below_drewN | apply below_drew1) | exact HB.out)))); have n1_ := Aside0.mk (below_step (by repeat (first | (with_reducible first | exact HB.out | apply below_alloc | apply pw_below_drewN | apply below_drew1) | exact HB.out)) hb); clear HB; have HO876 := n0_; have HB := n1_; clear n0_ n1_; (try clear hb); (try clear hb2); (try clear hk); (try clear hi); (try clear ho0)))
      go_roundg k2
      case measure => have := HJ3.out; have := HK2.out; omega
      case rel => exact ⟨(x7_2), (wrap64 (x8_2 + 1)), (by first | rfl | (simp; done) | (simp [*]; done)), (by first | rfl | (simp; done) | (simp [*]; done)), H', ⟨by have := HJ3.out; have := HK2.out; omega⟩, ⟨by repeat (first | (with_reducible first | exact HB.out | apply below_alloc | apply pw_below_drewN | apply below_drew1) | exact HB.out)⟩⟩
     subst c18
     have H1 : ((spec_l4Equal.f k2 t874 l2).bind fun t878 => (if t878 = true then (spec_PsalmRead.l0 k2 l0 a1 l2 (wrap64 (x7_2 + 1)) (wrap64 (x8_2 + 1))) else (spec_PsalmRead.l0 k2 l0 a1 l2 x7_2 (wrap64 (x8_2 + 1))))) = some r := by rw [if_pos rfl] at H; exact H
     clear H
     have H := H1
     clear H1
     replace H := Option.bind_eq_some_iff.mp H
     obtain ⟨t878, A190, H⟩ := H
     replace H : (if t878 = true then (spec_PsalmRead.l0 k2 l0 a1 l2 (wrap64 (x7_2 + 1)) (wrap64 (x8_2 + 1))) else (spec_PsalmRead.l0 k2 l0 a1 l2 x7_2 (wrap64 (x8_2 + 1)))) = some r := H
     have A19 := Aside0.mk A190
     clear A190
     by_cases c20 : t878 = true
     ·subst c20
      have H1 : (spec_PsalmRead.l0 k2 l0 a1 l2 (wrap64 (x7_2 + 1)) (wrap64 (x8_2 + 1))) = some r := by rw [if_pos rfl] at H; exact H
      clear H
      have H := H1
      clear H1
      have H' := Aside0.mk H
      clear H
      have p873 : 0 ≤ (x8_2 : Int) := of_decide_eq_true (by first | (with_reducible assumption) | assumption)
      have q873 : x8_2 < (l0.length : Int) := of_decide_eq_true (by first | (with_reducible assumption) | assumption)
      obtain ⟨ad873, A873_0, c873_0, A873_3, c873_3, A873_4, c873_4, e873, hx873_0, hx873_1, hx873_2, hx873_3, hx873_4, hl873_0, hi873_0, hl873_3, hi873_3, hl873_4, hi873_4⟩ := at_T27 HR0.out x8_2 p873 q873
      cases e873
      replace hx873_0 := (HB.out.cell (World.block_lt_of_cell? w _ hx873_0)).trans hx873_0
      replace hx873_1 := (HB.out.cell (World.block_lt_of_cell? w _ hx873_1)).trans hx873_1
      replace hx873_2 := (HB.out.cell (World.block_lt_of_cell? w _ hx873_2)).trans hx873_2
      replace hx873_3 := (HB.out.cell (World.block_lt_of_cell? w _ hx873_3)).trans hx873_3
      replace hx873_4 := (HB.out.cell (World.block_lt_of_cell? w _ hx873_4)).trans hx873_4
      have HR873_0 := Aside0.mk hi873_0
      have HC873_0 := Aside0.mk hl873_0
      clear hi873_0 hl873_0
      have HR873_3 := Aside0.mk hi873_3
      have HC873_3 := Aside0.mk hl873_3
      clear hi873_3 hl873_3
      have HR873_4 := Aside0.mk hi873_4
      have HC873_4 := Aside0.mk hl873_4
      clear hi873_4 hl873_4
      replace p873 := eq_true p873
      replace q873 := eq_true q873
      go_wp2_with (first | ((with_reducible refine gate_callee (f := 34) rfl ?_); refine goesL_ (some 36) rfl rfl Tryd.func34 (by kernel_rfl) rfl #[.agg #[.slice A873_0 ((rd_T27 l0 x8_2).f0).length c873_0, .int .i64 ((rd_T27 l0 x8_2).f1.f0), .bool ((rd_T27 l0 x8_2).f1.f1), .slice A873_3 ((rd_T27 l0 x8_2).f2).length c873_3, .slice A873_4 ((rd_T27 l0 x8_2).f3).length c873_4], .string a1] rfl (by (try simp only [List.map_toArray, List.map_cons, List.map_nil]); first | done | rfl | (simp only [List.length_drop, List.length_take]; rfl)) ?_; (with_reducible refine (spec_PsalmSing.calls k2 _ _ ((rd_T27 l0 x8_2).f0) ((rd_T27 l0 x8_2).f1.f0) ((rd_T27 l0 x8_2).f1.f1) _ _ ((rd_T27 l0 x8_2).f2) _ _ ((rd_T27 l0 x8_2).f3) a1 t874 true _ ?side1 ?side2 ?side3 ?side4 ?side5 ?side6 A17.out).mono ?_); (case side1 => repeat (first | exact (Kd.C_below HR873_0.out HB.out) | (with_reducible refine Kd.C_alloc ?_ _) | (with_reducible refine Kd.C_drewN ?_ _) | (with_reducible refine Kd.C_drew ?_))); (case side2 => exact HC873_0.out); (case side3 => repeat (first | exact (Kd.C_below HR873_3.out HB.out) | (with_reducible refine Kd.C_alloc ?_ _) | (with_reducible refine Kd.C_drewN ?_ _) | (with_reducible refine Kd.C_drew ?_))); (case side4 => exact HC873_3.out); (case side5 => repeat (first | exact (Kd.C_below HR873_4.out HB.out) | (with_reducible refine Kd.C_alloc ?_ _) | (with_reducible refine Kd.C_drewN ?_ _) | (with_reducible refine Kd.C_drew ?_))); (case side6 => exact HC873_4.out); rintro e w21 ⟨v875, rfl, ho0, hb⟩; refine ⟨_, rfl, ?_⟩; have n0_ := Aside0.mk (Kd.R_lower ho0 (below_size (by repeat (first | (with_reducible first | exact HB.out | apply below_alloc | apply pw_below_drewN | apply below_drew1) | exact HB.out)))); have n1_ := Aside0.mk (below_step (by repeat (first | (with_reducible first | exact HB.out | apply below_alloc | apply pw_below_drewN | apply below_drew1) | exact HB.out)) hb); clear HB; have HO876 := n0_; have HB := n1_; clear n0_ n1_; (try clear hb); (try clear hb2); (try clear hk); (try clear hi); (try clear ho0); obtain ⟨Ao22, co22, eo22⟩ := Kd.R_slice HO876.out; subst eo22) | (go_at_call 78; (with_reducible refine (spec_l4Equal.calls k2 _ _ t874 _ _ l2 true _ ?side1 ?side2 ?side3 ?side4 A19.out).mono ?_); (case side1 => repeat (first | exact (Kd.R_reads' HO876.out).2.2 | (with_reducible refine Kd.C_alloc ?_ _) | (with_reducible refine Kd.C_drewN ?_ _) | (with_reducible refine Kd.C_drew ?_))); (case side2 => exact (Kd.R_reads' HO876.out).2.1); (case side3 => repeat (first | exact (Kd.C_below HR2.out HB.out) | (with_reducible refine Kd.C_alloc ?_ _) | (with_reducible refine Kd.C_drewN ?_ _) | (with_reducible refine Kd.C_drew ?_))); (case side4 => exact HC2.out); rintro e w' ⟨rfl, ⟨nd, rfl⟩⟩))
      go_roundg k2
      case measure => have := HJ3.out; have := HK2.out; omega
      case rel => exact ⟨(wrap64 (x7_2 + 1)), (wrap64 (x8_2 + 1)), (by first | rfl | (simp; done) | (simp [*]; done)), (by first | rfl | (simp; done) | (simp [*]; done)), H', ⟨by have := HJ3.out; have := HK2.out; omega⟩, ⟨by repeat (first | (with_reducible first | exact HB.out | apply below_alloc | apply pw_below_drewN | apply below_drew1) | exact HB.out)⟩⟩
     replace c20 := Bool.eq_false_iff.mpr c20
     subst c20
     have H1 : (spec_PsalmRead.l0 k2 l0 a1 l2 x7_2 (wrap64 (x8_2 + 1))) = some r := by rw [if_neg (show ¬ (false = true) by decide)] at H; exact H
     clear H
     have H := H1
     clear H1
     have H' := Aside0.mk H
     clear H
     have p873 : 0 ≤ (x8_2 : Int) := of_decide_eq_true (by first | (with_reducible assumption) | assumption)
     have q873 : x8_2 < (l0.length : Int) := of_decide_eq_true (by first | (with_reducible assumption) | assumption)
     obtain ⟨ad873, A873_0, c873_0, A873_3, c873_3, A873_4, c873_4, e873, hx873_0, hx873_1, hx873_2, hx873_3, hx873_4, hl873_0, hi873_0, hl873_3, hi873_3, hl873_4, hi873_4⟩ := at_T27 HR0.out x8_2 p873 q873
     cases e873
     replace hx873_0 := (HB.out.cell (World.block_lt_of_cell? w _ hx873_0)).trans hx873_0
     replace hx873_1 := (HB.out.cell (World.block_lt_of_cell? w _ hx873_1)).trans hx873_1
     replace hx873_2 := (HB.out.cell (World.block_lt_of_cell? w _ hx873_2)).trans hx873_2
     replace hx873_3 := (HB.out.cell (World.block_lt_of_cell? w _ hx873_3)).trans hx873_3
     replace hx873_4 := (HB.out.cell (World.block_lt_of_cell? w _ hx873_4)).trans hx873_4
     have HR873_0 := Aside0.mk hi873_0
     have HC873_0 := Aside0.mk hl873_0
     clear hi873_0 hl873_0
     have HR873_3 := Aside0.mk hi873_3
     have HC873_3 := Aside0.mk hl873_3
     clear hi873_3 hl873_3
     have HR873_4 := Aside0.mk hi873_4
     have HC873_4 := Aside0.mk hl873_4
     clear hi873_4 hl873_4
     replace p873 := eq_true p873
     replace q873 := eq_true q873
     go_wp2_with (first | ((with_reducible refine gate_callee (f := 34) rfl ?_); refine goesL_ (some 36) rfl rfl Tryd.func34 (by kernel_rfl) rfl #[.agg #[.slice A873_0 ((rd_T27 l0 x8_2).f0).length c873_0, .int .i64 ((rd_T27 l0 x8_2).f1.f0), .bool ((rd_T27 l0 x8_2).f1.f1), .slice A873_3 ((rd_T27 l0 x8_2).f2).length c873_3, .slice A873_4 ((rd_T27 l0 x8_2).f3).length c873_4], .string a1] rfl (by (try simp only [List.map_toArray, List.map_cons, List.map_nil]); first | done | rfl | (simp only [List.length_drop, List.length_take]; rfl)) ?_; (with_reducible refine (spec_PsalmSing.calls k2 _ _ ((rd_T27 l0 x8_2).f0) ((rd_T27 l0 x8_2).f1.f0) ((rd_T27 l0 x8_2).f1.f1) _ _ ((rd_T27 l0 x8_2).f2) _ _ ((rd_T27 l0 x8_2).f3) a1 t874 true _ ?side1 ?side2 ?side3 ?side4 ?side5 ?side6 A17.out).mono ?_); (case side1 => repeat (first | exact (Kd.C_below HR873_0.out HB.out) | (with_reducible refine Kd.C_alloc ?_ _) | (with_reducible refine Kd.C_drewN ?_ _) | (with_reducible refine Kd.C_drew ?_))); (case side2 => exact HC873_0.out); (case side3 => repeat (first | exact (Kd.C_below HR873_3.out HB.out) | (with_reducible refine Kd.C_alloc ?_ _) | (with_reducible refine Kd.C_drewN ?_ _) | (with_reducible refine Kd.C_drew ?_))); (case side4 => exact HC873_3.out); (case side5 => repeat (first | exact (Kd.C_below HR873_4.out HB.out) | (with_reducible refine Kd.C_alloc ?_ _) | (with_reducible refine Kd.C_drewN ?_ _) | (with_reducible refine Kd.C_drew ?_))); (case side6 => exact HC873_4.out); rintro e w23 ⟨v875, rfl, ho0, hb⟩; refine ⟨_, rfl, ?_⟩; have n0_ := Aside0.mk (Kd.R_lower ho0 (below_size (by repeat (first | (with_reducible first | exact HB.out | apply below_alloc | apply pw_below_drewN | apply below_drew1) | exact HB.out)))); have n1_ := Aside0.mk (below_step (by repeat (first | (with_reducible first | exact HB.out | apply below_alloc | apply pw_below_drewN | apply below_drew1) | exact HB.out)) hb); clear HB; have HO876 := n0_; have HB := n1_; clear n0_ n1_; (try clear hb); (try clear hb2); (try clear hk); (try clear hi); (try clear ho0); obtain ⟨Ao24, co24, eo24⟩ := Kd.R_slice HO876.out; subst eo24) | (go_at_call 78; (with_reducible refine (spec_l4Equal.calls k2 _ _ t874 _ _ l2 false _ ?side1 ?side2 ?side3 ?side4 A19.out).mono ?_); (case side1 => repeat (first | exact (Kd.R_reads' HO876.out).2.2 | (with_reducible refine Kd.C_alloc ?_ _) | (with_reducible refine Kd.C_drewN ?_ _) | (with_reducible refine Kd.C_drew ?_))); (case side2 => exact (Kd.R_reads' HO876.out).2.1); (case side3 => repeat (first | exact (Kd.C_below HR2.out HB.out) | (with_reducible refine Kd.C_alloc ?_ _) | (with_reducible refine Kd.C_drewN ?_ _) | (with_reducible refine Kd.C_drew ?_))); (case side4 => exact HC2.out); rintro e w' ⟨rfl, ⟨nd, rfl⟩⟩))
     go_roundg k2
     case measure => have := HJ3.out; have := HK2.out; omega
     case rel => exact ⟨(x7_2), (wrap64 (x8_2 + 1)), (by first | rfl | (simp; done) | (simp [*]; done)), (by first | rfl | (simp; done) | (simp [*]; done)), H', ⟨by have := HJ3.out; have := HK2.out; omega⟩, ⟨by repeat (first | (with_reducible first | exact HB.out | apply below_alloc | apply pw_below_drewN | apply below_drew1) | exact HB.out)⟩⟩
end Go.Proofs.YtdgmkfbmeaalpaaDoor.E
end
