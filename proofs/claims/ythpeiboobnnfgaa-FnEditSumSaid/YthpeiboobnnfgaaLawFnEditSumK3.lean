/- Texts of this claim, joined by a program of this session's (wip/tools/pack.py). -/
import Derived.Test.YthpeiboobnnfgaaLawFnEditSumK2
section
namespace Go.Proofs.Ythpeiboobnnfgaa.E
open Go.RowKit Go.Proofs.YthpeiboobnnfgaaW.PrintWords Go.Proofs.YthpeiboobnnfgaaW.PrintLast Go.Proofs.YthpeiboobnnfgaaW.PrintMore
attribute [local go_sem] max2_int min2_int max_two min_two max_three min_three max_four min_four
set_option linter.unusedVariables false
set_option linter.unusedSimpArgs false
attribute [local go_sem] en63_mk1 en63_mk2 en63_mk3 en63_mk4
attribute [local go_sem] str_leq_ str_gtr_ str_geq_
mutual
def impl_alignmentSum.j0 : Nat → List (S36) → List (S36) → ByteArray → Bool → Option (Int × Bool)
 | 0, _, _, _, _ => none
 | k + 1, x0, x1, x2, x19 => if x19 = true then (some (0, false)) else (impl_alignmentSum.l0 k x0 x1 x2 0 (x2.size : Int) 0)
def impl_alignmentSum.l0 : Nat → List (S36) → List (S36) → ByteArray → Int → Int → Int → Option (Int × Bool)
 | 0, _, _, _, _, _, _ => none
 | k + 1, x0, x1, x2, x8, x21, x22 => if x22 < x21 then (if 0 ≤ x22 then (if x22 < (x2.size : Int) then ((impl_editOf.f k (bt x2 x22)).bind fun t347 => ((impl_useOf.f k t347 x0 x1).bind fun bt348 => (if bt348.2.2.2 = true then (if 0 ≤ bt348.1 then (if bt348.1 ≤ (x0.length : Int) then (if 0 ≤ bt348.2.1 then (if bt348.2.1 ≤ (x1.length : Int) then (impl_alignmentSum.l0 k (x0.drop (bt348.1 : Int).toNat) (x1.drop (bt348.2.1 : Int).toNat) x2 (wrap64 (x8 + bt348.2.2.1)) x21 (wrap64 (x22 + 1))) else (none)) else (none)) else (none)) else (none)) else (some (0, false))))) else (none)) else (none)) else (if (x0.length : Int) = 0 then (some (x8, ((x1.length : Int) == 0))) else (some (x8, false)))
end
def impl_alignmentSum.f (k : Nat) (l0 : List (S36)) (l1 : List (S36)) (a2 : ByteArray) : Option (Int × Bool) := (impl_MelodyValid.f k l0).bind fun t345 => (if t345 = true then ((impl_MelodyValid.f k l1).bind fun t346 => (impl_alignmentSum.j0 k l0 l1 a2 (!t346))) else (impl_alignmentSum.j0 k l0 l1 a2 true))
set_option maxHeartbeats 8000000 in
set_option maxRecDepth 100000 in
theorem impl_alignmentSum.calls (k : Nat) (P0_ : Nat → Prop) (A0 : Option Addr) (c0 : Nat) (l0 : List (S36)) (P1_ : Nat → Prop) (A1 : Option Addr) (c1 : Nat) (l1 : List (S36)) (a2 : ByteArray) (r1 : Int) (r2 : Bool) (w : World) (hs0 : Kd.V k36 36 w w.heap.size (fun k_ => P0_ k_) (.slice A0 l0.length c0) l0) (hs1 : Kd.V k36 36 w w.heap.size (fun k_ => P1_ k_) (.slice A1 l1.length c1) l1) (h : impl_alignmentSum.f k l0 l1 a2 = some (r1, r2)) :
  Calls Try.prog 41 #[.slice A0 l0.length c0, .slice A1 l1.length c1, .string a2] w fun e w' => e = .returned (.tuple #[.int .i64 r1, .bool r2]) ∧ Below w.heap.size w w' := by
 have hu65 := Try.underlying65
 have HO0 := Q0_ (show Kd.V k36 36 w w.heap.size (fun k_ => ((P0_ k_ ∨ P1_ k_) ∨ w.heap.size ≤ k_)) (.slice A0 l0.length c0) l0 from Kd.V_mono hs0 (fun k_ hk => .inl (.inl hk)))
 have HO1 := Q0_ (show Kd.V k36 36 w w.heap.size (fun k_ => ((P0_ k_ ∨ P1_ k_) ∨ w.heap.size ≤ k_)) (.slice A1 l1.length c1) l1 from Kd.V_mono hs1 (fun k_ hk => .inl (.inr hk)))
 have HB := Q0_ (Below.refl w.heap.size w)
 have H : ((impl_MelodyValid.f k l0).bind fun t345 => (if t345 = true then ((impl_MelodyValid.f k l1).bind fun t346 => (impl_alignmentSum.j0 k l0 l1 a2 (!t346))) else (impl_alignmentSum.j0 k l0 l1 a2 true))) = some (r1, r2) := h
 clear h
 have HC4 := Aside0.mk H
 clear H
 go_enter Try.func41, Try.ntmps41
 go_upto_region 1 with (fail)
 repeat (go_quiet (fail); go_upto_region 1 with (fail))
 go_cut [19] (fun v19 wc => ∃ (kq : Nat) (x19_3 : Bool), v19 = .bool x19_3 ∧ Aside0 (impl_alignmentSum.j0 kq l0 l1 a2 x19_3 = some (r1, r2)) ∧ Aside0 (kq ≤ k) ∧ Aside0 (Kd.V k36 36 wc w.heap.size (fun k_ => ((P0_ k_ ∨ P1_ k_) ∨ w.heap.size ≤ k_)) (.slice A0 l0.length c0) l0) ∧ Aside0 (Kd.V k36 36 wc w.heap.size (fun k_ => ((P0_ k_ ∨ P1_ k_) ∨ w.heap.size ≤ k_)) (.slice A1 l1.length c1) l1) ∧ Aside0 (Below w.heap.size w wc))
 case first =>
  have H := HC4.out
  clear HC4
  obtain ⟨t345, A50, H⟩ := Option.bind_eq_some_iff.mp H
  try dsimp only at H
  have A5 := Aside0.mk A50
  clear A50
  by_cases c6 : t345 = true
  rotate_left
  ·replace c6 := Bool.eq_false_iff.mpr c6
   subst c6
   replace H := ifN ((show ¬ (false = true) by decide)) H
   have H' := Aside0.mk H
   clear H
   go_wp2_with (first | (go_at_call 34; (with_reducible refine (impl_MelodyValid.calls k _ _ l0 false _ ?side1 ?side2 A5.out).mono ?_); (case side1 => repeat (first | exact (Kd.V_reads' HO0.out).2.2 | (with_reducible refine Kd.C_alloc ?_ _) | (with_reducible refine Kd.C_drewN ?_ _) | (with_reducible refine Kd.C_drew ?_))); (case side2 => exact (Kd.V_reads' HO0.out).2.1); rintro e w10 ⟨rfl, hb⟩; have n0_ := Q0_ (Kd.V_below (by (with_reducible repeat (first | apply Kd.V_alloc | apply Kd.V_drewN | apply Kd.V_drew)); exact HO0.out) hb); have n1_ := Q0_ (Kd.V_below (by (with_reducible repeat (first | apply Kd.V_alloc | apply Kd.V_drewN | apply Kd.V_drew)); exact HO1.out) hb); have n2_ := Q0_ (below_step (upB HB) hb); clear HO0 HO1 HB; revert n0_ n1_ n2_; intro HO0 HO1 HB; (try clear hb); (try clear hb2); (try clear hk); (try clear hi)))
   repeat (go_quiet (first | (go_at_call 34; (with_reducible refine (impl_MelodyValid.calls k _ _ l0 false _ ?side1 ?side2 A5.out).mono ?_); (case side1 => repeat (first | exact (Kd.V_reads' HO0.out).2.2 | (with_reducible refine Kd.C_alloc ?_ _) | (with_reducible refine Kd.C_drewN ?_ _) | (with_reducible refine Kd.C_drew ?_))); (case side2 => exact (Kd.V_reads' HO0.out).2.1); rintro e w10 ⟨rfl, hb⟩; have n0_ := Q0_ (Kd.V_below (by (with_reducible repeat (first | apply Kd.V_alloc | apply Kd.V_drewN | apply Kd.V_drew)); exact HO0.out) hb); have n1_ := Q0_ (Kd.V_below (by (with_reducible repeat (first | apply Kd.V_alloc | apply Kd.V_drewN | apply Kd.V_drew)); exact HO1.out) hb); have n2_ := Q0_ (below_step (upB HB) hb); clear HO0 HO1 HB; revert n0_ n1_ n2_; intro HO0 HO1 HB; (try clear hb); (try clear hb2); (try clear hk); (try clear hi))); try go_wp2_with (first | (go_at_call 34; (with_reducible refine (impl_MelodyValid.calls k _ _ l0 false _ ?side1 ?side2 A5.out).mono ?_); (case side1 => repeat (first | exact (Kd.V_reads' HO0.out).2.2 | (with_reducible refine Kd.C_alloc ?_ _) | (with_reducible refine Kd.C_drewN ?_ _) | (with_reducible refine Kd.C_drew ?_))); (case side2 => exact (Kd.V_reads' HO0.out).2.1); rintro e w10 ⟨rfl, hb⟩; have n0_ := Q0_ (Kd.V_below (by (with_reducible repeat (first | apply Kd.V_alloc | apply Kd.V_drewN | apply Kd.V_drew)); exact HO0.out) hb); have n1_ := Q0_ (Kd.V_below (by (with_reducible repeat (first | apply Kd.V_alloc | apply Kd.V_drewN | apply Kd.V_drew)); exact HO1.out) hb); have n2_ := Q0_ (below_step (upB HB) hb); clear HO0 HO1 HB; revert n0_ n1_ n2_; intro HO0 HO1 HB; (try clear hb); (try clear hb2); (try clear hk); (try clear hi))))
   go_meet
   case rel => exact ⟨_, (true), eX, H', ⟨by first | omega | exact Nat.le_refl _⟩, ⟨by (with_reducible repeat (first | apply Kd.V_alloc | apply Kd.V_drewN | apply Kd.V_drew)); exact HO0.out⟩, ⟨by (with_reducible repeat (first | apply Kd.V_alloc | apply Kd.V_drewN | apply Kd.V_drew)); exact HO1.out⟩, ⟨by repeat (first | (with_reducible first | exact HB.out | apply below_alloc | apply pw_below_drewN | apply below_drew1) | exact HB.out)⟩⟩
  subst c6
  replace H := ifP (rfl) H
  obtain ⟨t346, A70, H⟩ := Option.bind_eq_some_iff.mp H
  try dsimp only at H
  have A7 := Aside0.mk A70
  clear A70
  have H' := Aside0.mk H
  clear H
  go_wp2_with (first | (go_at_call 34; (with_reducible refine (impl_MelodyValid.calls k _ _ l0 true _ ?side1 ?side2 A5.out).mono ?_); (case side1 => repeat (first | exact (Kd.V_reads' HO0.out).2.2 | (with_reducible refine Kd.C_alloc ?_ _) | (with_reducible refine Kd.C_drewN ?_ _) | (with_reducible refine Kd.C_drew ?_))); (case side2 => exact (Kd.V_reads' HO0.out).2.1); rintro e w8 ⟨rfl, hb⟩; have n0_ := Q0_ (Kd.V_below (by (with_reducible repeat (first | apply Kd.V_alloc | apply Kd.V_drewN | apply Kd.V_drew)); exact HO0.out) hb); have n1_ := Q0_ (Kd.V_below (by (with_reducible repeat (first | apply Kd.V_alloc | apply Kd.V_drewN | apply Kd.V_drew)); exact HO1.out) hb); have n2_ := Q0_ (below_step (upB HB) hb); clear HO0 HO1 HB; revert n0_ n1_ n2_; intro HO0 HO1 HB; (try clear hb); (try clear hb2); (try clear hk); (try clear hi)) | (go_at_call 34; (with_reducible refine (impl_MelodyValid.calls k _ _ l1 t346 _ ?side1 ?side2 A7.out).mono ?_); (case side1 => repeat (first | exact (Kd.V_reads' HO1.out).2.2 | (with_reducible refine Kd.C_alloc ?_ _) | (with_reducible refine Kd.C_drewN ?_ _) | (with_reducible refine Kd.C_drew ?_))); (case side2 => exact (Kd.V_reads' HO1.out).2.1); rintro e w9 ⟨rfl, hb⟩; have n0_ := Q0_ (Kd.V_below (by (with_reducible repeat (first | apply Kd.V_alloc | apply Kd.V_drewN | apply Kd.V_drew)); exact HO0.out) hb); have n1_ := Q0_ (Kd.V_below (by (with_reducible repeat (first | apply Kd.V_alloc | apply Kd.V_drewN | apply Kd.V_drew)); exact HO1.out) hb); have n2_ := Q0_ (below_step (upB HB) hb); clear HO0 HO1 HB; revert n0_ n1_ n2_; intro HO0 HO1 HB; (try clear hb); (try clear hb2); (try clear hk); (try clear hi)))
  repeat (go_quiet (first | (go_at_call 34; (with_reducible refine (impl_MelodyValid.calls k _ _ l0 true _ ?side1 ?side2 A5.out).mono ?_); (case side1 => repeat (first | exact (Kd.V_reads' HO0.out).2.2 | (with_reducible refine Kd.C_alloc ?_ _) | (with_reducible refine Kd.C_drewN ?_ _) | (with_reducible refine Kd.C_drew ?_))); (case side2 => exact (Kd.V_reads' HO0.out).2.1); rintro e w8 ⟨rfl, hb⟩; have n0_ := Q0_ (Kd.V_below (by (with_reducible repeat (first | apply Kd.V_alloc | apply Kd.V_drewN | apply Kd.V_drew)); exact HO0.out) hb); have n1_ := Q0_ (Kd.V_below (by (with_reducible repeat (first | apply Kd.V_alloc | apply Kd.V_drewN | apply Kd.V_drew)); exact HO1.out) hb); have n2_ := Q0_ (below_step (upB HB) hb); clear HO0 HO1 HB; revert n0_ n1_ n2_; intro HO0 HO1 HB; (try clear hb); (try clear hb2); (try clear hk); (try clear hi)) | (go_at_call 34; (with_reducible refine (impl_MelodyValid.calls k _ _ l1 t346 _ ?side1 ?side2 A7.out).mono ?_); (case side1 => repeat (first | exact (Kd.V_reads' HO1.out).2.2 | (with_reducible refine Kd.C_alloc ?_ _) | (with_reducible refine Kd.C_drewN ?_ _) | (with_reducible refine Kd.C_drew ?_))); (case side2 => exact (Kd.V_reads' HO1.out).2.1); rintro e w9 ⟨rfl, hb⟩; have n0_ := Q0_ (Kd.V_below (by (with_reducible repeat (first | apply Kd.V_alloc | apply Kd.V_drewN | apply Kd.V_drew)); exact HO0.out) hb); have n1_ := Q0_ (Kd.V_below (by (with_reducible repeat (first | apply Kd.V_alloc | apply Kd.V_drewN | apply Kd.V_drew)); exact HO1.out) hb); have n2_ := Q0_ (below_step (upB HB) hb); clear HO0 HO1 HB; revert n0_ n1_ n2_; intro HO0 HO1 HB; (try clear hb); (try clear hb2); (try clear hk); (try clear hi))); try go_wp2_with (first | (go_at_call 34; (with_reducible refine (impl_MelodyValid.calls k _ _ l0 true _ ?side1 ?side2 A5.out).mono ?_); (case side1 => repeat (first | exact (Kd.V_reads' HO0.out).2.2 | (with_reducible refine Kd.C_alloc ?_ _) | (with_reducible refine Kd.C_drewN ?_ _) | (with_reducible refine Kd.C_drew ?_))); (case side2 => exact (Kd.V_reads' HO0.out).2.1); rintro e w8 ⟨rfl, hb⟩; have n0_ := Q0_ (Kd.V_below (by (with_reducible repeat (first | apply Kd.V_alloc | apply Kd.V_drewN | apply Kd.V_drew)); exact HO0.out) hb); have n1_ := Q0_ (Kd.V_below (by (with_reducible repeat (first | apply Kd.V_alloc | apply Kd.V_drewN | apply Kd.V_drew)); exact HO1.out) hb); have n2_ := Q0_ (below_step (upB HB) hb); clear HO0 HO1 HB; revert n0_ n1_ n2_; intro HO0 HO1 HB; (try clear hb); (try clear hb2); (try clear hk); (try clear hi)) | (go_at_call 34; (with_reducible refine (impl_MelodyValid.calls k _ _ l1 t346 _ ?side1 ?side2 A7.out).mono ?_); (case side1 => repeat (first | exact (Kd.V_reads' HO1.out).2.2 | (with_reducible refine Kd.C_alloc ?_ _) | (with_reducible refine Kd.C_drewN ?_ _) | (with_reducible refine Kd.C_drew ?_))); (case side2 => exact (Kd.V_reads' HO1.out).2.1); rintro e w9 ⟨rfl, hb⟩; have n0_ := Q0_ (Kd.V_below (by (with_reducible repeat (first | apply Kd.V_alloc | apply Kd.V_drewN | apply Kd.V_drew)); exact HO0.out) hb); have n1_ := Q0_ (Kd.V_below (by (with_reducible repeat (first | apply Kd.V_alloc | apply Kd.V_drewN | apply Kd.V_drew)); exact HO1.out) hb); have n2_ := Q0_ (below_step (upB HB) hb); clear HO0 HO1 HB; revert n0_ n1_ n2_; intro HO0 HO1 HB; (try clear hb); (try clear hb2); (try clear hk); (try clear hi))))
  go_meet
  case rel => exact ⟨_, (!t346), eX, H', ⟨by first | omega | exact Nat.le_refl _⟩, ⟨by (with_reducible repeat (first | apply Kd.V_alloc | apply Kd.V_drewN | apply Kd.V_drew)); exact HO0.out⟩, ⟨by (with_reducible repeat (first | apply Kd.V_alloc | apply Kd.V_drewN | apply Kd.V_drew)); exact HO1.out⟩, ⟨by repeat (first | (with_reducible first | exact HB.out | apply below_alloc | apply pw_below_drewN | apply below_drew1) | exact HB.out)⟩⟩
 case rest =>
  clear HC4
  try clear c1
  try clear p2
  try clear c4
  try clear c6
  obtain ⟨kq, x19_3, rfl, HA, HJ3, HO_0, HO_1, HB⟩ := hcut
  cases kq with
  | zero => exact absurd HA.out (by simp [impl_alignmentSum.j0])
  | succ kj3 =>
   have H := HA.out
   clear HA
   simp only [impl_alignmentSum.j0] at H
   by_cases c11 : x19_3 = true
   ·subst c11
    replace H := ifP (rfl) H
    simp only [Option.some.injEq, Prod.mk.injEq] at H
    obtain ⟨rfl, rfl⟩ := H
    go_wp2
    repeat (go_quiet (fail); try go_wp2)
    go_ret2
    exact ⟨by first | rfl | (simp [errW_none, errW_some] <;> rfl) | (simp [*, errW_none, errW_some] <;> rfl), by repeat (first | (with_reducible first | exact HB.out | apply below_alloc | apply pw_below_drewN | apply below_drew1) | exact HB.out)⟩
   replace c11 := Bool.eq_false_iff.mpr c11
   subst c11
   replace H := ifN ((show ¬ (false = true) by decide)) H
   have H' := Aside0.mk H
   clear H
   go_wp2
   repeat (go_quiet (fail); try go_wp2)
   go_loopg [0, 1, 8, 22] kj3 (fun kq v0 v1 v8 v22 w' => ∃ (x0_2 : List (S36)) (x1_2 : List (S36)) (x8_2 : Int) (x22_2 : Int), v8 = .int .i64 x8_2 ∧ v22 = .int .i64 x22_2 ∧ Aside0 (impl_alignmentSum.l0 kq x0_2 x1_2 a2 x8_2 (a2.size : Int) x22_2 = some (r1, r2)) ∧ Aside0 (kq ≤ kj3) ∧ Aside0 (Kd.V k36 36 w' w.heap.size (fun k_ => ((P0_ k_ ∨ P1_ k_) ∨ w.heap.size ≤ k_)) v0 x0_2) ∧ Aside0 (Kd.V k36 36 w' w.heap.size (fun k_ => ((P0_ k_ ∨ P1_ k_) ∨ w.heap.size ≤ k_)) v1 x1_2) ∧ Aside0 (Below w.heap.size w w'))
   case atStart => exact ⟨(l0), (l1), (0), (0), eX, eX, H', ⟨Nat.le_refl _⟩, ⟨by (with_reducible repeat (first | apply Kd.V_alloc | apply Kd.V_drewN | apply Kd.V_drew)); exact HO_0.out⟩, ⟨by (with_reducible repeat (first | apply Kd.V_alloc | apply Kd.V_drewN | apply Kd.V_drew)); exact HO_1.out⟩, ⟨by repeat (first | (with_reducible first | exact HB.out | apply below_alloc | apply pw_below_drewN | apply below_drew1) | exact HB.out)⟩⟩
   case round =>
    clear H'
    try clear c1
    try clear p2
    try clear c4
    try clear c6
    try clear c11
    try clear p2
    obtain ⟨x0_2, x1_2, x8_2, x22_2, rfl, rfl, HA, HK2, HO_0, HO_1, HB⟩ := hrel
    cases gk with
    | zero => exact absurd HA.out (by simp [impl_alignmentSum.l0])
    | succ k2 =>
     have H := HA.out
     clear HA
     simp only [impl_alignmentSum.l0] at H
     by_cases c12 : x22_2 < (a2.size : Int)
     rotate_left
     ·rw [if_neg c12] at H
      have c12b0 : decide (x22_2 < (a2.size : Int)) = false := decide_eq_false c12
      clear c12
      by_cases c39 : (x0_2.length : Int) = 0
      rotate_left
      ·rw [if_neg c39] at H
       have c39b0 : ((x0_2.length : Int) == 0) = false := beq_eq_false_iff_ne.mpr c39
       have c39b1 : ((x0_2.length : Int) != 0) = true := bne_iff_ne.mpr c39
       have c39b2 : ¬ (x0_2 = []) := fun h_ => c39 (by rw [h_]; rfl)
       simp only [Option.some.injEq, Prod.mk.injEq] at H
       obtain ⟨rfl, rfl⟩ := H
       obtain ⟨Ao42, co42, eo42⟩ := Kd.V_slice HO_0.out
       subst eo42
       go_wp2
       repeat (go_quiet (fail); try go_wp2)
       go_ret2
       exact ⟨by first | rfl | (simp [errW_none, errW_some] <;> rfl) | (simp [*, errW_none, errW_some] <;> rfl), by repeat (first | (with_reducible first | exact HB.out | apply below_alloc | apply pw_below_drewN | apply below_drew1) | exact HB.out)⟩
      rw [if_pos c39] at H
      have c39b0 : ((x0_2.length : Int) == 0) = true := beq_iff_eq.mpr c39
      have c39b1 : ((x0_2.length : Int) != 0) = false := bne_eq_false_iff_eq.mpr c39
      clear c39
      simp only [Option.some.injEq, Prod.mk.injEq] at H
      obtain ⟨rfl, rfl⟩ := H
      obtain ⟨Ao40, co40, eo40⟩ := Kd.V_slice HO_0.out
      subst eo40
      obtain ⟨Ao41, co41, eo41⟩ := Kd.V_slice HO_1.out
      subst eo41
      go_wp2
      repeat (go_quiet (fail); try go_wp2)
      go_ret2
      exact ⟨by first | rfl | (simp [errW_none, errW_some] <;> rfl) | (simp [*, errW_none, errW_some] <;> rfl), by repeat (first | (with_reducible first | exact HB.out | apply below_alloc | apply pw_below_drewN | apply below_drew1) | exact HB.out)⟩
     rw [if_pos c12] at H
     have c12b0 : decide (x22_2 < (a2.size : Int)) = true := decide_eq_true c12
     clear c12
     by_cases c13 : 0 ≤ x22_2
     rotate_left
     ·rw [if_neg c13] at H
      exact absurd H (by simp)
     rw [if_pos c13] at H
     have c13b0 : decide (0 ≤ x22_2) = true := decide_eq_true c13
     clear c13
     by_cases c14 : x22_2 < (a2.size : Int)
     rotate_left
     ·rw [if_neg c14] at H
      exact absurd H (by simp)
     rw [if_pos c14] at H
     have c14b0 : decide (x22_2 < (a2.size : Int)) = true := decide_eq_true c14
     clear c14
     obtain ⟨t347, A160, H⟩ := Option.bind_eq_some_iff.mp H
     try dsimp only at H
     have A16 := Aside0.mk A160
     clear A160
     obtain ⟨⟨t348, t349, t350, t351⟩, A170, H⟩ := Option.bind_eq_some_iff.mp H
     try dsimp only at H
     have A17 := Aside0.mk A170
     clear A170
     by_cases c18 : t351 = true
     rotate_left
     ·replace c18 := Bool.eq_false_iff.mpr c18
      subst c18
      replace H := ifN ((show ¬ (false = true) by decide)) H
      simp only [Option.some.injEq, Prod.mk.injEq] at H
      obtain ⟨rfl, rfl⟩ := H
      have p15 : 0 ≤ (x22_2 : Int) := of_decide_eq_true aS
      have q15 : x22_2 < (a2.size : Int) := of_decide_eq_true aS
      have hx15 := bt_at a2 x22_2
      replace p15 := eq_true p15
      replace q15 := eq_true q15
      go_wp2_with (first | (go_at_call 49; (with_reducible refine (impl_editOf.calls k2 (bt a2 x22_2) t347 _ A16.out).mono ?_); rintro e w33 ⟨rfl, hb⟩; have n0_ := Q0_ (Kd.V_below (by (with_reducible repeat (first | apply Kd.V_alloc | apply Kd.V_drewN | apply Kd.V_drew)); exact HO_0.out) hb); have n1_ := Q0_ (Kd.V_below (by (with_reducible repeat (first | apply Kd.V_alloc | apply Kd.V_drewN | apply Kd.V_drew)); exact HO_1.out) hb); have n2_ := Q0_ (below_step (upB HB) hb); clear HO_0 HO_1 HB; revert n0_ n1_ n2_; intro HO_0 HO_1 HB; (try clear hb); (try clear hb2); (try clear hk); (try clear hi); obtain ⟨Ao34, co34, eo34⟩ := Kd.V_slice HO_0.out; subst eo34; obtain ⟨Ao35, co35, eo35⟩ := Kd.V_slice HO_1.out; subst eo35) | (go_at_call 45; (with_reducible refine (impl_useOf.calls k2 t347 _ _ x0_2 _ _ x1_2 t348 t349 t350 false _ ?side1 ?side2 ?side3 ?side4 A17.out).mono ?_); (case side1 => repeat (first | exact (Kd.V_reads' HO_0.out).2.2 | (with_reducible refine Kd.C_alloc ?_ _) | (with_reducible refine Kd.C_drewN ?_ _) | (with_reducible refine Kd.C_drew ?_))); (case side2 => exact (Kd.V_reads' HO_0.out).2.1); (case side3 => repeat (first | exact (Kd.V_reads' HO_1.out).2.2 | (with_reducible refine Kd.C_alloc ?_ _) | (with_reducible refine Kd.C_drewN ?_ _) | (with_reducible refine Kd.C_drew ?_))); (case side4 => exact (Kd.V_reads' HO_1.out).2.1); rintro e w36 ⟨rfl, hb⟩; have n0_ := Q0_ (Kd.V_below (by (with_reducible repeat (first | apply Kd.V_alloc | apply Kd.V_drewN | apply Kd.V_drew)); exact HO_0.out) hb); have n1_ := Q0_ (Kd.V_below (by (with_reducible repeat (first | apply Kd.V_alloc | apply Kd.V_drewN | apply Kd.V_drew)); exact HO_1.out) hb); have n2_ := Q0_ (below_step (upB HB) hb); clear HO_0 HO_1 HB; revert n0_ n1_ n2_; intro HO_0 HO_1 HB; (try clear hb); (try clear hb2); (try clear hk); (try clear hi)) | ((with_reducible refine gate_dst (N := 10) rfl ?_); (try (refine gate_guard (by rfl) ?_; dsimp only)); refine box_event ?hg (N := 10) ?hd (cs := #[.int .i64 0, .int .i64 0, .int .i64 0]) (t := 65) ?hr ?_; (case hd => rfl); (case hg => rfl); (case hr => first | (go_simp; done) | (go_simp; rfl)); intro gb352 hg w37 hbox hb; have n0_ := Q0_ (Kd.V_below (Kd.V_elderB (by (with_reducible repeat (first | apply Kd.V_alloc | apply Kd.V_drewN | apply Kd.V_drew)); exact HO_0.out) gb352 (Nat.le_of_eq hg.symm)) hb); have n1_ := Q0_ (Kd.V_below (Kd.V_elderB (by (with_reducible repeat (first | apply Kd.V_alloc | apply Kd.V_drewN | apply Kd.V_drew)); exact HO_1.out) gb352 (Nat.le_of_eq hg.symm)) hb); have n2_ := Q0_ (below_step (upB HB) hb); have n3_ := Q0_ (hbox); have n4_ := Q0_ ((by rw [hg]; exact (below_size (upB HB)) : w.heap.size ≤ gb352)); have n5_ := Q0_ ((by rw [hg]; exact (below_size (upB HB)) : w.heap.size ≤ gb352)); clear HO_0 HO_1 HB; revert n0_ n1_ n2_ n3_ n4_ n5_; intro HO_0 HO_1 HB BK352 GW352 GE352; clear hb hbox hg; have hcz38_0 : w37.cell? ⟨gb352, 0, none⟩ = some (.int .i64 0) := (blk_cell BK352.out 0).trans rfl; have hcz38_1 : w37.cell? ⟨gb352, 1, none⟩ = some (.int .i64 0) := (blk_cell BK352.out 1).trans rfl; have hcz38_2 : w37.cell? ⟨gb352, 2, none⟩ = some (.int .i64 0) := (blk_cell BK352.out 2).trans rfl; have hfz38_0 := blk_frozen BK352.out 0; have hfz38_1 := blk_frozen BK352.out 1; have hfz38_2 := blk_frozen BK352.out 2))
      repeat (go_quiet (first | (go_at_call 49; (with_reducible refine (impl_editOf.calls k2 (bt a2 x22_2) t347 _ A16.out).mono ?_); rintro e w33 ⟨rfl, hb⟩; have n0_ := Q0_ (Kd.V_below (by (with_reducible repeat (first | apply Kd.V_alloc | apply Kd.V_drewN | apply Kd.V_drew)); exact HO_0.out) hb); have n1_ := Q0_ (Kd.V_below (by (with_reducible repeat (first | apply Kd.V_alloc | apply Kd.V_drewN | apply Kd.V_drew)); exact HO_1.out) hb); have n2_ := Q0_ (below_step (upB HB) hb); clear HO_0 HO_1 HB; revert n0_ n1_ n2_; intro HO_0 HO_1 HB; (try clear hb); (try clear hb2); (try clear hk); (try clear hi); obtain ⟨Ao34, co34, eo34⟩ := Kd.V_slice HO_0.out; subst eo34; obtain ⟨Ao35, co35, eo35⟩ := Kd.V_slice HO_1.out; subst eo35) | (go_at_call 45; (with_reducible refine (impl_useOf.calls k2 t347 _ _ x0_2 _ _ x1_2 t348 t349 t350 false _ ?side1 ?side2 ?side3 ?side4 A17.out).mono ?_); (case side1 => repeat (first | exact (Kd.V_reads' HO_0.out).2.2 | (with_reducible refine Kd.C_alloc ?_ _) | (with_reducible refine Kd.C_drewN ?_ _) | (with_reducible refine Kd.C_drew ?_))); (case side2 => exact (Kd.V_reads' HO_0.out).2.1); (case side3 => repeat (first | exact (Kd.V_reads' HO_1.out).2.2 | (with_reducible refine Kd.C_alloc ?_ _) | (with_reducible refine Kd.C_drewN ?_ _) | (with_reducible refine Kd.C_drew ?_))); (case side4 => exact (Kd.V_reads' HO_1.out).2.1); rintro e w36 ⟨rfl, hb⟩; have n0_ := Q0_ (Kd.V_below (by (with_reducible repeat (first | apply Kd.V_alloc | apply Kd.V_drewN | apply Kd.V_drew)); exact HO_0.out) hb); have n1_ := Q0_ (Kd.V_below (by (with_reducible repeat (first | apply Kd.V_alloc | apply Kd.V_drewN | apply Kd.V_drew)); exact HO_1.out) hb); have n2_ := Q0_ (below_step (upB HB) hb); clear HO_0 HO_1 HB; revert n0_ n1_ n2_; intro HO_0 HO_1 HB; (try clear hb); (try clear hb2); (try clear hk); (try clear hi)) | ((with_reducible refine gate_dst (N := 10) rfl ?_); (try (refine gate_guard (by rfl) ?_; dsimp only)); refine box_event ?hg (N := 10) ?hd (cs := #[.int .i64 0, .int .i64 0, .int .i64 0]) (t := 65) ?hr ?_; (case hd => rfl); (case hg => rfl); (case hr => first | (go_simp; done) | (go_simp; rfl)); intro gb352 hg w37 hbox hb; have n0_ := Q0_ (Kd.V_below (Kd.V_elderB (by (with_reducible repeat (first | apply Kd.V_alloc | apply Kd.V_drewN | apply Kd.V_drew)); exact HO_0.out) gb352 (Nat.le_of_eq hg.symm)) hb); have n1_ := Q0_ (Kd.V_below (Kd.V_elderB (by (with_reducible repeat (first | apply Kd.V_alloc | apply Kd.V_drewN | apply Kd.V_drew)); exact HO_1.out) gb352 (Nat.le_of_eq hg.symm)) hb); have n2_ := Q0_ (below_step (upB HB) hb); have n3_ := Q0_ (hbox); have n4_ := Q0_ ((by rw [hg]; exact (below_size (upB HB)) : w.heap.size ≤ gb352)); have n5_ := Q0_ ((by rw [hg]; exact (below_size (upB HB)) : w.heap.size ≤ gb352)); clear HO_0 HO_1 HB; revert n0_ n1_ n2_ n3_ n4_ n5_; intro HO_0 HO_1 HB BK352 GW352 GE352; clear hb hbox hg; have hcz38_0 : w37.cell? ⟨gb352, 0, none⟩ = some (.int .i64 0) := (blk_cell BK352.out 0).trans rfl; have hcz38_1 : w37.cell? ⟨gb352, 1, none⟩ = some (.int .i64 0) := (blk_cell BK352.out 1).trans rfl; have hcz38_2 : w37.cell? ⟨gb352, 2, none⟩ = some (.int .i64 0) := (blk_cell BK352.out 2).trans rfl; have hfz38_0 := blk_frozen BK352.out 0; have hfz38_1 := blk_frozen BK352.out 1; have hfz38_2 := blk_frozen BK352.out 2)); try go_wp2_with (first | (go_at_call 49; (with_reducible refine (impl_editOf.calls k2 (bt a2 x22_2) t347 _ A16.out).mono ?_); rintro e w33 ⟨rfl, hb⟩; have n0_ := Q0_ (Kd.V_below (by (with_reducible repeat (first | apply Kd.V_alloc | apply Kd.V_drewN | apply Kd.V_drew)); exact HO_0.out) hb); have n1_ := Q0_ (Kd.V_below (by (with_reducible repeat (first | apply Kd.V_alloc | apply Kd.V_drewN | apply Kd.V_drew)); exact HO_1.out) hb); have n2_ := Q0_ (below_step (upB HB) hb); clear HO_0 HO_1 HB; revert n0_ n1_ n2_; intro HO_0 HO_1 HB; (try clear hb); (try clear hb2); (try clear hk); (try clear hi); obtain ⟨Ao34, co34, eo34⟩ := Kd.V_slice HO_0.out; subst eo34; obtain ⟨Ao35, co35, eo35⟩ := Kd.V_slice HO_1.out; subst eo35) | (go_at_call 45; (with_reducible refine (impl_useOf.calls k2 t347 _ _ x0_2 _ _ x1_2 t348 t349 t350 false _ ?side1 ?side2 ?side3 ?side4 A17.out).mono ?_); (case side1 => repeat (first | exact (Kd.V_reads' HO_0.out).2.2 | (with_reducible refine Kd.C_alloc ?_ _) | (with_reducible refine Kd.C_drewN ?_ _) | (with_reducible refine Kd.C_drew ?_))); (case side2 => exact (Kd.V_reads' HO_0.out).2.1); (case side3 => repeat (first | exact (Kd.V_reads' HO_1.out).2.2 | (with_reducible refine Kd.C_alloc ?_ _) | (with_reducible refine Kd.C_drewN ?_ _) | (with_reducible refine Kd.C_drew ?_))); (case side4 => exact (Kd.V_reads' HO_1.out).2.1); rintro e w36 ⟨rfl, hb⟩; have n0_ := Q0_ (Kd.V_below (by (with_reducible repeat (first | apply Kd.V_alloc | apply Kd.V_drewN | apply Kd.V_drew)); exact HO_0.out) hb); have n1_ := Q0_ (Kd.V_below (by (with_reducible repeat (first | apply Kd.V_alloc | apply Kd.V_drewN | apply Kd.V_drew)); exact HO_1.out) hb); have n2_ := Q0_ (below_step (upB HB) hb); clear HO_0 HO_1 HB; revert n0_ n1_ n2_; intro HO_0 HO_1 HB; (try clear hb); (try clear hb2); (try clear hk); (try clear hi)) | ((with_reducible refine gate_dst (N := 10) rfl ?_); (try (refine gate_guard (by rfl) ?_; dsimp only)); refine box_event ?hg (N := 10) ?hd (cs := #[.int .i64 0, .int .i64 0, .int .i64 0]) (t := 65) ?hr ?_; (case hd => rfl); (case hg => rfl); (case hr => first | (go_simp; done) | (go_simp; rfl)); intro gb352 hg w37 hbox hb; have n0_ := Q0_ (Kd.V_below (Kd.V_elderB (by (with_reducible repeat (first | apply Kd.V_alloc | apply Kd.V_drewN | apply Kd.V_drew)); exact HO_0.out) gb352 (Nat.le_of_eq hg.symm)) hb); have n1_ := Q0_ (Kd.V_below (Kd.V_elderB (by (with_reducible repeat (first | apply Kd.V_alloc | apply Kd.V_drewN | apply Kd.V_drew)); exact HO_1.out) gb352 (Nat.le_of_eq hg.symm)) hb); have n2_ := Q0_ (below_step (upB HB) hb); have n3_ := Q0_ (hbox); have n4_ := Q0_ ((by rw [hg]; exact (below_size (upB HB)) : w.heap.size ≤ gb352)); have n5_ := Q0_ ((by rw [hg]; exact (below_size (upB HB)) : w.heap.size ≤ gb352)); clear HO_0 HO_1 HB; revert n0_ n1_ n2_ n3_ n4_ n5_; intro HO_0 HO_1 HB BK352 GW352 GE352; clear hb hbox hg; have hcz38_0 : w37.cell? ⟨gb352, 0, none⟩ = some (.int .i64 0) := (blk_cell BK352.out 0).trans rfl; have hcz38_1 : w37.cell? ⟨gb352, 1, none⟩ = some (.int .i64 0) := (blk_cell BK352.out 1).trans rfl; have hcz38_2 : w37.cell? ⟨gb352, 2, none⟩ = some (.int .i64 0) := (blk_cell BK352.out 2).trans rfl; have hfz38_0 := blk_frozen BK352.out 0; have hfz38_1 := blk_frozen BK352.out 1; have hfz38_2 := blk_frozen BK352.out 2)))
      go_ret2
      exact ⟨by first | rfl | (simp [errW_none, errW_some] <;> rfl) | (simp [*, errW_none, errW_some] <;> rfl), by repeat (first | (with_reducible first | exact HB.out | apply below_alloc | apply pw_below_drewN | apply below_drew1 | refine below_set ?_ GE352.out) | exact HB.out)⟩
     subst c18
     replace H := ifP (rfl) H
     by_cases c19 : 0 ≤ t348
     rotate_left
     ·rw [if_neg c19] at H
      exact absurd H (by simp)
     rw [if_pos c19] at H
     have c19b0 := eq_true c19
     have c19b1 : decide (0 ≤ t348) = true := decide_eq_true c19
     clear c19
     by_cases c20 : t348 ≤ (x0_2.length : Int)
     rotate_left
     ·rw [if_neg c20] at H
      exact absurd H (by simp)
     rw [if_pos c20] at H
     have c20b0 := eq_true c20
     have c20b1 : decide (t348 ≤ (x0_2.length : Int)) = true := decide_eq_true c20
     clear c20
     obtain ⟨y353, hy353⟩ : ∃ y_ : List (S36), y_ = (x0_2.drop (t348 : Int).toNat) := ⟨_, rfl⟩
     replace H : (if 0 ≤ t349 then (if t349 ≤ (x1_2.length : Int) then (impl_alignmentSum.l0 k2 y353 (x1_2.drop (t349 : Int).toNat) a2 (wrap64 (x8_2 + t350)) (a2.size : Int) (wrap64 (x22_2 + 1))) else (none)) else (none)) = some (r1, r2) := by first | (rw [hy353]; with_reducible exact H) | (have H2_ := (Option.bind_some _ _).symm.trans H; rw [hy353]; with_reducible exact H2_) | (have H2_ := (Option.bind_some _ _).symm.trans H; with_reducible exact H2_) | with_reducible exact H | (rw [hy353]; exact H) | exact H
     have Ny353 := Aside0.mk hy353
     clear hy353
     by_cases c21 : 0 ≤ t349
     rotate_left
     ·rw [if_neg c21] at H
      exact absurd H (by simp)
     rw [if_pos c21] at H
     have c21b0 := eq_true c21
     have c21b1 : decide (0 ≤ t349) = true := decide_eq_true c21
     clear c21
     by_cases c22 : t349 ≤ (x1_2.length : Int)
     rotate_left
     ·rw [if_neg c22] at H
      exact absurd H (by simp)
     rw [if_pos c22] at H
     have c22b0 := eq_true c22
     have c22b1 : decide (t349 ≤ (x1_2.length : Int)) = true := decide_eq_true c22
     clear c22
     obtain ⟨y358, hy358⟩ : ∃ y_ : List (S36), y_ = (x1_2.drop (t349 : Int).toNat) := ⟨_, rfl⟩
     replace H : (impl_alignmentSum.l0 k2 y353 y358 a2 (wrap64 (x8_2 + t350)) (a2.size : Int) (wrap64 (x22_2 + 1))) = some (r1, r2) := by first | (rw [hy358]; with_reducible exact H) | (have H2_ := (Option.bind_some _ _).symm.trans H; rw [hy358]; with_reducible exact H2_) | (have H2_ := (Option.bind_some _ _).symm.trans H; with_reducible exact H2_) | with_reducible exact H | (rw [hy358]; exact H) | exact H
     have Ny358 := Aside0.mk hy358
     clear hy358
     have H' := Aside0.mk H
     clear H
     have p15 : 0 ≤ (x22_2 : Int) := of_decide_eq_true aS
     have q15 : x22_2 < (a2.size : Int) := of_decide_eq_true aS
     have hx15 := bt_at a2 x22_2
     replace p15 := eq_true p15
     replace q15 := eq_true q15
     go_wp2_with (first | (go_at_call 49; (with_reducible refine (impl_editOf.calls k2 (bt a2 x22_2) t347 _ A16.out).mono ?_); rintro e w23 ⟨rfl, hb⟩; have n0_ := Q0_ (Kd.V_below (by (with_reducible repeat (first | apply Kd.V_alloc | apply Kd.V_drewN | apply Kd.V_drew)); exact HO_0.out) hb); have n1_ := Q0_ (Kd.V_below (by (with_reducible repeat (first | apply Kd.V_alloc | apply Kd.V_drewN | apply Kd.V_drew)); exact HO_1.out) hb); have n2_ := Q0_ (below_step (upB HB) hb); clear HO_0 HO_1 HB; revert n0_ n1_ n2_; intro HO_0 HO_1 HB; (try clear hb); (try clear hb2); (try clear hk); (try clear hi); obtain ⟨Ao24, co24, eo24⟩ := Kd.V_slice HO_0.out; subst eo24; obtain ⟨Ao25, co25, eo25⟩ := Kd.V_slice HO_1.out; subst eo25) | (go_at_call 45; (with_reducible refine (impl_useOf.calls k2 t347 _ _ x0_2 _ _ x1_2 t348 t349 t350 true _ ?side1 ?side2 ?side3 ?side4 A17.out).mono ?_); (case side1 => repeat (first | exact (Kd.V_reads' HO_0.out).2.2 | (with_reducible refine Kd.C_alloc ?_ _) | (with_reducible refine Kd.C_drewN ?_ _) | (with_reducible refine Kd.C_drew ?_))); (case side2 => exact (Kd.V_reads' HO_0.out).2.1); (case side3 => repeat (first | exact (Kd.V_reads' HO_1.out).2.2 | (with_reducible refine Kd.C_alloc ?_ _) | (with_reducible refine Kd.C_drewN ?_ _) | (with_reducible refine Kd.C_drew ?_))); (case side4 => exact (Kd.V_reads' HO_1.out).2.1); rintro e w26 ⟨rfl, hb⟩; have n0_ := Q0_ (Kd.V_below (by (with_reducible repeat (first | apply Kd.V_alloc | apply Kd.V_drewN | apply Kd.V_drew)); exact HO_0.out) hb); have n1_ := Q0_ (Kd.V_below (by (with_reducible repeat (first | apply Kd.V_alloc | apply Kd.V_drewN | apply Kd.V_drew)); exact HO_1.out) hb); have n2_ := Q0_ (below_step (upB HB) hb); clear HO_0 HO_1 HB; revert n0_ n1_ n2_; intro HO_0 HO_1 HB; (try clear hb); (try clear hb2); (try clear hk); (try clear hi)) | ((with_reducible refine gate_dst (N := 10) rfl ?_); (try (refine gate_guard (by rfl) ?_; dsimp only)); refine box_event ?hg (N := 10) ?hd (cs := #[.int .i64 0, .int .i64 0, .int .i64 0]) (t := 65) ?hr ?_; (case hd => rfl); (case hg => rfl); (case hr => first | (go_simp; done) | (go_simp; rfl)); intro gb352 hg w27 hbox hb; have n0_ := Q0_ (Kd.V_below (Kd.V_elderB (by (with_reducible repeat (first | apply Kd.V_alloc | apply Kd.V_drewN | apply Kd.V_drew)); exact HO_0.out) gb352 (Nat.le_of_eq hg.symm)) hb); have n1_ := Q0_ (Kd.V_below (Kd.V_elderB (by (with_reducible repeat (first | apply Kd.V_alloc | apply Kd.V_drewN | apply Kd.V_drew)); exact HO_1.out) gb352 (Nat.le_of_eq hg.symm)) hb); have n2_ := Q0_ (below_step (upB HB) hb); have n3_ := Q0_ (hbox); have n4_ := Q0_ ((by rw [hg]; exact (below_size (upB HB)) : w.heap.size ≤ gb352)); have n5_ := Q0_ ((by rw [hg]; exact (below_size (upB HB)) : w.heap.size ≤ gb352)); clear HO_0 HO_1 HB; revert n0_ n1_ n2_ n3_ n4_ n5_; intro HO_0 HO_1 HB BK352 GW352 GE352; clear hb hbox hg; have hcz28_0 : w27.cell? ⟨gb352, 0, none⟩ = some (.int .i64 0) := (blk_cell BK352.out 0).trans rfl; have hcz28_1 : w27.cell? ⟨gb352, 1, none⟩ = some (.int .i64 0) := (blk_cell BK352.out 1).trans rfl; have hcz28_2 : w27.cell? ⟨gb352, 2, none⟩ = some (.int .i64 0) := (blk_cell BK352.out 2).trans rfl; have hfz28_0 := blk_frozen BK352.out 0; have hfz28_1 := blk_frozen BK352.out 1; have hfz28_2 := blk_frozen BK352.out 2) | ((with_reducible refine gate_store (t := 65) (p := 10) rfl ?_); (try (rw [drewN_self w27]; generalize hq_ : World.drewN w27 _ = w27; have n0_ := Q0_ (Kd.V_at hq_ HO_0.out); have n1_ := Q0_ (Kd.V_at hq_ HO_1.out); have n2_ := Q0_ (blk_at hq_ BK352.out); have n3_ := Q0_ (below_at hq_ HB.out); clear hq_ HO_0 HO_1 BK352 HB; have HO_0 := n0_; have HO_1 := n1_; have BK352 := n2_; have HB := n3_; clear n0_ n1_ n2_ n3_)); refine store_event (t := 65) (p := 10) (v := ?vo_w29) (w1 := (((w27.setCell ⟨gb352, 0, none⟩ (.int .i64 t348)).setCell ⟨gb352, 1, none⟩ (.int .i64 t349)).setCell ⟨gb352, 2, none⟩ (.int .i64 t350))) ?hg ?ho ?hn ?hr ?_; (case ho => rfl); (case hg => rfl); (case hn => rfl); (case hr => first | (go_simp; done) | (go_simp; rfl)); intro w29 hw; have n0_ : Aside0 (Kd.V k36 36 w29 w.heap.size (fun k_ => ((P0_ k_ ∨ P1_ k_) ∨ w.heap.size ≤ k_) ∧ k_ ≠ gb352) (.slice Ao24 x0_2.length co24) x0_2) := ⟨(by rw [hw]; exact (by (with_reducible repeat (first | apply Kd.V_alloc | apply Kd.V_drewN | apply Kd.V_drew)); exact Kd.V_mono (Kd.V_far (p := ⟨gb352, 2, none⟩) (Kd.V_far (p := ⟨gb352, 1, none⟩) (Kd.V_far (p := ⟨gb352, 0, none⟩) (Kd.V_mono HO_0.out (fun k_ hk => (⟨hk, hk.2⟩ : _ ∧ k_ ≠ gb352))) (fun _ hk => hk.2) (.int .i64 t348)) (fun _ hk => hk.2) (.int .i64 t349)) (fun _ hk => hk.2) (.int .i64 t350)) (fun _ hk => ⟨hk.1.1, hk.1.2⟩)))⟩; have n1_ : Aside0 (Kd.V k36 36 w29 w.heap.size (fun k_ => ((P0_ k_ ∨ P1_ k_) ∨ w.heap.size ≤ k_) ∧ k_ ≠ gb352) (.slice Ao25 x1_2.length co25) x1_2) := ⟨(by rw [hw]; exact (by (with_reducible repeat (first | apply Kd.V_alloc | apply Kd.V_drewN | apply Kd.V_drew)); exact Kd.V_mono (Kd.V_far (p := ⟨gb352, 2, none⟩) (Kd.V_far (p := ⟨gb352, 1, none⟩) (Kd.V_far (p := ⟨gb352, 0, none⟩) (Kd.V_mono HO_1.out (fun k_ hk => (⟨hk, hk.2⟩ : _ ∧ k_ ≠ gb352))) (fun _ hk => hk.2) (.int .i64 t348)) (fun _ hk => hk.2) (.int .i64 t349)) (fun _ hk => hk.2) (.int .i64 t350)) (fun _ hk => ⟨hk.1.1, hk.1.2⟩)))⟩; have n2_ : Aside0 (w29.heap[gb352]? = some (.cells #[.int .i64 t348, .int .i64 t349, .int .i64 t350] 65 (0, 0))) := ⟨(by rw [hw]; exact (by (with_reducible repeat (first | refine blk_drewN ?_ _ | refine blk_drew ?_ | refine blk_alloc ?_ _)); refine blk_put (cs := #[.int .i64 t348, .int .i64 t349, .int .i64 0]) ?_ 2 _ rfl; (with_reducible repeat (first | refine blk_drewN ?_ _ | refine blk_drew ?_ | refine blk_alloc ?_ _)); refine blk_put (cs := #[.int .i64 t348, .int .i64 0, .int .i64 0]) ?_ 1 _ rfl; (with_reducible repeat (first | refine blk_drewN ?_ _ | refine blk_drew ?_ | refine blk_alloc ?_ _)); refine blk_put (cs := #[.int .i64 0, .int .i64 0, .int .i64 0]) ?_ 0 _ rfl; (with_reducible repeat (first | refine blk_drewN ?_ _ | refine blk_drew ?_ | refine blk_alloc ?_ _)); exact BK352.out))⟩; have n3_ : Aside0 (Below w.heap.size w w29) := ⟨(by rw [hw]; exact upH)⟩; clear hw HO_0 HO_1 BK352 HB; revert n0_ n1_ n2_ n3_; intro HO_0 HO_1 BK352 HB; have hcz30_0 : w29.cell? ⟨gb352, 0, none⟩ = some (.int .i64 t348) := (blk_cell BK352.out 0).trans rfl; have hcz30_1 : w29.cell? ⟨gb352, 1, none⟩ = some (.int .i64 t349) := (blk_cell BK352.out 1).trans rfl; have hcz30_2 : w29.cell? ⟨gb352, 2, none⟩ = some (.int .i64 t350) := (blk_cell BK352.out 2).trans rfl; have hfz30_0 := blk_frozen BK352.out 0; have hfz30_1 := blk_frozen BK352.out 1; have hfz30_2 := blk_frozen BK352.out 2; have q31 : (t348 : Int) ≤ ((x0_2.length : Int) : Int) := of_decide_eq_true aS; obtain ⟨i031, hi031, _, hsz31, _⟩ := info_parts info36; have hroom31 : x0_2.length ≤ co24 := (Kd.V_reads' HO_0.out).2.1; have hC31 : Kd.F k36 _ _ Ao24 x0_2.length x0_2 := (Kd.V_at (base := w.heap.size) HO_0.out).2.2; have q031 : (0 : Int) ≤ (t348 : Int) := of_decide_eq_true aS; have hcut31 := cut_from (P := Try.prog) 25 36 .i64 Try.underlying25 hi031 2 hsz31 Ao24 x0_2.length co24 t348 q031 q31; have hr31 := Kd.F_cut (m := (t348 : Int).toNat) (c := co24) hC31 (by omega) hroom31; obtain ⟨A31, hA31⟩ : ∃ Az_, Az_ = (if co24 = (t348 : Int).toNat then Ao24 else (Ao24 : Option Addr).map (·.add ((t348 : Int).toNat * 2))) := ⟨_, rfl⟩; obtain ⟨c31, hc31⟩ : ∃ cz_, cz_ = co24 - (t348 : Int).toNat := ⟨_, rfl⟩; have hy31 : y353.length = x0_2.length - (t348 : Int).toNat := (by rw [Ny353.out, List.length_drop] <;> omega); rw [show (x0_2).drop (t348 : Int).toNat = y353 from Ny353.out.symm] at hr31; replace hr31 : Kd.F k36 _ _ A31 y353.length y353 := (by rw [hA31]; exact hr31); rw [← hy31, ← hA31, ← hc31] at hcut31; have HO357 := Q0_ (show Kd.V k36 36 _ w.heap.size _ (.slice A31 y353.length c31) y353 from Kd.V_mk (by rw [hy31, hc31]; exact Nat.sub_le_sub_right hroom31 _) hr31); have HC357 := Q0_ (show y353.length ≤ c31 from by rw [hy31, hc31]; exact Nat.sub_le_sub_right hroom31 _); clear hr31 hC31 hroom31 hi031 hsz31 hc31; have KY31 := Aside0.mk hy31; have KA31 := Aside0.mk hA31; clear hy31 hA31; replace q31 := eq_true q31; have q32 : (t349 : Int) ≤ ((x1_2.length : Int) : Int) := of_decide_eq_true aS; obtain ⟨i032, hi032, _, hsz32, _⟩ := info_parts info36; have hroom32 : x1_2.length ≤ co25 := (Kd.V_reads' HO_1.out).2.1; have hC32 : Kd.F k36 _ _ Ao25 x1_2.length x1_2 := (Kd.V_at (base := w.heap.size) HO_1.out).2.2; have q032 : (0 : Int) ≤ (t349 : Int) := of_decide_eq_true aS; have hcut32 := cut_from (P := Try.prog) 25 36 .i64 Try.underlying25 hi032 2 hsz32 Ao25 x1_2.length co25 t349 q032 q32; have hr32 := Kd.F_cut (m := (t349 : Int).toNat) (c := co25) hC32 (by omega) hroom32; obtain ⟨A32, hA32⟩ : ∃ Az_, Az_ = (if co25 = (t349 : Int).toNat then Ao25 else (Ao25 : Option Addr).map (·.add ((t349 : Int).toNat * 2))) := ⟨_, rfl⟩; obtain ⟨c32, hc32⟩ : ∃ cz_, cz_ = co25 - (t349 : Int).toNat := ⟨_, rfl⟩; have hy32 : y358.length = x1_2.length - (t349 : Int).toNat := (by rw [Ny358.out, List.length_drop] <;> omega); rw [show (x1_2).drop (t349 : Int).toNat = y358 from Ny358.out.symm] at hr32; replace hr32 : Kd.F k36 _ _ A32 y358.length y358 := (by rw [hA32]; exact hr32); rw [← hy32, ← hA32, ← hc32] at hcut32; have HO362 := Q0_ (show Kd.V k36 36 _ w.heap.size _ (.slice A32 y358.length c32) y358 from Kd.V_mk (by rw [hy32, hc32]; exact Nat.sub_le_sub_right hroom32 _) hr32); have HC362 := Q0_ (show y358.length ≤ c32 from by rw [hy32, hc32]; exact Nat.sub_le_sub_right hroom32 _); clear hr32 hC32 hroom32 hi032 hsz32 hc32; have KY32 := Aside0.mk hy32; have KA32 := Aside0.mk hA32; clear hy32 hA32; replace q32 := eq_true q32))
     repeat (go_quiet (first | (go_at_call 49; (with_reducible refine (impl_editOf.calls k2 (bt a2 x22_2) t347 _ A16.out).mono ?_); rintro e w23 ⟨rfl, hb⟩; have n0_ := Q0_ (Kd.V_below (by (with_reducible repeat (first | apply Kd.V_alloc | apply Kd.V_drewN | apply Kd.V_drew)); exact HO_0.out) hb); have n1_ := Q0_ (Kd.V_below (by (with_reducible repeat (first | apply Kd.V_alloc | apply Kd.V_drewN | apply Kd.V_drew)); exact HO_1.out) hb); have n2_ := Q0_ (below_step (upB HB) hb); clear HO_0 HO_1 HB; revert n0_ n1_ n2_; intro HO_0 HO_1 HB; (try clear hb); (try clear hb2); (try clear hk); (try clear hi); obtain ⟨Ao24, co24, eo24⟩ := Kd.V_slice HO_0.out; subst eo24; obtain ⟨Ao25, co25, eo25⟩ := Kd.V_slice HO_1.out; subst eo25) | (go_at_call 45; (with_reducible refine (impl_useOf.calls k2 t347 _ _ x0_2 _ _ x1_2 t348 t349 t350 true _ ?side1 ?side2 ?side3 ?side4 A17.out).mono ?_); (case side1 => repeat (first | exact (Kd.V_reads' HO_0.out).2.2 | (with_reducible refine Kd.C_alloc ?_ _) | (with_reducible refine Kd.C_drewN ?_ _) | (with_reducible refine Kd.C_drew ?_))); (case side2 => exact (Kd.V_reads' HO_0.out).2.1); (case side3 => repeat (first | exact (Kd.V_reads' HO_1.out).2.2 | (with_reducible refine Kd.C_alloc ?_ _) | (with_reducible refine Kd.C_drewN ?_ _) | (with_reducible refine Kd.C_drew ?_))); (case side4 => exact (Kd.V_reads' HO_1.out).2.1); rintro e w26 ⟨rfl, hb⟩; have n0_ := Q0_ (Kd.V_below (by (with_reducible repeat (first | apply Kd.V_alloc | apply Kd.V_drewN | apply Kd.V_drew)); exact HO_0.out) hb); have n1_ := Q0_ (Kd.V_below (by (with_reducible repeat (first | apply Kd.V_alloc | apply Kd.V_drewN | apply Kd.V_drew)); exact HO_1.out) hb); have n2_ := Q0_ (below_step (upB HB) hb); clear HO_0 HO_1 HB; revert n0_ n1_ n2_; intro HO_0 HO_1 HB; (try clear hb); (try clear hb2); (try clear hk); (try clear hi)) | ((with_reducible refine gate_dst (N := 10) rfl ?_); (try (refine gate_guard (by rfl) ?_; dsimp only)); refine box_event ?hg (N := 10) ?hd (cs := #[.int .i64 0, .int .i64 0, .int .i64 0]) (t := 65) ?hr ?_; (case hd => rfl); (case hg => rfl); (case hr => first | (go_simp; done) | (go_simp; rfl)); intro gb352 hg w27 hbox hb; have n0_ := Q0_ (Kd.V_below (Kd.V_elderB (by (with_reducible repeat (first | apply Kd.V_alloc | apply Kd.V_drewN | apply Kd.V_drew)); exact HO_0.out) gb352 (Nat.le_of_eq hg.symm)) hb); have n1_ := Q0_ (Kd.V_below (Kd.V_elderB (by (with_reducible repeat (first | apply Kd.V_alloc | apply Kd.V_drewN | apply Kd.V_drew)); exact HO_1.out) gb352 (Nat.le_of_eq hg.symm)) hb); have n2_ := Q0_ (below_step (upB HB) hb); have n3_ := Q0_ (hbox); have n4_ := Q0_ ((by rw [hg]; exact (below_size (upB HB)) : w.heap.size ≤ gb352)); have n5_ := Q0_ ((by rw [hg]; exact (below_size (upB HB)) : w.heap.size ≤ gb352)); clear HO_0 HO_1 HB; revert n0_ n1_ n2_ n3_ n4_ n5_; intro HO_0 HO_1 HB BK352 GW352 GE352; clear hb hbox hg; have hcz28_0 : w27.cell? ⟨gb352, 0, none⟩ = some (.int .i64 0) := (blk_cell BK352.out 0).trans rfl; have hcz28_1 : w27.cell? ⟨gb352, 1, none⟩ = some (.int .i64 0) := (blk_cell BK352.out 1).trans rfl; have hcz28_2 : w27.cell? ⟨gb352, 2, none⟩ = some (.int .i64 0) := (blk_cell BK352.out 2).trans rfl; have hfz28_0 := blk_frozen BK352.out 0; have hfz28_1 := blk_frozen BK352.out 1; have hfz28_2 := blk_frozen BK352.out 2) | ((with_reducible refine gate_store (t := 65) (p := 10) rfl ?_); (try (rw [drewN_self w27]; generalize hq_ : World.drewN w27 _ = w27; have n0_ := Q0_ (Kd.V_at hq_ HO_0.out); have n1_ := Q0_ (Kd.V_at hq_ HO_1.out); have n2_ := Q0_ (blk_at hq_ BK352.out); have n3_ := Q0_ (below_at hq_ HB.out); clear hq_ HO_0 HO_1 BK352 HB; have HO_0 := n0_; have HO_1 := n1_; have BK352 := n2_; have HB := n3_; clear n0_ n1_ n2_ n3_)); refine store_event (t := 65) (p := 10) (v := ?vo_w29) (w1 := (((w27.setCell ⟨gb352, 0, none⟩ (.int .i64 t348)).setCell ⟨gb352, 1, none⟩ (.int .i64 t349)).setCell ⟨gb352, 2, none⟩ (.int .i64 t350))) ?hg ?ho ?hn ?hr ?_; (case ho => rfl); (case hg => rfl); (case hn => rfl); (case hr => first | (go_simp; done) | (go_simp; rfl)); intro w29 hw; have n0_ : Aside0 (Kd.V k36 36 w29 w.heap.size (fun k_ => ((P0_ k_ ∨ P1_ k_) ∨ w.heap.size ≤ k_) ∧ k_ ≠ gb352) (.slice Ao24 x0_2.length co24) x0_2) := ⟨(by rw [hw]; exact (by (with_reducible repeat (first | apply Kd.V_alloc | apply Kd.V_drewN | apply Kd.V_drew)); exact Kd.V_mono (Kd.V_far (p := ⟨gb352, 2, none⟩) (Kd.V_far (p := ⟨gb352, 1, none⟩) (Kd.V_far (p := ⟨gb352, 0, none⟩) (Kd.V_mono HO_0.out (fun k_ hk => (⟨hk, hk.2⟩ : _ ∧ k_ ≠ gb352))) (fun _ hk => hk.2) (.int .i64 t348)) (fun _ hk => hk.2) (.int .i64 t349)) (fun _ hk => hk.2) (.int .i64 t350)) (fun _ hk => ⟨hk.1.1, hk.1.2⟩)))⟩; have n1_ : Aside0 (Kd.V k36 36 w29 w.heap.size (fun k_ => ((P0_ k_ ∨ P1_ k_) ∨ w.heap.size ≤ k_) ∧ k_ ≠ gb352) (.slice Ao25 x1_2.length co25) x1_2) := ⟨(by rw [hw]; exact (by (with_reducible repeat (first | apply Kd.V_alloc | apply Kd.V_drewN | apply Kd.V_drew)); exact Kd.V_mono (Kd.V_far (p := ⟨gb352, 2, none⟩) (Kd.V_far (p := ⟨gb352, 1, none⟩) (Kd.V_far (p := ⟨gb352, 0, none⟩) (Kd.V_mono HO_1.out (fun k_ hk => (⟨hk, hk.2⟩ : _ ∧ k_ ≠ gb352))) (fun _ hk => hk.2) (.int .i64 t348)) (fun _ hk => hk.2) (.int .i64 t349)) (fun _ hk => hk.2) (.int .i64 t350)) (fun _ hk => ⟨hk.1.1, hk.1.2⟩)))⟩; have n2_ : Aside0 (w29.heap[gb352]? = some (.cells #[.int .i64 t348, .int .i64 t349, .int .i64 t350] 65 (0, 0))) := ⟨(by rw [hw]; exact (by (with_reducible repeat (first | refine blk_drewN ?_ _ | refine blk_drew ?_ | refine blk_alloc ?_ _)); refine blk_put (cs := #[.int .i64 t348, .int .i64 t349, .int .i64 0]) ?_ 2 _ rfl; (with_reducible repeat (first | refine blk_drewN ?_ _ | refine blk_drew ?_ | refine blk_alloc ?_ _)); refine blk_put (cs := #[.int .i64 t348, .int .i64 0, .int .i64 0]) ?_ 1 _ rfl; (with_reducible repeat (first | refine blk_drewN ?_ _ | refine blk_drew ?_ | refine blk_alloc ?_ _)); refine blk_put (cs := #[.int .i64 0, .int .i64 0, .int .i64 0]) ?_ 0 _ rfl; (with_reducible repeat (first | refine blk_drewN ?_ _ | refine blk_drew ?_ | refine blk_alloc ?_ _)); exact BK352.out))⟩; have n3_ : Aside0 (Below w.heap.size w w29) := ⟨(by rw [hw]; exact upH)⟩; clear hw HO_0 HO_1 BK352 HB; revert n0_ n1_ n2_ n3_; intro HO_0 HO_1 BK352 HB; have hcz30_0 : w29.cell? ⟨gb352, 0, none⟩ = some (.int .i64 t348) := (blk_cell BK352.out 0).trans rfl; have hcz30_1 : w29.cell? ⟨gb352, 1, none⟩ = some (.int .i64 t349) := (blk_cell BK352.out 1).trans rfl; have hcz30_2 : w29.cell? ⟨gb352, 2, none⟩ = some (.int .i64 t350) := (blk_cell BK352.out 2).trans rfl; have hfz30_0 := blk_frozen BK352.out 0; have hfz30_1 := blk_frozen BK352.out 1; have hfz30_2 := blk_frozen BK352.out 2; have q31 : (t348 : Int) ≤ ((x0_2.length : Int) : Int) := of_decide_eq_true aS; obtain ⟨i031, hi031, _, hsz31, _⟩ := info_parts info36; have hroom31 : x0_2.length ≤ co24 := (Kd.V_reads' HO_0.out).2.1; have hC31 : Kd.F k36 _ _ Ao24 x0_2.length x0_2 := (Kd.V_at (base := w.heap.size) HO_0.out).2.2; have q031 : (0 : Int) ≤ (t348 : Int) := of_decide_eq_true aS; have hcut31 := cut_from (P := Try.prog) 25 36 .i64 Try.underlying25 hi031 2 hsz31 Ao24 x0_2.length co24 t348 q031 q31; have hr31 := Kd.F_cut (m := (t348 : Int).toNat) (c := co24) hC31 (by omega) hroom31; obtain ⟨A31, hA31⟩ : ∃ Az_, Az_ = (if co24 = (t348 : Int).toNat then Ao24 else (Ao24 : Option Addr).map (·.add ((t348 : Int).toNat * 2))) := ⟨_, rfl⟩; obtain ⟨c31, hc31⟩ : ∃ cz_, cz_ = co24 - (t348 : Int).toNat := ⟨_, rfl⟩; have hy31 : y353.length = x0_2.length - (t348 : Int).toNat := (by rw [Ny353.out, List.length_drop] <;> omega); rw [show (x0_2).drop (t348 : Int).toNat = y353 from Ny353.out.symm] at hr31; replace hr31 : Kd.F k36 _ _ A31 y353.length y353 := (by rw [hA31]; exact hr31); rw [← hy31, ← hA31, ← hc31] at hcut31; have HO357 := Q0_ (show Kd.V k36 36 _ w.heap.size _ (.slice A31 y353.length c31) y353 from Kd.V_mk (by rw [hy31, hc31]; exact Nat.sub_le_sub_right hroom31 _) hr31); have HC357 := Q0_ (show y353.length ≤ c31 from by rw [hy31, hc31]; exact Nat.sub_le_sub_right hroom31 _); clear hr31 hC31 hroom31 hi031 hsz31 hc31; have KY31 := Aside0.mk hy31; have KA31 := Aside0.mk hA31; clear hy31 hA31; replace q31 := eq_true q31; have q32 : (t349 : Int) ≤ ((x1_2.length : Int) : Int) := of_decide_eq_true aS; obtain ⟨i032, hi032, _, hsz32, _⟩ := info_parts info36; have hroom32 : x1_2.length ≤ co25 := (Kd.V_reads' HO_1.out).2.1; have hC32 : Kd.F k36 _ _ Ao25 x1_2.length x1_2 := (Kd.V_at (base := w.heap.size) HO_1.out).2.2; have q032 : (0 : Int) ≤ (t349 : Int) := of_decide_eq_true aS; have hcut32 := cut_from (P := Try.prog) 25 36 .i64 Try.underlying25 hi032 2 hsz32 Ao25 x1_2.length co25 t349 q032 q32; have hr32 := Kd.F_cut (m := (t349 : Int).toNat) (c := co25) hC32 (by omega) hroom32; obtain ⟨A32, hA32⟩ : ∃ Az_, Az_ = (if co25 = (t349 : Int).toNat then Ao25 else (Ao25 : Option Addr).map (·.add ((t349 : Int).toNat * 2))) := ⟨_, rfl⟩; obtain ⟨c32, hc32⟩ : ∃ cz_, cz_ = co25 - (t349 : Int).toNat := ⟨_, rfl⟩; have hy32 : y358.length = x1_2.length - (t349 : Int).toNat := (by rw [Ny358.out, List.length_drop] <;> omega); rw [show (x1_2).drop (t349 : Int).toNat = y358 from Ny358.out.symm] at hr32; replace hr32 : Kd.F k36 _ _ A32 y358.length y358 := (by rw [hA32]; exact hr32); rw [← hy32, ← hA32, ← hc32] at hcut32; have HO362 := Q0_ (show Kd.V k36 36 _ w.heap.size _ (.slice A32 y358.length c32) y358 from Kd.V_mk (by rw [hy32, hc32]; exact Nat.sub_le_sub_right hroom32 _) hr32); have HC362 := Q0_ (show y358.length ≤ c32 from by rw [hy32, hc32]; exact Nat.sub_le_sub_right hroom32 _); clear hr32 hC32 hroom32 hi032 hsz32 hc32; have KY32 := Aside0.mk hy32; have KA32 := Aside0.mk hA32; clear hy32 hA32; replace q32 := eq_true q32)); try go_wp2_with (first | (go_at_call 49; (with_reducible refine (impl_editOf.calls k2 (bt a2 x22_2) t347 _ A16.out).mono ?_); rintro e w23 ⟨rfl, hb⟩; have n0_ := Q0_ (Kd.V_below (by (with_reducible repeat (first | apply Kd.V_alloc | apply Kd.V_drewN | apply Kd.V_drew)); exact HO_0.out) hb); have n1_ := Q0_ (Kd.V_below (by (with_reducible repeat (first | apply Kd.V_alloc | apply Kd.V_drewN | apply Kd.V_drew)); exact HO_1.out) hb); have n2_ := Q0_ (below_step (upB HB) hb); clear HO_0 HO_1 HB; revert n0_ n1_ n2_; intro HO_0 HO_1 HB; (try clear hb); (try clear hb2); (try clear hk); (try clear hi); obtain ⟨Ao24, co24, eo24⟩ := Kd.V_slice HO_0.out; subst eo24; obtain ⟨Ao25, co25, eo25⟩ := Kd.V_slice HO_1.out; subst eo25) | (go_at_call 45; (with_reducible refine (impl_useOf.calls k2 t347 _ _ x0_2 _ _ x1_2 t348 t349 t350 true _ ?side1 ?side2 ?side3 ?side4 A17.out).mono ?_); (case side1 => repeat (first | exact (Kd.V_reads' HO_0.out).2.2 | (with_reducible refine Kd.C_alloc ?_ _) | (with_reducible refine Kd.C_drewN ?_ _) | (with_reducible refine Kd.C_drew ?_))); (case side2 => exact (Kd.V_reads' HO_0.out).2.1); (case side3 => repeat (first | exact (Kd.V_reads' HO_1.out).2.2 | (with_reducible refine Kd.C_alloc ?_ _) | (with_reducible refine Kd.C_drewN ?_ _) | (with_reducible refine Kd.C_drew ?_))); (case side4 => exact (Kd.V_reads' HO_1.out).2.1); rintro e w26 ⟨rfl, hb⟩; have n0_ := Q0_ (Kd.V_below (by (with_reducible repeat (first | apply Kd.V_alloc | apply Kd.V_drewN | apply Kd.V_drew)); exact HO_0.out) hb); have n1_ := Q0_ (Kd.V_below (by (with_reducible repeat (first | apply Kd.V_alloc | apply Kd.V_drewN | apply Kd.V_drew)); exact HO_1.out) hb); have n2_ := Q0_ (below_step (upB HB) hb); clear HO_0 HO_1 HB; revert n0_ n1_ n2_; intro HO_0 HO_1 HB; (try clear hb); (try clear hb2); (try clear hk); (try clear hi)) | ((with_reducible refine gate_dst (N := 10) rfl ?_); (try (refine gate_guard (by rfl) ?_; dsimp only)); refine box_event ?hg (N := 10) ?hd (cs := #[.int .i64 0, .int .i64 0, .int .i64 0]) (t := 65) ?hr ?_; (case hd => rfl); (case hg => rfl); (case hr => first | (go_simp; done) | (go_simp; rfl)); intro gb352 hg w27 hbox hb; have n0_ := Q0_ (Kd.V_below (Kd.V_elderB (by (with_reducible repeat (first | apply Kd.V_alloc | apply Kd.V_drewN | apply Kd.V_drew)); exact HO_0.out) gb352 (Nat.le_of_eq hg.symm)) hb); have n1_ := Q0_ (Kd.V_below (Kd.V_elderB (by (with_reducible repeat (first | apply Kd.V_alloc | apply Kd.V_drewN | apply Kd.V_drew)); exact HO_1.out) gb352 (Nat.le_of_eq hg.symm)) hb); have n2_ := Q0_ (below_step (upB HB) hb); have n3_ := Q0_ (hbox); have n4_ := Q0_ ((by rw [hg]; exact (below_size (upB HB)) : w.heap.size ≤ gb352)); have n5_ := Q0_ ((by rw [hg]; exact (below_size (upB HB)) : w.heap.size ≤ gb352)); clear HO_0 HO_1 HB; revert n0_ n1_ n2_ n3_ n4_ n5_; intro HO_0 HO_1 HB BK352 GW352 GE352; clear hb hbox hg; have hcz28_0 : w27.cell? ⟨gb352, 0, none⟩ = some (.int .i64 0) := (blk_cell BK352.out 0).trans rfl; have hcz28_1 : w27.cell? ⟨gb352, 1, none⟩ = some (.int .i64 0) := (blk_cell BK352.out 1).trans rfl; have hcz28_2 : w27.cell? ⟨gb352, 2, none⟩ = some (.int .i64 0) := (blk_cell BK352.out 2).trans rfl; have hfz28_0 := blk_frozen BK352.out 0; have hfz28_1 := blk_frozen BK352.out 1; have hfz28_2 := blk_frozen BK352.out 2) | ((with_reducible refine gate_store (t := 65) (p := 10) rfl ?_); (try (rw [drewN_self w27]; generalize hq_ : World.drewN w27 _ = w27; have n0_ := Q0_ (Kd.V_at hq_ HO_0.out); have n1_ := Q0_ (Kd.V_at hq_ HO_1.out); have n2_ := Q0_ (blk_at hq_ BK352.out); have n3_ := Q0_ (below_at hq_ HB.out); clear hq_ HO_0 HO_1 BK352 HB; have HO_0 := n0_; have HO_1 := n1_; have BK352 := n2_; have HB := n3_; clear n0_ n1_ n2_ n3_)); refine store_event (t := 65) (p := 10) (v := ?vo_w29) (w1 := (((w27.setCell ⟨gb352, 0, none⟩ (.int .i64 t348)).setCell ⟨gb352, 1, none⟩ (.int .i64 t349)).setCell ⟨gb352, 2, none⟩ (.int .i64 t350))) ?hg ?ho ?hn ?hr ?_; (case ho => rfl); (case hg => rfl); (case hn => rfl); (case hr => first | (go_simp; done) | (go_simp; rfl)); intro w29 hw; have n0_ : Aside0 (Kd.V k36 36 w29 w.heap.size (fun k_ => ((P0_ k_ ∨ P1_ k_) ∨ w.heap.size ≤ k_) ∧ k_ ≠ gb352) (.slice Ao24 x0_2.length co24) x0_2) := ⟨(by rw [hw]; exact (by (with_reducible repeat (first | apply Kd.V_alloc | apply Kd.V_drewN | apply Kd.V_drew)); exact Kd.V_mono (Kd.V_far (p := ⟨gb352, 2, none⟩) (Kd.V_far (p := ⟨gb352, 1, none⟩) (Kd.V_far (p := ⟨gb352, 0, none⟩) (Kd.V_mono HO_0.out (fun k_ hk => (⟨hk, hk.2⟩ : _ ∧ k_ ≠ gb352))) (fun _ hk => hk.2) (.int .i64 t348)) (fun _ hk => hk.2) (.int .i64 t349)) (fun _ hk => hk.2) (.int .i64 t350)) (fun _ hk => ⟨hk.1.1, hk.1.2⟩)))⟩; have n1_ : Aside0 (Kd.V k36 36 w29 w.heap.size (fun k_ => ((P0_ k_ ∨ P1_ k_) ∨ w.heap.size ≤ k_) ∧ k_ ≠ gb352) (.slice Ao25 x1_2.length co25) x1_2) := ⟨(by rw [hw]; exact (by (with_reducible repeat (first | apply Kd.V_alloc | apply Kd.V_drewN | apply Kd.V_drew)); exact Kd.V_mono (Kd.V_far (p := ⟨gb352, 2, none⟩) (Kd.V_far (p := ⟨gb352, 1, none⟩) (Kd.V_far (p := ⟨gb352, 0, none⟩) (Kd.V_mono HO_1.out (fun k_ hk => (⟨hk, hk.2⟩ : _ ∧ k_ ≠ gb352))) (fun _ hk => hk.2) (.int .i64 t348)) (fun _ hk => hk.2) (.int .i64 t349)) (fun _ hk => hk.2) (.int .i64 t350)) (fun _ hk => ⟨hk.1.1, hk.1.2⟩)))⟩; have n2_ : Aside0 (w29.heap[gb352]? = some (.cells #[.int .i64 t348, .int .i64 t349, .int .i64 t350] 65 (0, 0))) := ⟨(by rw [hw]; exact (by (with_reducible repeat (first | refine blk_drewN ?_ _ | refine blk_drew ?_ | refine blk_alloc ?_ _)); refine blk_put (cs := #[.int .i64 t348, .int .i64 t349, .int .i64 0]) ?_ 2 _ rfl; (with_reducible repeat (first | refine blk_drewN ?_ _ | refine blk_drew ?_ | refine blk_alloc ?_ _)); refine blk_put (cs := #[.int .i64 t348, .int .i64 0, .int .i64 0]) ?_ 1 _ rfl; (with_reducible repeat (first | refine blk_drewN ?_ _ | refine blk_drew ?_ | refine blk_alloc ?_ _)); refine blk_put (cs := #[.int .i64 0, .int .i64 0, .int .i64 0]) ?_ 0 _ rfl; (with_reducible repeat (first | refine blk_drewN ?_ _ | refine blk_drew ?_ | refine blk_alloc ?_ _)); exact BK352.out))⟩; have n3_ : Aside0 (Below w.heap.size w w29) := ⟨(by rw [hw]; exact upH)⟩; clear hw HO_0 HO_1 BK352 HB; revert n0_ n1_ n2_ n3_; intro HO_0 HO_1 BK352 HB; have hcz30_0 : w29.cell? ⟨gb352, 0, none⟩ = some (.int .i64 t348) := (blk_cell BK352.out 0).trans rfl; have hcz30_1 : w29.cell? ⟨gb352, 1, none⟩ = some (.int .i64 t349) := (blk_cell BK352.out 1).trans rfl; have hcz30_2 : w29.cell? ⟨gb352, 2, none⟩ = some (.int .i64 t350) := (blk_cell BK352.out 2).trans rfl; have hfz30_0 := blk_frozen BK352.out 0; have hfz30_1 := blk_frozen BK352.out 1; have hfz30_2 := blk_frozen BK352.out 2; have q31 : (t348 : Int) ≤ ((x0_2.length : Int) : Int) := of_decide_eq_true aS; obtain ⟨i031, hi031, _, hsz31, _⟩ := info_parts info36; have hroom31 : x0_2.length ≤ co24 := (Kd.V_reads' HO_0.out).2.1; have hC31 : Kd.F k36 _ _ Ao24 x0_2.length x0_2 := (Kd.V_at (base := w.heap.size) HO_0.out).2.2; have q031 : (0 : Int) ≤ (t348 : Int) := of_decide_eq_true aS; have hcut31 := cut_from (P := Try.prog) 25 36 .i64 Try.underlying25 hi031 2 hsz31 Ao24 x0_2.length co24 t348 q031 q31; have hr31 := Kd.F_cut (m := (t348 : Int).toNat) (c := co24) hC31 (by omega) hroom31; obtain ⟨A31, hA31⟩ : ∃ Az_, Az_ = (if co24 = (t348 : Int).toNat then Ao24 else (Ao24 : Option Addr).map (·.add ((t348 : Int).toNat * 2))) := ⟨_, rfl⟩; obtain ⟨c31, hc31⟩ : ∃ cz_, cz_ = co24 - (t348 : Int).toNat := ⟨_, rfl⟩; have hy31 : y353.length = x0_2.length - (t348 : Int).toNat := (by rw [Ny353.out, List.length_drop] <;> omega); rw [show (x0_2).drop (t348 : Int).toNat = y353 from Ny353.out.symm] at hr31; replace hr31 : Kd.F k36 _ _ A31 y353.length y353 := (by rw [hA31]; exact hr31); rw [← hy31, ← hA31, ← hc31] at hcut31; have HO357 := Q0_ (show Kd.V k36 36 _ w.heap.size _ (.slice A31 y353.length c31) y353 from Kd.V_mk (by rw [hy31, hc31]; exact Nat.sub_le_sub_right hroom31 _) hr31); have HC357 := Q0_ (show y353.length ≤ c31 from by rw [hy31, hc31]; exact Nat.sub_le_sub_right hroom31 _); clear hr31 hC31 hroom31 hi031 hsz31 hc31; have KY31 := Aside0.mk hy31; have KA31 := Aside0.mk hA31; clear hy31 hA31; replace q31 := eq_true q31; have q32 : (t349 : Int) ≤ ((x1_2.length : Int) : Int) := of_decide_eq_true aS; obtain ⟨i032, hi032, _, hsz32, _⟩ := info_parts info36; have hroom32 : x1_2.length ≤ co25 := (Kd.V_reads' HO_1.out).2.1; have hC32 : Kd.F k36 _ _ Ao25 x1_2.length x1_2 := (Kd.V_at (base := w.heap.size) HO_1.out).2.2; have q032 : (0 : Int) ≤ (t349 : Int) := of_decide_eq_true aS; have hcut32 := cut_from (P := Try.prog) 25 36 .i64 Try.underlying25 hi032 2 hsz32 Ao25 x1_2.length co25 t349 q032 q32; have hr32 := Kd.F_cut (m := (t349 : Int).toNat) (c := co25) hC32 (by omega) hroom32; obtain ⟨A32, hA32⟩ : ∃ Az_, Az_ = (if co25 = (t349 : Int).toNat then Ao25 else (Ao25 : Option Addr).map (·.add ((t349 : Int).toNat * 2))) := ⟨_, rfl⟩; obtain ⟨c32, hc32⟩ : ∃ cz_, cz_ = co25 - (t349 : Int).toNat := ⟨_, rfl⟩; have hy32 : y358.length = x1_2.length - (t349 : Int).toNat := (by rw [Ny358.out, List.length_drop] <;> omega); rw [show (x1_2).drop (t349 : Int).toNat = y358 from Ny358.out.symm] at hr32; replace hr32 : Kd.F k36 _ _ A32 y358.length y358 := (by rw [hA32]; exact hr32); rw [← hy32, ← hA32, ← hc32] at hcut32; have HO362 := Q0_ (show Kd.V k36 36 _ w.heap.size _ (.slice A32 y358.length c32) y358 from Kd.V_mk (by rw [hy32, hc32]; exact Nat.sub_le_sub_right hroom32 _) hr32); have HC362 := Q0_ (show y358.length ≤ c32 from by rw [hy32, hc32]; exact Nat.sub_le_sub_right hroom32 _); clear hr32 hC32 hroom32 hi032 hsz32 hc32; have KY32 := Aside0.mk hy32; have KA32 := Aside0.mk hA32; clear hy32 hA32; replace q32 := eq_true q32)))
     go_roundg k2
     case measure => have := HJ3.out; have := HK2.out; omega
     case rel => exact ⟨(y353), (y358), (wrap64 (x8_2 + t350)), (wrap64 (x22_2 + 1)), eX, eX, H', ⟨by have := HJ3.out; have := HK2.out; omega⟩, ⟨by (with_reducible repeat (first | apply Kd.V_alloc | apply Kd.V_drewN | apply Kd.V_drew)); exact Kd.V_mono HO357.out (fun _ hk => hk.1)⟩, ⟨by (with_reducible repeat (first | apply Kd.V_alloc | apply Kd.V_drewN | apply Kd.V_drew)); exact Kd.V_mono HO362.out (fun _ hk => hk.1)⟩, ⟨by repeat (first | (with_reducible first | exact HB.out | apply below_alloc | apply pw_below_drewN | apply below_drew1 | refine below_set ?_ GE352.out) | exact HB.out)⟩⟩
end Go.Proofs.Ythpeiboobnnfgaa.E
end
section
namespace Go.Proofs.Ythpeiboobnnfgaa.E
open Go.RowKit Go.Proofs.YthpeiboobnnfgaaW.PrintWords Go.Proofs.YthpeiboobnnfgaaW.PrintLast Go.Proofs.YthpeiboobnnfgaaW.PrintMore
attribute [local go_sem] max2_int min2_int max_two min_two max_three min_three max_four min_four
set_option linter.unusedVariables false
set_option linter.unusedSimpArgs false
attribute [local go_sem] en63_mk1 en63_mk2 en63_mk3 en63_mk4
attribute [local go_sem] str_leq_ str_gtr_ str_geq_
def impl_EditSum.f (k : Nat) (l0 : List (S36)) (l1 : List (S36)) (a2 : ByteArray) : Option (Int) := (impl_alignmentSum.f k l0 l1 a2).bind fun bt363 => (if bt363.2 = true then (some bt363.1) else (some (-1)))
set_option maxHeartbeats 8000000 in
set_option maxRecDepth 100000 in
theorem impl_EditSum.calls (k : Nat) (A0 : Option Addr) (c0 : Nat) (l0 : List (S36)) (A1 : Option Addr) (c1 : Nat) (l1 : List (S36)) (a2 : ByteArray) (r : Int) (w : World) (hr0 : Kd.C k36 w A0 l0.length l0) (hc0 : l0.length ≤ c0) (hr1 : Kd.C k36 w A1 l1.length l1) (hc1 : l1.length ≤ c1) (h : impl_EditSum.f k l0 l1 a2 = some r) :
  Calls Try.prog 21 #[.slice A0 l0.length c0, .slice A1 l1.length c1, .string a2] w fun e w' => e = .returned (.int .i64 r) ∧ Below w.heap.size w w' := by
 have HR0 := Aside0.mk hr0
 have HC0 := Aside0.mk hc0
 clear hr0 hc0
 have HR1 := Aside0.mk hr1
 have HC1 := Aside0.mk hc1
 clear hr1 hc1
 have HB := Q0_ (Below.refl w.heap.size w)
 have H : ((impl_alignmentSum.f k l0 l1 a2).bind fun bt363 => (if bt363.2 = true then (some bt363.1) else (some (-1)))) = some r := h
 clear h
 obtain ⟨⟨t363, t364⟩, A40, H⟩ := Option.bind_eq_some_iff.mp H
 try dsimp only at H
 have A4 := Aside0.mk A40
 clear A40
 by_cases c5 : t364 = true
 ·subst c5
  replace H := ifP (rfl) H
  obtain rfl := Option.some.inj H
  go_enter Try.func21, Try.ntmps21
  go_wp2_with (first | ((with_reducible refine gate_callee (f := 41) rfl ?_); refine goesL_ (some 13) rfl rfl Try.func41 (by kernel_rfl) rfl #[.slice A0 l0.length c0, .slice A1 l1.length c1, .string a2] rfl hM ?_; (with_reducible refine (impl_alignmentSum.calls k (fun k_ => k_ < w.heap.size) _ _ l0 (fun k_ => k_ < w.heap.size) _ _ l1 a2 t363 true _ ?side1 ?side2 A4.out).mono ?_); (case side1 => exact Kd.V_mk HC0.out (Kd.F_below (Kd.C_F k36_heap HR0.out) (upB HB))); (case side2 => exact Kd.V_mk HC1.out (Kd.F_below (Kd.C_F k36_heap HR1.out) (upB HB))); rintro e w6 ⟨rfl, hb⟩; refine ⟨_, rfl, ?_⟩; have n0_ := Q0_ (below_step (upB HB) hb); clear HB; revert n0_; intro HB; (try clear hb); (try clear hb2); (try clear hk); (try clear hi)))
  go_ret
  exact ⟨by first | rfl | (simp [errW_none, errW_some] <;> rfl) | (simp [*, errW_none, errW_some] <;> rfl), by repeat (first | (with_reducible first | exact HB.out | apply below_alloc | apply pw_below_drewN | apply below_drew1) | exact HB.out)⟩
 replace c5 := Bool.eq_false_iff.mpr c5
 subst c5
 replace H := ifN ((show ¬ (false = true) by decide)) H
 obtain rfl := Option.some.inj H
 go_enter Try.func21, Try.ntmps21
 go_wp2_with (first | ((with_reducible refine gate_callee (f := 41) rfl ?_); refine goesL_ (some 13) rfl rfl Try.func41 (by kernel_rfl) rfl #[.slice A0 l0.length c0, .slice A1 l1.length c1, .string a2] rfl hM ?_; (with_reducible refine (impl_alignmentSum.calls k (fun k_ => k_ < w.heap.size) _ _ l0 (fun k_ => k_ < w.heap.size) _ _ l1 a2 t363 false _ ?side1 ?side2 A4.out).mono ?_); (case side1 => exact Kd.V_mk HC0.out (Kd.F_below (Kd.C_F k36_heap HR0.out) (upB HB))); (case side2 => exact Kd.V_mk HC1.out (Kd.F_below (Kd.C_F k36_heap HR1.out) (upB HB))); rintro e w7 ⟨rfl, hb⟩; refine ⟨_, rfl, ?_⟩; have n0_ := Q0_ (below_step (upB HB) hb); clear HB; revert n0_; intro HB; (try clear hb); (try clear hb2); (try clear hk); (try clear hi)))
 go_ret
 exact ⟨by first | rfl | (simp [errW_none, errW_some] <;> rfl) | (simp [*, errW_none, errW_some] <;> rfl), by repeat (first | (with_reducible first | exact HB.out | apply below_alloc | apply pw_below_drewN | apply below_drew1) | exact HB.out)⟩
end Go.Proofs.Ythpeiboobnnfgaa.E
end
section
namespace Go.Proofs.Ythpeiboobnnfgaa.E
open Go.RowKit Go.Proofs.YthpeiboobnnfgaaW.PrintWords Go.Proofs.YthpeiboobnnfgaaW.PrintLast Go.Proofs.YthpeiboobnnfgaaW.PrintMore
attribute [local go_sem] max2_int min2_int max_two min_two max_three min_three max_four min_four
set_option linter.unusedVariables false
set_option linter.unusedSimpArgs false
attribute [local go_sem] en63_mk1 en63_mk2 en63_mk3 en63_mk4
attribute [local go_sem] str_leq_ str_gtr_ str_geq_
def IsS79 (w0 W : World) (g : Nat) (f0 : List Int) (f1 : Int) : Prop := ∃ A0 c0, W.heap[g]? = some (.cells #[.slice A0 f0.length c0, .int .i64 f1] 79 (0, 0)) ∧ w0.heap.size ≤ g ∧ Kd.C (Kd.int .u8) w0 A0 f0.length f0
theorem IsS79.grown {w0 W : World} {g : Nat} {f0 : List Int} {f1 : Int} {W1 : World} {row : Option Nat} (h : IsS79 w0 W g f0 f1) (hw : W.grownBy W1 row) (hne : some g ≠ row) : IsS79 w0 W1 g f0 f1 := by
 obtain ⟨A0, c0, hb, hg, hr0⟩ := h
 exact ⟨A0, c0, blk_grown hb hw hne, hg, hr0⟩
theorem IsS79.below {w0 W : World} {g : Nat} {f0 : List Int} {f1 : Int} {W1 : World} (h : IsS79 w0 W g f0 f1) (hw : Below W.heap.size W W1) : IsS79 w0 W1 g f0 f1 := h.grown (grown_of_below hw none) (by simp)
theorem IsS79.drewN {w0 W : World} {g : Nat} {f0 : List Int} {f1 : Int} (h : IsS79 w0 W g f0 f1) (m : Nat) : IsS79 w0 (W.drewN m) g f0 f1 := h
theorem IsS79.drew {w0 W : World} {g : Nat} {f0 : List Int} {f1 : Int} (h : IsS79 w0 W g f0 f1) : IsS79 w0 W.drew g f0 f1 := h
theorem IsS79.apart {w0 W : World} {g : Nat} {f0 : List Int} {f1 : Int} {α : Type} {d : Kd α} {e : Nat} {base : Nat} {ok : Nat → Prop} {v : Value} {xs : List α} (h : IsS79 w0 W g f0 f1) (ho : d.R e W base ok v xs) (ht : ∀ q, q ∈ e :: d.E → q ≠ 79) : d.R e W base (fun k => ok k ∧ k ≠ g) v xs := by
 obtain ⟨A0, c0, hb, hg, hr0⟩ := h
 exact Kd.R_types ho hb ht
theorem IsS79.own_ne {w0 W : World} {g : Nat} {f0 : List Int} {f1 : Int} {α : Type} {d : Kd α} {e : Nat} {base : Nat} {ok : Nat → Prop} {v : Value} {xs : List α} (h : IsS79 w0 W g f0 f1) (ho : d.R e W base ok v xs) (ht : e ≠ 79) : some g ≠ v.ownBlock := by
 obtain ⟨A0, c0, hb, hg, hr0⟩ := h
 exact Kd.R_ne ho hb ht
theorem IsS79.ge {w0 W : World} {g : Nat} {f0 : List Int} {f1 : Int} (h : IsS79 w0 W g f0 f1) : w0.heap.size ≤ g := by
 obtain ⟨A0, c0, hb, hg, hr0⟩ := h
 exact hg
theorem cellS79_0 {W : World} {g : Nat} {A0 : Option Addr} {c0 : Nat} {f0 : List Int} {f1 : Int} (h : W.heap[g]? = some (.cells #[.slice A0 f0.length c0, .int .i64 f1] 79 (0, 0))) : W.cell? ⟨g, 0, none⟩ = some (.slice A0 f0.length c0) := (blk_cell h 0).trans rfl
theorem cellS79_1 {W : World} {g : Nat} {A0 : Option Addr} {c0 : Nat} {f0 : List Int} {f1 : Int} (h : W.heap[g]? = some (.cells #[.slice A0 f0.length c0, .int .i64 f1] 79 (0, 0))) : W.cell? ⟨g, 1, none⟩ = some (.int .i64 f1) := (blk_cell h 1).trans rfl
theorem IsS79.set_1 {w0 W : World} {g : Nat} {f0 : List Int} {f1 : Int} (h : IsS79 w0 W g f0 f1) (x : Int) : IsS79 w0 (W.setCell ⟨g, 1, none⟩ (.int .i64 x)) g f0 x := by
 obtain ⟨A0, c0, hb, hg, hr0⟩ := h
 exact ⟨A0, c0, by simpa using blk_set hb 1 (.int .i64 x), hg, hr0⟩
def spec_l6Open.f (l0 : List Int) : Option (List Int × Int) := if (l0.length : Int) > 2000 then (if 2000 ≤ (l0.length : Int) then (some (l0.take 2000, 0)) else (none)) else (some (l0, 0))
set_option maxHeartbeats 8000000 in
set_option maxRecDepth 100000 in
theorem spec_l6Open.calls (A0 : Option Addr) (c0 : Nat) (l0 : List Int) (r1 : List Int) (r2 : Int) (w0 w : World) (hB : Below w0.heap.size w0 w) (hr0 : Kd.C (Kd.int .u8) w0 A0 l0.length l0) (hc0 : l0.length ≤ c0) (h : spec_l6Open.f l0 = some (r1, r2)) :
  Calls Try.prog 43 #[.slice A0 l0.length c0] w fun e w' => ∃ g_ : Nat, e = .returned (.pointer (some ⟨g_, 0, none⟩)) ∧ IsS79 w0 w' g_ r1 r2 ∧ Below w0.heap.size w0 w' ∧ Below w.heap.size w w' := by
 have hu79 := Try.underlying79
 have HR0 := Aside0.mk hr0
 have HC0 := Aside0.mk hc0
 clear hr0 hc0
 have HBW := Q0_ (Below.refl w.heap.size w)
 have HW0 := Aside0.mk hB.size
 have HB := Aside0.mk hB
 clear hB
 have H : (if (l0.length : Int) > 2000 then (if 2000 ≤ (l0.length : Int) then (some (l0.take 2000, 0)) else (none)) else (some (l0, 0))) = some (r1, r2) := h
 clear h
 by_cases c2 : (l0.length : Int) > 2000
 rotate_left
 ·rw [if_neg c2] at H
  have c2b0 : decide (2000 < (l0.length : Int)) = false := decide_eq_false c2
  have c2b1 : decide (2000 < l0.length) = false := decide_eq_false (by omega)
  clear c2
  simp only [Option.some.injEq, Prod.mk.injEq] at H
  obtain ⟨rfl, rfl⟩ := H
  go_enter Try.func43, Try.ntmps43
  go_wp2_with (first | ((with_reducible refine gate_dst (N := 10) rfl ?_); refine box_event ?hg (N := 10) ?hd (cs := #[.slice A0 l0.length c0, .int .i64 0]) (t := 79) ?hr ?_; (case hd => rfl); (case hg => rfl); (case hr => first | (go_simp; done) | (go_simp; rfl)); intro gb367 hg w6 hbox hb; have n0_ := Q0_ (below_step HBW.out hb); have n1_ := Q0_ (below_step (upB HB) hb); have n2_ := Q0_ (hbox); have n3_ := Q0_ ((by rw [hg]; exact (below_size (by repeat (first | (with_reducible first | exact HBW.out | apply below_alloc | apply pw_below_drewN | apply below_drew1) | exact HBW.out))) : w.heap.size ≤ gb367)); have n4_ := Q0_ ((Nat.le_trans HW0.out (by rw [hg]; exact (below_size (by repeat (first | (with_reducible first | exact HBW.out | apply below_alloc | apply pw_below_drewN | apply below_drew1) | exact HBW.out))) : w.heap.size ≤ gb367) : w0.heap.size ≤ gb367)); clear HBW HB; revert n0_ n1_ n2_ n3_ n4_; intro HBW HB BK367 GW367 GE367; clear hb hbox hg))
  go_ret
  exact ⟨_, rfl, (show IsS79 w0 _ gb367 l0 0 from ⟨_, _, by (with_reducible repeat (first | refine blk_drewN ?_ _ | refine blk_drew ?_ | refine blk_alloc ?_ _)); exact BK367.out, GE367.out, HR0.out⟩), by repeat (first | (with_reducible first | exact HB.out | apply below_alloc | apply pw_below_drewN | apply below_drew1 | refine below_set ?_ GE367.out) | exact HB.out), by repeat (first | (with_reducible first | exact HBW.out | apply below_alloc | apply pw_below_drewN | apply below_drew1 | refine below_set ?_ GW367.out) | exact HBW.out)⟩
 rw [if_pos c2] at H
 have c2b0 : decide (2000 < (l0.length : Int)) = true := decide_eq_true c2
 have c2b1 : decide (2000 < l0.length) = true := decide_eq_true (by omega)
 clear c2
 by_cases c3 : 2000 ≤ (l0.length : Int)
 rotate_left
 ·rw [if_neg c3] at H
  exact absurd H (by simp)
 rw [if_pos c3] at H
 have c3b0 := eq_true c3
 have c3b1 : decide (2000 ≤ (l0.length : Int)) = true := decide_eq_true c3
 clear c3
 simp only [Option.some.injEq, Prod.mk.injEq] at H
 obtain ⟨rfl, rfl⟩ := H
 obtain ⟨i04, hi04, _, hsz4, _⟩ := info_parts info5
 obtain ⟨hcut4, hA4, hC4⟩ := print_take_of (P := Try.prog) (Value.int .u8) 0 32 5 .i64 Try.underlying32 hi04 hsz4 A0 c0 l0 2000 (by omega) (of_decide_eq_true aS) HC0.out
 have HR365 := Q0_ (Kd.C_of_reads (h1 := fun _ => rfl) (hA4 _ (Kd.reads_of_C HR0.out)))
 have HC365 := Aside0.mk hC4
 clear hA4 hC4 hi04 hsz4
 go_enter Try.func43, Try.ntmps43
 go_wp2_with (first | ((with_reducible refine gate_dst (N := 10) rfl ?_); refine box_event ?hg (N := 10) ?hd (cs := #[.slice A0 (l0.take 2000).length c0, .int .i64 0]) (t := 79) ?hr ?_; (case hd => rfl); (case hg => rfl); (case hr => first | (go_simp; done) | (go_simp; rfl)); intro gb366 hg w5 hbox hb; have n0_ := Q0_ (below_step HBW.out hb); have n1_ := Q0_ (below_step (upB HB) hb); have n2_ := Q0_ (hbox); have n3_ := Q0_ ((by rw [hg]; exact (below_size (by repeat (first | (with_reducible first | exact HBW.out | apply below_alloc | apply pw_below_drewN | apply below_drew1) | exact HBW.out))) : w.heap.size ≤ gb366)); have n4_ := Q0_ ((Nat.le_trans HW0.out (by rw [hg]; exact (below_size (by repeat (first | (with_reducible first | exact HBW.out | apply below_alloc | apply pw_below_drewN | apply below_drew1) | exact HBW.out))) : w.heap.size ≤ gb366) : w0.heap.size ≤ gb366)); clear HBW HB; revert n0_ n1_ n2_ n3_ n4_; intro HBW HB BK366 GW366 GE366; clear hb hbox hg))
 go_ret
 exact ⟨_, rfl, (show IsS79 w0 _ gb366 (l0.take 2000) 0 from ⟨_, _, by (with_reducible repeat (first | refine blk_drewN ?_ _ | refine blk_drew ?_ | refine blk_alloc ?_ _)); exact BK366.out, GE366.out, HR365.out⟩), by repeat (first | (with_reducible first | exact HB.out | apply below_alloc | apply pw_below_drewN | apply below_drew1 | refine below_set ?_ GE366.out) | exact HB.out), by repeat (first | (with_reducible first | exact HBW.out | apply below_alloc | apply pw_below_drewN | apply below_drew1 | refine below_set ?_ GW366.out) | exact HBW.out)⟩
end Go.Proofs.Ythpeiboobnnfgaa.E
end
section
namespace Go.Proofs.Ythpeiboobnnfgaa.E
open Go.RowKit Go.Proofs.YthpeiboobnnfgaaW.PrintWords Go.Proofs.YthpeiboobnnfgaaW.PrintLast Go.Proofs.YthpeiboobnnfgaaW.PrintMore
attribute [local go_sem] max2_int min2_int max_two min_two max_three min_three max_four min_four
set_option linter.unusedVariables false
set_option linter.unusedSimpArgs false
attribute [local go_sem] en63_mk1 en63_mk2 en63_mk3 en63_mk4
attribute [local go_sem] str_leq_ str_gtr_ str_geq_
mutual
def spec_l7Costs.l0 : Nat → List (S36) → List (S36) → List (List Int) → Int → Option ((List (List Int)))
 | 0, _, _, _, _ => none
 | k + 1, x0, x1, x5, x6 => if x6 ≥ 0 then (if 0 ≤ (wrap64 ((x1.length : Int) + 1)) then (if (wrap64 ((x1.length : Int) + 1) : Int).toNat ≤ 35184372088832 then (if 0 ≤ x6 then (if x6 < (x5.length : Int) then (spec_l7Costs.l1 k x0 x1 (x5.set (x6 : Int).toNat (List.replicate (wrap64 ((x1.length : Int) + 1) : Int).toNat 0)) x6 (x1.length : Int)) else (none)) else (none)) else (none)) else (none)) else (some x5)
def spec_l7Costs.l1 : Nat → List (S36) → List (S36) → List (List Int) → Int → Int → Option ((List (List Int)))
 | 0, _, _, _, _, _ => none
 | k + 1, x0, x1, x5, x6, x7 => if x7 ≥ 0 then (if x6 = (x0.length : Int) then (if 0 ≤ x6 then (if x6 < (x5.length : Int) then (if 0 ≤ x7 then (if x7 < ((rd_L4 x5 x6).length : Int) then (spec_l7Costs.l1 k x0 x1 (x5.set (x6 : Int).toNat ((rd_L4 x5 x6).set (x7 : Int).toNat (wrap64 (2 * (wrap64 ((x1.length : Int) - x7)))))) x6 (wrap64 (x7 - 1))) else (none)) else (none)) else (none)) else (none)) else (if x7 = (x1.length : Int) then (if 0 ≤ x6 then (if x6 < (x5.length : Int) then (if 0 ≤ x7 then (if x7 < ((rd_L4 x5 x6).length : Int) then (spec_l7Costs.l1 k x0 x1 (x5.set (x6 : Int).toNat ((rd_L4 x5 x6).set (x7 : Int).toNat (wrap64 (2 * (wrap64 ((x0.length : Int) - x6)))))) x6 (wrap64 (x7 - 1))) else (none)) else (none)) else (none)) else (none)) else (if 0 ≤ (wrap64 (x6 + 1)) then (if (wrap64 (x6 + 1)) < (x5.length : Int) then (if 0 ≤ x7 then (if x7 < ((rd_L4 x5 (wrap64 (x6 + 1))).length : Int) then (if 0 ≤ x6 then (if x6 < (x5.length : Int) then (if 0 ≤ (wrap64 (x7 + 1)) then (if (wrap64 (x7 + 1)) < ((rd_L4 x5 x6).length : Int) then (if (wrap64 (x7 + 1)) < ((rd_L4 x5 (wrap64 (x6 + 1))).length : Int) then (if x6 < (x0.length : Int) then (if x7 < (x1.length : Int) then ((spec_l7Replace.f ((rd_T36 x0 x6).f0) ((rd_T36 x0 x6).f1) ((rd_T36 x1 x7).f0) ((rd_T36 x1 x7).f1)).bind fun t147 => (if x7 < ((rd_L4 x5 x6).length : Int) then (spec_l7Costs.l1 k x0 x1 (x5.set (x6 : Int).toNat ((rd_L4 x5 x6).set (x7 : Int).toNat (mn (wrap64 ((mn (rd (rd_L4 x5 (wrap64 (x6 + 1))) x7) (rd (rd_L4 x5 x6) (wrap64 (x7 + 1)))) + 2)) (wrap64 ((rd (rd_L4 x5 (wrap64 (x6 + 1))) (wrap64 (x7 + 1))) + t147))))) x6 (wrap64 (x7 - 1))) else (none))) else (none)) else (none)) else (none)) else (none)) else (none)) else (none)) else (none)) else (none)) else (none)) else (none)) else (none)))) else (spec_l7Costs.l0 k x0 x1 x5 (wrap64 (x6 - 1)))
end
def spec_l7Costs.f (k : Nat) (l0 : List (S36)) (l1 : List (S36)) : Option ((List (List Int))) := if 0 ≤ (wrap64 ((l0.length : Int) + 1)) then (if (wrap64 ((l0.length : Int) + 1) : Int).toNat ≤ 11728124029610 then (spec_l7Costs.l0 k l0 l1 (List.replicate (wrap64 ((l0.length : Int) + 1) : Int).toNat []) (l0.length : Int)) else (none)) else (none)
def spec_l7Costs.T9 : Bool × List (List Nat × List Nat) := (true, [([], []), ([], []), ([1], [1]), ([0, 2], [0, 2]), ([3], [3]), ([], []), ([4, 5], [4, 5]), ([6], [6]), ([], []), ([], []), ([8, 9], [8, 9]), ([10], [10]), ([], []), ([12], [12]), ([11, 13], [11, 13]), ([14], [14]), ([7, 15], [7, 15]), ([16], [16]), ([17, 0, 1, 2, 3, 4, 5, 6, 7, 8, 9, 10, 11, 12, 13, 14, 15, 16, 17], [17])])
def spec_l7Costs.B9 : List Nat := [0, 0, 2, 7, 15, 0, 63, 127, 0, 0, 768, 1792, 0, 4096, 16128, 32512, 65535, 131071, 262143]
theorem spec_l7Costs.tab9 : rtab .any (opsOf Try.f38 9) = spec_l7Costs.T9 := by kernel_rfl
theorem spec_l7Costs.bits9 : waitsOk spec_l7Costs.T9.2 spec_l7Costs.B9 = true := by kernel_rfl
def spec_l7Costs.T10 : Bool × List (List Nat × List Nat) := (true, [([], []), ([], []), ([0, 1], [0, 1]), ([2], [2]), ([], []), ([], []), ([], []), ([], []), ([7], [7]), ([6, 8], [6, 8]), ([9], [9]), ([], []), ([11], [11]), ([10, 12], [10, 12]), ([13], [13]), ([], []), ([], []), ([15, 16], [15, 16]), ([17], [17]), ([], []), ([], []), ([19, 20], [19, 20]), ([21], [21]), ([18, 22], [18, 22]), ([14, 23], [14, 23]), ([5, 24], [5, 24]), ([3, 4, 0, 1, 2, 3, 4, 5, 6, 7, 8, 9, 10, 11, 12, 13, 14, 15, 16, 17, 18, 19, 20, 21, 22, 23, 24, 25], [3, 4]), ([26, 25, 23, 0, 1, 2, 3, 4, 5, 6, 7, 8, 9, 10, 11, 12, 13, 14, 15, 16, 17, 18, 19, 20, 21, 22, 23, 24, 25], [25, 26])])
def spec_l7Costs.B10 : List Nat := [0, 0, 3, 7, 0, 0, 0, 0, 128, 448, 960, 0, 2048, 8128, 16320, 0, 0, 98304, 229376, 0, 0, 1572864, 3670016, 8355840, 16777152, 33554400, 67108863, 134217727]
theorem spec_l7Costs.tab10 : rtab .any (opsOf Try.f38 10) = spec_l7Costs.T10 := by kernel_rfl
theorem spec_l7Costs.bits10 : waitsOk spec_l7Costs.T10.2 spec_l7Costs.B10 = true := by kernel_rfl
set_option maxHeartbeats 8000000 in
set_option maxRecDepth 100000 in
theorem spec_l7Costs.calls (k : Nat) (A0 : Option Addr) (c0 : Nat) (l0 : List (S36)) (A1 : Option Addr) (c1 : Nat) (l1 : List (S36)) (r : List (List Int)) (w : World) (hr0 : Kd.C k36 w A0 l0.length l0) (hc0 : l0.length ≤ c0) (hr1 : Kd.C k36 w A1 l1.length l1) (hc1 : l1.length ≤ c1) (h : spec_l7Costs.f k l0 l1 = some r) :
  Calls Try.prog 38 #[.slice A0 l0.length c0, .slice A1 l1.length c1] w fun e w' => ∃ v0_ : Value, e = .returned (v0_) ∧ Kd.S (Kd.slice 3 (Kd.int .i64)) 46 w' w.heap.size (fun _ => True) v0_ r ∧ Below w.heap.size w w' := by
 have hu36 := Try.underlying36
 have HR0 := Aside0.mk hr0
 have HC0 := Aside0.mk hc0
 clear hr0 hc0
 have HR1 := Aside0.mk hr1
 have HC1 := Aside0.mk hc1
 clear hr1 hc1
 have HB := Q0_ (Below.refl w.heap.size w)
 have H : (if 0 ≤ (wrap64 ((l0.length : Int) + 1)) then (if (wrap64 ((l0.length : Int) + 1) : Int).toNat ≤ 11728124029610 then (spec_l7Costs.l0 k l0 l1 (List.replicate (wrap64 ((l0.length : Int) + 1) : Int).toNat []) (l0.length : Int)) else (none)) else (none)) = some r := h
 clear h
 obtain ⟨ji3, hji3⟩ : ∃ j_ : Int, (wrap64 ((l0.length : Int) + 1)) = j_ := ⟨_, rfl⟩
 replace H : (if 0 ≤ (ji3) then (if (ji3 : Int).toNat ≤ 11728124029610 then (spec_l7Costs.l0 k l0 l1 (List.replicate (ji3 : Int).toNat []) (l0.length : Int)) else (none)) else (none)) = some r := by first | (rw [hji3] at H; exact H) | (simp only [hji3] at H ⊢; exact H)
 have hji3w : (IntKind.i64.wrap ((l0.length : Int) + 1)) = ji3 := (i64_w _).trans hji3
 by_cases c4 : 0 ≤ (ji3)
 rotate_left
 ·rw [if_neg c4] at H
  exact absurd H (by simp)
 rw [if_pos c4] at H
 have c4b0 := eq_true c4
 have c4b1 : decide (0 ≤ (ji3)) = true := decide_eq_true c4
 clear c4
 by_cases c5 : (ji3 : Int).toNat ≤ 11728124029610
 rotate_left
 ·rw [if_neg c5] at H
  exact absurd H (by simp)
 rw [if_pos c5] at H
 have c5b0 := eq_true c5
 have c5b1 : decide ((ji3 : Int).toNat ≤ 11728124029610) = true := decide_eq_true c5
 clear c5
 obtain ⟨y123, hy123⟩ : ∃ y_ : List (List Int), y_ = (List.replicate (ji3 : Int).toNat []) := ⟨_, rfl⟩
 replace H : (spec_l7Costs.l0 k l0 l1 y123 (l0.length : Int)) = some r := by first | (rw [hy123]; with_reducible exact H) | (have H2_ := (Option.bind_some _ _).symm.trans H; rw [hy123]; with_reducible exact H2_) | (have H2_ := (Option.bind_some _ _).symm.trans H; with_reducible exact H2_) | with_reducible exact H | (rw [hy123]; exact H) | exact H
 have Ny123 := Aside0.mk hy123
 clear hy123
 have H' := Aside0.mk H
 clear H
 go_enter Try.func38, Try.ntmps38
 go_wp2_with (first | ((with_reducible refine gate_dst (N := 12) rfl ?_); refine Kd.S_make (Kd.slice 3 (Kd.int .i64)) _ 46 rfl (N := 12) rfl 49 _ _ rfl ji3 rfl rfl Try.underlying49 (.slice none 0 0) 24 info46 rfl (by decide) (by omega) [] (ok := fun _ => True) (okp := fun _ => True) ⟨_, rfl, Kd.R_nil _ _ _ _ _⟩ (fun _ hk => hk) trivial (of_decide_eq_true aS) (Nat.le_trans (Nat.mul_le_mul_right _ (of_decide_eq_true aS : ji3.toNat ≤ 11728124029610)) (by omega)) (Below.refl _ _) (Nat.le_refl _) ?_; intro v124 w6 ho7 hb hg_ hnew_; clear hg_ hnew_; (first | rw [← Ny123.out] at ho7 | (simp only [Int.reduceToNat] at ho7; rw [← Ny123.out] at ho7)); have n0_ := Q0_ (Kd.S_lower ho7 (below_size (upB HB))); have n1_ := Q0_ (below_step (upB HB) hb); clear HB; revert n0_ n1_; intro HO125 HB; clear hb ho7))
 go_loopg [6] k (fun kq v6 w' => ∃ (x5_1 : List (List Int)) (x6_1 : Int), v6 = .int .i64 x6_1 ∧ Aside0 (spec_l7Costs.l0 kq l0 l1 x5_1 x6_1 = some r) ∧ Aside0 (kq ≤ k) ∧ Aside0 (Kd.S (Kd.slice 3 (Kd.int .i64)) 46 w' w.heap.size (fun _ => True) v124 x5_1) ∧ Aside0 (Below w.heap.size w w'))
 case atStart => exact ⟨(y123), ((l0.length : Int)), eX, H', ⟨Nat.le_refl _⟩, ⟨by (with_reducible repeat (first | apply Kd.S_alloc | apply Kd.S_drewN | apply Kd.S_drew)); exact HO125.out⟩, ⟨by repeat (first | (with_reducible first | exact HB.out | apply below_alloc | apply pw_below_drewN | apply below_drew1) | exact HB.out)⟩⟩
 case round =>
  clear H'
  try clear c1
  try clear p2
  try clear c3
  try clear c4
  try clear c4b0
  try clear c4b1
  try clear c5
  try clear c5b0
  try clear c5b1
  try clear p6
  obtain ⟨x5_1, x6_1, rfl, HA, HK1, HO_5, HB⟩ := hrel
  cases gk with
  | zero => exact absurd HA.out (by simp [spec_l7Costs.l0])
  | succ k1 =>
   have H := HA.out
   clear HA
   simp only [spec_l7Costs.l0] at H
   by_cases c8 : x6_1 ≥ 0
   rotate_left
   ·rw [if_neg c8] at H
    have c8b0 : decide (0 ≤ x6_1) = false := decide_eq_false c8
    clear c8
    obtain rfl := Option.some.inj H
    go_wp2
    go_ret
    exact ⟨_, by first | rfl | (simp [errW_none, errW_some] <;> rfl) | (simp only [← hji3]; first | rfl | (simp [errW_none, errW_some] <;> rfl)) | (simp [*, errW_none, errW_some] <;> rfl), by (with_reducible repeat (first | apply Kd.S_alloc | apply Kd.S_drewN | apply Kd.S_drew)); exact HO_5.out, by repeat (first | (with_reducible first | exact HB.out | apply below_alloc | apply pw_below_drewN | apply below_drew1) | exact HB.out)⟩
   rw [if_pos c8] at H
   have c8b0 : decide (0 ≤ x6_1) = true := decide_eq_true c8
   clear c8
   obtain ⟨ji9, hji9⟩ : ∃ j_ : Int, (wrap64 ((l1.length : Int) + 1)) = j_ := ⟨_, rfl⟩
   replace H : (if 0 ≤ (ji9) then (if (ji9 : Int).toNat ≤ 35184372088832 then (if 0 ≤ x6_1 then (if x6_1 < (x5_1.length : Int) then (spec_l7Costs.l1 k1 l0 l1 (x5_1.set (x6_1 : Int).toNat (List.replicate (ji9 : Int).toNat 0)) x6_1 (l1.length : Int)) else (none)) else (none)) else (none)) else (none)) = some r := by first | (rw [hji9] at H; exact H) | (simp only [hji9] at H ⊢; exact H)
   have hji9w : (IntKind.i64.wrap ((l1.length : Int) + 1)) = ji9 := (i64_w _).trans hji9
   by_cases c10 : 0 ≤ (ji9)
   rotate_left
   ·rw [if_neg c10] at H
    exact absurd H (by simp)
   rw [if_pos c10] at H
   have c10b0 := eq_true c10
   have c10b1 : decide (0 ≤ (ji9)) = true := decide_eq_true c10
   clear c10
   by_cases c11 : (ji9 : Int).toNat ≤ 35184372088832
   rotate_left
   ·rw [if_neg c11] at H
    exact absurd H (by simp)
   rw [if_pos c11] at H
   have c11b0 := eq_true c11
   have c11b1 : decide ((ji9 : Int).toNat ≤ 35184372088832) = true := decide_eq_true c11
   clear c11
   obtain ⟨y126, hy126⟩ : ∃ y_ : List Int, y_ = (List.replicate (ji9 : Int).toNat 0) := ⟨_, rfl⟩
   replace H : (if 0 ≤ x6_1 then (if x6_1 < (x5_1.length : Int) then (spec_l7Costs.l1 k1 l0 l1 (x5_1.set (x6_1 : Int).toNat y126) x6_1 (l1.length : Int)) else (none)) else (none)) = some r := by first | (rw [hy126]; with_reducible exact H) | (have H2_ := (Option.bind_some _ _).symm.trans H; rw [hy126]; with_reducible exact H2_) | (have H2_ := (Option.bind_some _ _).symm.trans H; with_reducible exact H2_) | with_reducible exact H | (rw [hy126]; exact H) | exact H
   have Ny126 := Aside0.mk hy126
   clear hy126
   by_cases c12 : 0 ≤ x6_1
   rotate_left
   ·rw [if_neg c12] at H
    exact absurd H (by simp)
   rw [if_pos c12] at H
   have c12b0 : decide (0 ≤ x6_1) = true := decide_eq_true c12
   clear c12
   by_cases c13 : x6_1 < (x5_1.length : Int)
   rotate_left
   ·rw [if_neg c13] at H
    exact absurd H (by simp)
   rw [if_pos c13] at H
   have c13b0 : decide (x6_1 < (x5_1.length : Int)) = true := decide_eq_true c13
   clear c13
   obtain ⟨y129, hy129⟩ : ∃ y_ : List (List Int), y_ = (x5_1.set (x6_1 : Int).toNat y126) := ⟨_, rfl⟩
   replace H : (spec_l7Costs.l1 k1 l0 l1 y129 x6_1 (l1.length : Int)) = some r := by first | (rw [hy129]; with_reducible exact H) | (have H2_ := (Option.bind_some _ _).symm.trans H; rw [hy129]; with_reducible exact H2_) | (have H2_ := (Option.bind_some _ _).symm.trans H; with_reducible exact H2_) | with_reducible exact H | (rw [hy129]; exact H) | exact H
   have Ny129 := Aside0.mk hy129
   clear hy129
   have H' := Aside0.mk H
   clear H
   go_wp2_with (first | ((with_reducible refine gate_dst (N := 24) rfl ?_); refine Kd.R_make (Kd.int .i64) _ 3 rfl (N := 24) rfl 46 _ _ rfl ji9 rfl rfl Try.underlying46 (.int .i64 0) 8 info3 rfl (by decide) (by omega) 0 (ok := fun _ => True) (okp := fun _ => True) rfl (fun _ hk => hk) trivial (of_decide_eq_true aS) (Nat.le_trans (Nat.mul_le_mul_right _ (of_decide_eq_true aS : ji9.toNat ≤ 35184372088832)) (by omega)) (Below.refl _ _) (Nat.le_refl _) ?_; intro v127 w15 ho16 hb hg_ hnew_; clear hg_ hnew_; (first | rw [← Ny126.out] at ho16 | (simp only [Int.reduceToNat] at ho16; rw [← Ny126.out] at ho16)); have n0_ := Q0_ (Kd.S_elder' (upS HO_5) (Kd.R_base ho16) hb); have n1_ := Q0_ (Kd.R_lower ho16 (below_size (upB HB))); have n2_ := Q0_ (below_step (upB HB) hb); clear HO_5 HB; revert n0_ n1_ n2_; intro HO_5 HO128 HB; clear hb ho16; have p14 : 0 ≤ (x6_1 : Int) := of_decide_eq_true aS; have q14 : (x6_1 : Int) < ((x5_1.length : Int) : Int) := of_decide_eq_true aS; obtain ⟨go14, co14, eo14, gb14, gl14, cl14, HG14⟩ := Kd.S_form HO_5.out (by omega); (first | cases eo14 | (injection eo14 with ea_ en_ ec_; (first | subst ea_ | (injection ea_ with ea_; subst ea_)); subst ec_; clear en_)); have GB14 := Aside0.mk gb14; have GG14 := Aside0.mk HG14; clear gb14 gl14 HG14; obtain ⟨_, ce14, hcl14, hM14, hcc14, hfr14, _, _⟩ := Kd.S_elem HO_5.out [] (x6_1 : Int) p14 q14; obtain ⟨ve14_0, rfl, ge14_0⟩ := hM14; have hx14_0 := hcc14 0 _ rfl; have hf14_0 := hfr14 0; (try simp only [show ((Kd.slice 3 (Kd.int .i64))).sz = 1 from rfl, Nat.mul_one, Nat.add_zero] at hx14_0); (try simp only [show ((Kd.slice 3 (Kd.int .i64))).sz = 1 from rfl, Nat.mul_one, Nat.add_zero] at hf14_0); (try clear hM14); clear hcl14 hcc14 hfr14; replace p14 := eq_true p14; replace q14 := eq_true q14; obtain ⟨Ao17, co17, eo17⟩ := Kd.R_slice HO128.out; subst eo17; have n_ := Q0_ (Kd.S_mono (ok' := (fun k_ => nb k_ (.slice Ao17 y126.length co17))) HO_5.out (fun k_ hk => hk.2)); clear HO_5; have HO_5 := n_; clear n_; have HX18 := Q0_ (show Kd.S (Kd.slice 3 (Kd.int .i64)) 46 w15 w.heap.size (fun k_ => ((fun _ => True)) k_ ∧ ¬ ((fun k_ => some k_ = (.slice Ao17 y126.length co17 : Value).ownBlock)) k_) (.slice (some ⟨go14, 0, none⟩) x5_1.length co14) x5_1 from (upS' (Kd.S_mono HO_5.out (fun k_ hk => ⟨trivial, fun e_ => hk e_⟩)))); obtain ⟨oki18, ce18, hcl18, hM18, hcc18, hfr18, hoki18, hH18⟩ := Kd.S_elem HX18.out [] (x6_1 : Int) (of_decide_eq_true aS) (by have h_ : (x6_1 : Int) < ((x5_1.length : Int) : Int) := of_decide_eq_true aS; first | exact h_ | (have e_ := (Kd.S_reads' HO_5.out).1; omega) | simpa using h_); obtain ⟨ve18_0, rfl, ge18_0⟩ := hM18; have HP18 := Kd.S_seg hH18 (of_decide_eq_true aS) (by have h_ : (x6_1 : Int) < ((x5_1.length : Int) : Int) := of_decide_eq_true aS; first | exact h_ | (have e_ := (Kd.S_reads' HO_5.out).1; omega) | simpa using h_) (seg := [.slice Ao17 y126.length co17]) (j := 0) (show 1 ≤ 1 from by decide) (x' := y126) (Kd.M_row (Kd.R_mono (Kd.R_tight rfl (Kd.R_mono (ok' := fun k_ => ((fun _ => True)) k_ ∧ k_ ≠ go14) (Kd.R_apart' (HO128.out) (Kd.S_typed HO_5.out) (by decide)) (fun k_ hk => ⟨trivial, fun e_ => (hk.2) (by rw [e_]; rfl)⟩))) (fun _ h_ => Or.inr (h_)))) (fun _ hk => hk) (fun k_ hk_ => ((Kd.R_mono (ok' := fun k_ => ((fun _ => True)) k_ ∧ k_ ≠ go14) (Kd.R_apart' (HO128.out) (Kd.S_typed HO_5.out) (by decide)) (fun k_ hk => ⟨trivial, fun e_ => (hk.2) (by rw [e_]; rfl)⟩))).1 k_ hk_.symm); have hx18_0 := hcc18 0 _ rfl; (try simp only [show ((Kd.slice 3 (Kd.int .i64))).sz = 1 from rfl, Nat.mul_one, Nat.add_zero] at hx18_0); have hf18_0 := hfr18 0; (try simp only [show ((Kd.slice 3 (Kd.int .i64))).sz = 1 from rfl, Nat.mul_one, Nat.add_zero] at hf18_0); (try clear hM18); clear hcl18 hcc18 hfr18 hoki18 hH18; (try simp only [show ((Kd.slice 3 (Kd.int .i64))).sz = 1 from rfl, Nat.mul_one, Nat.add_zero] at HP18)) | ((with_reducible refine gate_store (t := 46) (p := 25) rfl ?_); refine store_event (t := 46) (p := 25) (v := ?vo_w19) (w1 := (w15.setCell ⟨go14, (x6_1 : Int).toNat, none⟩ (.slice Ao17 y126.length co17))) ?hg ?ho ?hn ?hr ?_; (case ho => rfl); (case hg => rfl); (case hn => rfl); (case hr => first | (go_simp; done) | (go_simp; rfl)); intro w19 hw; have hg : w15.grownBy w19 (some go14) := (by rw [hw]; exact HP18.2); have hp_ : Kd.S (Kd.slice 3 (Kd.int .i64)) 46 w19 w.heap.size (fun _ => True) (.slice (some ⟨go14, 0, none⟩) x5_1.length co14) y129 := (by rw [hw, Ny129.out]; exact HP18.1); clear HP18; have n0_ := Q0_ (hp_); have n1_ := Q0_ ((by rw [hw]; exact below_set (HB.out) GB14.out : Below w.heap.size w w19)); clear HO_5 HB HO128; revert n0_ n1_; intro HO_5 HB; clear hg hw hp_))
   go_loopg [7] k1 (fun kq v7 w' => ∃ (x5_2 : List (List Int)) (x7_2 : Int), v7 = .int .i64 x7_2 ∧ Aside0 (spec_l7Costs.l1 kq l0 l1 x5_2 x6_1 x7_2 = some r) ∧ Aside0 (kq ≤ k1) ∧ Aside0 (Kd.S (Kd.slice 3 (Kd.int .i64)) 46 w' w.heap.size (fun _ => True) (.slice (some ⟨go14, 0, none⟩) x5_1.length co14) x5_2) ∧ Aside0 (Below w.heap.size w w'))
   case atStart => exact ⟨(y129), ((l1.length : Int)), eX, H', ⟨Nat.le_refl _⟩, ⟨by (with_reducible repeat (first | apply Kd.S_alloc | apply Kd.S_drewN | apply Kd.S_drew)); exact HO_5.out⟩, ⟨by repeat (first | (with_reducible first | exact HB.out | apply below_alloc | apply pw_below_drewN | apply below_drew1) | exact HB.out)⟩⟩
   case round =>
    clear H'
    try clear c1
    try clear p1
    try clear q1
    try clear hx1
    try clear p2
    try clear c3
    try clear c4
    try clear c4b0
    try clear c4b1
    try clear c5
    try clear c5b0
    try clear c5b1
    try clear p6
    try clear c8
    try clear c8b0
    try clear c10
    try clear c10b0
    try clear c10b1
    try clear c11
    try clear c11b0
    try clear c11b1
    try clear c12
    try clear c12b0
    try clear c13
    try clear c13b0
    try clear c14
    try clear p14
    try clear q14
    try clear hx14
    try clear hf14
    try clear c18
    try clear hx18
    try clear hf18
    try clear hx14_0
    try clear hx18_0
    try clear p14
    try clear p2
    try clear p6
    try clear q14
    obtain ⟨x5_2, x7_2, rfl, HA, HK2, HO_5, HB⟩ := hrel
    have hl5_2 := (Kd.S_reads' HO_5.out).1
    rw [hl5_2] at HO_5
    (try simp only [hl5_2])
    cases gk with
    | zero => exact absurd HA.out (by simp [spec_l7Costs.l1])
    | succ k2 =>
     have H := HA.out
     clear HA
     simp only [spec_l7Costs.l1] at H
     by_cases c20 : x7_2 ≥ 0
     rotate_left
     ·rw [if_neg c20] at H
      have c20b0 : decide (0 ≤ x7_2) = false := decide_eq_false c20
      clear c20
      have H' := Aside0.mk H
      clear H
      go_wp2
      (try simp only [← hl5_2])
      first | go_roundg k2 | ((try simp only [← hji3] at H' ⊢); (try simp only [← hji9] at H' ⊢); go_roundg k2)
      case measure => have := HK1.out; have := HK2.out; omega
      case rel => exact ⟨(x5_2), (wrap64 (x6_1 - 1)), eX, H', ⟨by have := HK1.out; have := HK2.out; omega⟩, ⟨by (try simp only [hl5_2]); (with_reducible repeat (first | apply Kd.S_alloc | apply Kd.S_drewN | apply Kd.S_drew)); exact HO_5.out⟩, ⟨by repeat (first | (with_reducible first | exact HB.out | apply below_alloc | apply pw_below_drewN | apply below_drew1) | exact HB.out)⟩⟩
     rw [if_pos c20] at H
     have c20b0 : decide (0 ≤ x7_2) = true := decide_eq_true c20
     clear c20
     by_cases c21 : x6_1 = (l0.length : Int)
     ·rw [if_pos c21] at H
      have c21b0 : (x6_1 == (l0.length : Int)) = true := beq_iff_eq.mpr c21
      have c21b1 : (x6_1 != (l0.length : Int)) = false := bne_eq_false_iff_eq.mpr c21
      clear c21
      by_cases c22 : 0 ≤ x6_1
      rotate_left
      ·rw [if_neg c22] at H
       exact absurd H (by simp)
      rw [if_pos c22] at H
      have c22b0 : decide (0 ≤ x6_1) = true := decide_eq_true c22
      clear c22
      by_cases c23 : x6_1 < (x5_2.length : Int)
      rotate_left
      ·rw [if_neg c23] at H
       exact absurd H (by simp)
      rw [if_pos c23] at H
      have c23b0 : decide (x6_1 < (x5_2.length : Int)) = true := decide_eq_true c23
      clear c23
      by_cases c24 : 0 ≤ x7_2
      rotate_left
      ·rw [if_neg c24] at H
       exact absurd H (by simp)
      rw [if_pos c24] at H
      have c24b0 : decide (0 ≤ x7_2) = true := decide_eq_true c24
      clear c24
      by_cases c25 : x7_2 < ((rd_L4 x5_2 x6_1).length : Int)
      rotate_left
      ·rw [if_neg c25] at H
       exact absurd H (by simp)
      rw [if_pos c25] at H
      have c25b0 : decide (x7_2 < ((rd_L4 x5_2 x6_1).length : Int)) = true := decide_eq_true c25
      clear c25
      obtain ⟨y131, hy131⟩ : ∃ y_ : List Int, y_ = ((rd_L4 x5_2 x6_1).set (x7_2 : Int).toNat (wrap64 (2 * (wrap64 ((l1.length : Int) - x7_2))))) := ⟨_, rfl⟩
      replace H : (spec_l7Costs.l1 k2 l0 l1 (x5_2.set (x6_1 : Int).toNat y131) x6_1 (wrap64 (x7_2 - 1))) = some r := by first | (rw [hy131]; with_reducible exact H) | (have H2_ := (Option.bind_some _ _).symm.trans H; rw [hy131]; with_reducible exact H2_) | (have H2_ := (Option.bind_some _ _).symm.trans H; with_reducible exact H2_) | with_reducible exact H | (rw [hy131]; exact H) | exact H
      have Ny131 := Aside0.mk hy131
      clear hy131
      obtain ⟨y133, hy133⟩ : ∃ y_ : List (List Int), y_ = (x5_2.set (x6_1 : Int).toNat y131) := ⟨_, rfl⟩
      replace H : (spec_l7Costs.l1 k2 l0 l1 y133 x6_1 (wrap64 (x7_2 - 1))) = some r := by first | (rw [hy133]; with_reducible exact H) | (have H2_ := (Option.bind_some _ _).symm.trans H; rw [hy133]; with_reducible exact H2_) | (have H2_ := (Option.bind_some _ _).symm.trans H; with_reducible exact H2_) | with_reducible exact H | (rw [hy133]; exact H) | exact H
      have Ny133 := Aside0.mk hy133
      clear hy133
      have H' := Aside0.mk H
      clear H
      have p130 : 0 ≤ (x6_1 : Int) := of_decide_eq_true aS
      have q130 : x6_1 < (x5_2.length : Int) := of_decide_eq_true aS
      obtain ⟨ad130, A130_0, c130_0, e130, hx130_0, hl130_0, hi130_0⟩ := at_L4 (Kd.S_reads' HO_5.out).2.2 x6_1 p130 q130
      obtain rfl : (⟨go14, 0, none⟩ : Addr) = ad130 := (by injection e130)
      obtain ⟨ce130, hce130, hMe130, hcc130⟩ := Kd.S_get HO_5.out [] x6_1 p130 (by first | exact q130 | exact of_decide_eq_true aS | (have e_ := (Kd.S_reads' HO_5.out).1; omega))
      obtain ⟨ve130_0, rfl, ge130_0⟩ := hMe130
      have hv130_0 := hcc130 0 _ rfl
      rw [Nat.add_zero, show ((Kd.slice 3 (Kd.int .i64))).sz = 1 from rfl, Nat.mul_one] at hv130_0
      replace hv130_0 := Option.some.inj (hv130_0.symm.trans hx130_0)
      rw [hv130_0] at ge130_0
      have HL130_0 := Q0_ (show Kd.R (Kd.int .i64) 3 _ _ _ _ (rd_L4 x5_2 x6_1) from ge130_0)
      clear hv130_0 ge130_0
      have HX130_0 := Aside0.mk hx130_0
      clear hcc130 hce130
      (first | simp only [add_plain] at hx130_0 | simp only [add_at] at hx130_0 | simp only [Addr.add, Nat.zero_add] at hx130_0 | skip)
      have HR130_0 := Aside0.mk hi130_0
      have HC130_0 := Aside0.mk hl130_0
      clear hi130_0 hl130_0
      replace p130 := eq_true p130
      replace q130 := eq_true q130
      have p26 : 0 ≤ (x7_2 : Int) := of_decide_eq_true aS
      have q26 : (x7_2 : Int) < (((rd_L4 x5_2 x6_1).length : Int) : Int) := of_decide_eq_true aS
      obtain ⟨go26, co26, eo26, gb26, gl26, cl26, HG26⟩ := Kd.R_form HL130_0.out (by omega)
      (first | cases eo26 | (injection eo26 with ea_ en_ ec_; (first | subst ea_ | (injection ea_ with ea_; subst ea_)); subst ec_; clear en_))
      have GB26 := Aside0.mk gb26
      have GG26 := Aside0.mk HG26
      clear gb26 gl26 HG26
      obtain ⟨hx26_0, hf26_0⟩ := Kd.R_celln 0 HL130_0.out (x7_2 : Int) p26 q26
      replace p26 := eq_true p26
      replace q26 := eq_true q26
      have hq27 : (x6_1 : Int) < (x5_2.length : Int) := (by have h_ : (x6_1 : Int) < ((x5_2.length : Int) : Int) := of_decide_eq_true aS; first | exact h_ | (have e_ := (Kd.S_reads' HO_5.out).1; omega) | simpa only [List.length_set, List.length_set] using h_)
      obtain ⟨oki27, ce27, hcl27, hM27, hcc27, hok27, hbk27⟩ := Kd.S_borrow HO_5.out [] (x6_1 : Int) (of_decide_eq_true aS) hq27
      obtain ⟨ve27_0, rfl, ge27_0⟩ := hM27
      have hv27 := hcc27 0 _ rfl
      rw [Nat.add_zero, show ((Kd.slice 3 (Kd.int .i64))).sz = 1 from rfl, Nat.mul_one] at hv27
      replace hv27 := Option.some.inj (hv27.symm.trans HX130_0.out)
      subst hv27
      clear hcc27 hcl27
      replace ge27_0 := (show Kd.R (Kd.int .i64) 3 _ _ _ _ (rd_L4 x5_2 x6_1) from ge27_0)
      have HP27 := Kd.R_putg ge27_0 (x7_2 : Int) (wrap64 (2 * (wrap64 ((l1.length : Int) - x7_2))))
      go_wp2_with (first | ((with_reducible refine gate_store (t := 3) (p := 92) rfl ?_); refine store_event (t := 3) (p := 92) (v := ?vo_w28) (w1 := (wr.setCell ⟨go26, (x7_2 : Int).toNat, none⟩ (.int .i64 (wrap64 (2 * (wrap64 ((l1.length : Int) - x7_2))))))) ?hg ?ho ?hn ?hr ?_; (case ho => rfl); (case hg => rfl); (case hn => rfl); (case hr => first | (go_simp; done) | (go_simp; rfl)); intro w28 hw; have hg : wr.grownBy w28 (some go26) := (by rw [hw]; exact HP27.2); have hz_ : Kd.R (Kd.int .i64) 3 w28 w.heap.size oki27 (.slice (some ⟨go26, 0, none⟩) (rd_L4 x5_2 x6_1).length c130_0) y131 := (by rw [hw, Ny131.out]; exact HP27.1); have hp_ : Kd.S (Kd.slice 3 (Kd.int .i64)) 46 w28 w.heap.size (fun _ => True) (.slice (some ⟨go14, 0, none⟩) x5_2.length co14) y133 := (by rw [Ny133.out]; exact hbk27 hg (fun k_ e_ => by injection e_ with e_; subst e_; exact ge27_0.1 _ rfl) (Kd.M_row hz_)); have hm_ := Kd.R_mono hz_ hok27; clear HP27 hbk27; have n0_ := Q0_ (hp_); have n1_ := Q0_ ((by rw [hw]; exact below_set (HB.out) GB26.out : Below w.heap.size w w28)); have n2_ := Q0_ (hm_); have n3_ := Q0_ ((Kd.R_reads' hm_).2.1); clear HO_5 HB HL130_0; revert n0_ n1_ n2_ n3_; intro HO_5 HB HL151 HC132; clear hg hw hp_ hz_ hm_ hok27))
      (try simp only [← hl5_2])
      first | go_roundg k2 | ((try simp only [← hji3] at H' ⊢); (try simp only [← hji9] at H' ⊢); go_roundg k2)
      case measure => have := HK1.out; have := HK2.out; omega
      case rel => exact ⟨(y133), (wrap64 (x7_2 - 1)), eX, H', ⟨by have := HK1.out; have := HK2.out; omega⟩, ⟨by (try simp only [hl5_2]); (with_reducible repeat (first | apply Kd.S_alloc | apply Kd.S_drewN | apply Kd.S_drew)); exact HO_5.out⟩, ⟨by repeat (first | (with_reducible first | exact HB.out | apply below_alloc | apply pw_below_drewN | apply below_drew1) | exact HB.out)⟩⟩
     rw [if_neg c21] at H
     have c21b0 : (x6_1 == (l0.length : Int)) = false := beq_eq_false_iff_ne.mpr c21
     have c21b1 : (x6_1 != (l0.length : Int)) = true := bne_iff_ne.mpr c21
     by_cases c29 : x7_2 = (l1.length : Int)
     ·rw [if_pos c29] at H
      have c29b0 : (x7_2 == (l1.length : Int)) = true := beq_iff_eq.mpr c29
      have c29b1 : (x7_2 != (l1.length : Int)) = false := bne_eq_false_iff_eq.mpr c29
      clear c29
      by_cases c30 : 0 ≤ x6_1
      rotate_left
      ·rw [if_neg c30] at H
       exact absurd H (by simp)
      rw [if_pos c30] at H
      have c30b0 : decide (0 ≤ x6_1) = true := decide_eq_true c30
      clear c30
      by_cases c31 : x6_1 < (x5_2.length : Int)
      rotate_left
      ·rw [if_neg c31] at H
       exact absurd H (by simp)
      rw [if_pos c31] at H
      have c31b0 : decide (x6_1 < (x5_2.length : Int)) = true := decide_eq_true c31
      clear c31
      by_cases c32 : 0 ≤ x7_2
      rotate_left
      ·rw [if_neg c32] at H
       exact absurd H (by simp)
      rw [if_pos c32] at H
      have c32b0 : decide (0 ≤ x7_2) = true := decide_eq_true c32
      clear c32
      by_cases c33 : x7_2 < ((rd_L4 x5_2 x6_1).length : Int)
      rotate_left
      ·rw [if_neg c33] at H
       exact absurd H (by simp)
      rw [if_pos c33] at H
      have c33b0 : decide (x7_2 < ((rd_L4 x5_2 x6_1).length : Int)) = true := decide_eq_true c33
      clear c33
      obtain ⟨y135, hy135⟩ : ∃ y_ : List Int, y_ = ((rd_L4 x5_2 x6_1).set (x7_2 : Int).toNat (wrap64 (2 * (wrap64 ((l0.length : Int) - x6_1))))) := ⟨_, rfl⟩
      replace H : (spec_l7Costs.l1 k2 l0 l1 (x5_2.set (x6_1 : Int).toNat y135) x6_1 (wrap64 (x7_2 - 1))) = some r := by first | (rw [hy135]; with_reducible exact H) | (have H2_ := (Option.bind_some _ _).symm.trans H; rw [hy135]; with_reducible exact H2_) | (have H2_ := (Option.bind_some _ _).symm.trans H; with_reducible exact H2_) | with_reducible exact H | (rw [hy135]; exact H) | exact H
      have Ny135 := Aside0.mk hy135
      clear hy135
      obtain ⟨y137, hy137⟩ : ∃ y_ : List (List Int), y_ = (x5_2.set (x6_1 : Int).toNat y135) := ⟨_, rfl⟩
      replace H : (spec_l7Costs.l1 k2 l0 l1 y137 x6_1 (wrap64 (x7_2 - 1))) = some r := by first | (rw [hy137]; with_reducible exact H) | (have H2_ := (Option.bind_some _ _).symm.trans H; rw [hy137]; with_reducible exact H2_) | (have H2_ := (Option.bind_some _ _).symm.trans H; with_reducible exact H2_) | with_reducible exact H | (rw [hy137]; exact H) | exact H
      have Ny137 := Aside0.mk hy137
      clear hy137
      have H' := Aside0.mk H
      clear H
      have p134 : 0 ≤ (x6_1 : Int) := of_decide_eq_true aS
      have q134 : x6_1 < (x5_2.length : Int) := of_decide_eq_true aS
      obtain ⟨ad134, A134_0, c134_0, e134, hx134_0, hl134_0, hi134_0⟩ := at_L4 (Kd.S_reads' HO_5.out).2.2 x6_1 p134 q134
      obtain rfl : (⟨go14, 0, none⟩ : Addr) = ad134 := (by injection e134)
      obtain ⟨ce134, hce134, hMe134, hcc134⟩ := Kd.S_get HO_5.out [] x6_1 p134 (by first | exact q134 | exact of_decide_eq_true aS | (have e_ := (Kd.S_reads' HO_5.out).1; omega))
      obtain ⟨ve134_0, rfl, ge134_0⟩ := hMe134
      have hv134_0 := hcc134 0 _ rfl
      rw [Nat.add_zero, show ((Kd.slice 3 (Kd.int .i64))).sz = 1 from rfl, Nat.mul_one] at hv134_0
      replace hv134_0 := Option.some.inj (hv134_0.symm.trans hx134_0)
      rw [hv134_0] at ge134_0
      have HL134_0 := Q0_ (show Kd.R (Kd.int .i64) 3 _ _ _ _ (rd_L4 x5_2 x6_1) from ge134_0)
      clear hv134_0 ge134_0
      have HX134_0 := Aside0.mk hx134_0
      clear hcc134 hce134
      (first | simp only [add_plain] at hx134_0 | simp only [add_at] at hx134_0 | simp only [Addr.add, Nat.zero_add] at hx134_0 | skip)
      have HR134_0 := Aside0.mk hi134_0
      have HC134_0 := Aside0.mk hl134_0
      clear hi134_0 hl134_0
      replace p134 := eq_true p134
      replace q134 := eq_true q134
      have p34 : 0 ≤ (x7_2 : Int) := of_decide_eq_true aS
      have q34 : (x7_2 : Int) < (((rd_L4 x5_2 x6_1).length : Int) : Int) := of_decide_eq_true aS
      obtain ⟨go34, co34, eo34, gb34, gl34, cl34, HG34⟩ := Kd.R_form HL134_0.out (by omega)
      (first | cases eo34 | (injection eo34 with ea_ en_ ec_; (first | subst ea_ | (injection ea_ with ea_; subst ea_)); subst ec_; clear en_))
      have GB34 := Aside0.mk gb34
      have GG34 := Aside0.mk HG34
      clear gb34 gl34 HG34
      obtain ⟨hx34_0, hf34_0⟩ := Kd.R_celln 0 HL134_0.out (x7_2 : Int) p34 q34
      replace p34 := eq_true p34
      replace q34 := eq_true q34
      have hq35 : (x6_1 : Int) < (x5_2.length : Int) := (by have h_ : (x6_1 : Int) < ((x5_2.length : Int) : Int) := of_decide_eq_true aS; first | exact h_ | (have e_ := (Kd.S_reads' HO_5.out).1; omega) | simpa only [List.length_set, List.length_set] using h_)
      obtain ⟨oki35, ce35, hcl35, hM35, hcc35, hok35, hbk35⟩ := Kd.S_borrow HO_5.out [] (x6_1 : Int) (of_decide_eq_true aS) hq35
      obtain ⟨ve35_0, rfl, ge35_0⟩ := hM35
      have hv35 := hcc35 0 _ rfl
      rw [Nat.add_zero, show ((Kd.slice 3 (Kd.int .i64))).sz = 1 from rfl, Nat.mul_one] at hv35
      replace hv35 := Option.some.inj (hv35.symm.trans HX134_0.out)
      subst hv35
      clear hcc35 hcl35
      replace ge35_0 := (show Kd.R (Kd.int .i64) 3 _ _ _ _ (rd_L4 x5_2 x6_1) from ge35_0)
      have HP35 := Kd.R_putg ge35_0 (x7_2 : Int) (wrap64 (2 * (wrap64 ((l0.length : Int) - x6_1))))
      go_wp2_with (first | ((with_reducible refine gate_store (t := 3) (p := 108) rfl ?_); refine store_event (t := 3) (p := 108) (v := ?vo_w36) (w1 := (wr.setCell ⟨go34, (x7_2 : Int).toNat, none⟩ (.int .i64 (wrap64 (2 * (wrap64 ((l0.length : Int) - x6_1))))))) ?hg ?ho ?hn ?hr ?_; (case ho => rfl); (case hg => rfl); (case hn => rfl); (case hr => first | (go_simp; done) | (go_simp; rfl)); intro w36 hw; have hg : wr.grownBy w36 (some go34) := (by rw [hw]; exact HP35.2); have hz_ : Kd.R (Kd.int .i64) 3 w36 w.heap.size oki35 (.slice (some ⟨go34, 0, none⟩) (rd_L4 x5_2 x6_1).length c134_0) y135 := (by rw [hw, Ny135.out]; exact HP35.1); have hp_ : Kd.S (Kd.slice 3 (Kd.int .i64)) 46 w36 w.heap.size (fun _ => True) (.slice (some ⟨go14, 0, none⟩) x5_2.length co14) y137 := (by rw [Ny137.out]; exact hbk35 hg (fun k_ e_ => by injection e_ with e_; subst e_; exact ge35_0.1 _ rfl) (Kd.M_row hz_)); have hm_ := Kd.R_mono hz_ hok35; clear HP35 hbk35; have n0_ := Q0_ (hp_); have n1_ := Q0_ ((by rw [hw]; exact below_set (HB.out) GB34.out : Below w.heap.size w w36)); have n2_ := Q0_ (hm_); have n3_ := Q0_ ((Kd.R_reads' hm_).2.1); clear HO_5 HB HL134_0; revert n0_ n1_ n2_ n3_; intro HO_5 HB HL152 HC136; clear hg hw hp_ hz_ hm_ hok35))
      (try simp only [← hl5_2])
      first | go_roundg k2 | ((try simp only [← hji3] at H' ⊢); (try simp only [← hji9] at H' ⊢); go_roundg k2)
      case measure => have := HK1.out; have := HK2.out; omega
      case rel => exact ⟨(y137), (wrap64 (x7_2 - 1)), eX, H', ⟨by have := HK1.out; have := HK2.out; omega⟩, ⟨by (try simp only [hl5_2]); (with_reducible repeat (first | apply Kd.S_alloc | apply Kd.S_drewN | apply Kd.S_drew)); exact HO_5.out⟩, ⟨by repeat (first | (with_reducible first | exact HB.out | apply below_alloc | apply pw_below_drewN | apply below_drew1) | exact HB.out)⟩⟩
     rw [if_neg c29] at H
     have c29b0 : (x7_2 == (l1.length : Int)) = false := beq_eq_false_iff_ne.mpr c29
     have c29b1 : (x7_2 != (l1.length : Int)) = true := bne_iff_ne.mpr c29
     obtain ⟨ji37, hji37⟩ : ∃ j_ : Int, (wrap64 (x6_1 + 1)) = j_ := ⟨_, rfl⟩
     replace H : (if 0 ≤ (ji37) then (if (ji37) < (x5_2.length : Int) then (if 0 ≤ x7_2 then (if x7_2 < ((rd_L4 x5_2 (ji37)).length : Int) then (if 0 ≤ x6_1 then (if x6_1 < (x5_2.length : Int) then (if 0 ≤ (wrap64 (x7_2 + 1)) then (if (wrap64 (x7_2 + 1)) < ((rd_L4 x5_2 x6_1).length : Int) then (if (wrap64 (x7_2 + 1)) < ((rd_L4 x5_2 (ji37)).length : Int) then (if x6_1 < (l0.length : Int) then (if x7_2 < (l1.length : Int) then ((spec_l7Replace.f ((rd_T36 l0 x6_1).f0) ((rd_T36 l0 x6_1).f1) ((rd_T36 l1 x7_2).f0) ((rd_T36 l1 x7_2).f1)).bind fun t147 => (if x7_2 < ((rd_L4 x5_2 x6_1).length : Int) then (spec_l7Costs.l1 k2 l0 l1 (x5_2.set (x6_1 : Int).toNat ((rd_L4 x5_2 x6_1).set (x7_2 : Int).toNat (mn (wrap64 ((mn (rd (rd_L4 x5_2 (ji37)) x7_2) (rd (rd_L4 x5_2 x6_1) (wrap64 (x7_2 + 1)))) + 2)) (wrap64 ((rd (rd_L4 x5_2 (ji37)) (wrap64 (x7_2 + 1))) + t147))))) x6_1 (wrap64 (x7_2 - 1))) else (none))) else (none)) else (none)) else (none)) else (none)) else (none)) else (none)) else (none)) else (none)) else (none)) else (none)) else (none)) = some r := by first | (rw [hji37] at H; exact H) | (simp only [hji37] at H ⊢; exact H)
     have hji37w : (IntKind.i64.wrap (x6_1 + 1)) = ji37 := (i64_w _).trans hji37
     by_cases c38 : 0 ≤ (ji37)
     rotate_left
     ·rw [if_neg c38] at H
      exact absurd H (by simp)
     rw [if_pos c38] at H
     have c38b0 : decide (0 ≤ (ji37)) = true := decide_eq_true c38
     clear c38
     by_cases c39 : (ji37) < (x5_2.length : Int)
     rotate_left
     ·rw [if_neg c39] at H
      exact absurd H (by simp)
     rw [if_pos c39] at H
     have c39b0 : decide ((ji37) < (x5_2.length : Int)) = true := decide_eq_true c39
     clear c39
     by_cases c40 : 0 ≤ x7_2
     rotate_left
     ·rw [if_neg c40] at H
      exact absurd H (by simp)
     rw [if_pos c40] at H
     have c40b0 : decide (0 ≤ x7_2) = true := decide_eq_true c40
     clear c40
     by_cases c41 : x7_2 < ((rd_L4 x5_2 (ji37)).length : Int)
     rotate_left
     ·rw [if_neg c41] at H
      exact absurd H (by simp)
     rw [if_pos c41] at H
     have c41b0 : decide (x7_2 < ((rd_L4 x5_2 (ji37)).length : Int)) = true := decide_eq_true c41
     clear c41
     by_cases c42 : 0 ≤ x6_1
     rotate_left
     ·rw [if_neg c42] at H
      exact absurd H (by simp)
     rw [if_pos c42] at H
     have c42b0 : decide (0 ≤ x6_1) = true := decide_eq_true c42
     clear c42
     by_cases c43 : x6_1 < (x5_2.length : Int)
     rotate_left
     ·rw [if_neg c43] at H
      exact absurd H (by simp)
     rw [if_pos c43] at H
     have c43b0 : decide (x6_1 < (x5_2.length : Int)) = true := decide_eq_true c43
     clear c43
     obtain ⟨ji44, hji44⟩ : ∃ j_ : Int, (wrap64 (x7_2 + 1)) = j_ := ⟨_, rfl⟩
     replace H : (if 0 ≤ (ji44) then (if (ji44) < ((rd_L4 x5_2 x6_1).length : Int) then (if (ji44) < ((rd_L4 x5_2 (ji37)).length : Int) then (if x6_1 < (l0.length : Int) then (if x7_2 < (l1.length : Int) then ((spec_l7Replace.f ((rd_T36 l0 x6_1).f0) ((rd_T36 l0 x6_1).f1) ((rd_T36 l1 x7_2).f0) ((rd_T36 l1 x7_2).f1)).bind fun t147 => (if x7_2 < ((rd_L4 x5_2 x6_1).length : Int) then (spec_l7Costs.l1 k2 l0 l1 (x5_2.set (x6_1 : Int).toNat ((rd_L4 x5_2 x6_1).set (x7_2 : Int).toNat (mn (wrap64 ((mn (rd (rd_L4 x5_2 (ji37)) x7_2) (rd (rd_L4 x5_2 x6_1) (ji44))) + 2)) (wrap64 ((rd (rd_L4 x5_2 (ji37)) (ji44)) + t147))))) x6_1 (wrap64 (x7_2 - 1))) else (none))) else (none)) else (none)) else (none)) else (none)) else (none)) = some r := by first | (rw [hji44] at H; exact H) | (simp only [hji44] at H ⊢; exact H)
     have hji44w : (IntKind.i64.wrap (x7_2 + 1)) = ji44 := (i64_w _).trans hji44
     by_cases c45 : 0 ≤ (ji44)
     rotate_left
     ·rw [if_neg c45] at H
      exact absurd H (by simp)
     rw [if_pos c45] at H
     have c45b0 : decide (0 ≤ (ji44)) = true := decide_eq_true c45
     clear c45
     by_cases c46 : (ji44) < ((rd_L4 x5_2 x6_1).length : Int)
     rotate_left
     ·rw [if_neg c46] at H
      exact absurd H (by simp)
     rw [if_pos c46] at H
     have c46b0 : decide ((ji44) < ((rd_L4 x5_2 x6_1).length : Int)) = true := decide_eq_true c46
     clear c46
     obtain ⟨ji47, hji47⟩ : ∃ j_ : Int, (mn (rd (rd_L4 x5_2 (ji37)) x7_2) (rd (rd_L4 x5_2 x6_1) (ji44))) = j_ := ⟨_, rfl⟩
     replace H : (if (ji44) < ((rd_L4 x5_2 (ji37)).length : Int) then (if x6_1 < (l0.length : Int) then (if x7_2 < (l1.length : Int) then ((spec_l7Replace.f ((rd_T36 l0 x6_1).f0) ((rd_T36 l0 x6_1).f1) ((rd_T36 l1 x7_2).f0) ((rd_T36 l1 x7_2).f1)).bind fun t147 => (if x7_2 < ((rd_L4 x5_2 x6_1).length : Int) then (spec_l7Costs.l1 k2 l0 l1 (x5_2.set (x6_1 : Int).toNat ((rd_L4 x5_2 x6_1).set (x7_2 : Int).toNat (mn (wrap64 ((ji47) + 2)) (wrap64 ((rd (rd_L4 x5_2 (ji37)) (ji44)) + t147))))) x6_1 (wrap64 (x7_2 - 1))) else (none))) else (none)) else (none)) else (none)) = some r := by first | (rw [hji47] at H; exact H) | (simp only [hji47] at H ⊢; exact H)
     have hji47_ : (if (rd (rd_L4 x5_2 x6_1) (ji44)) < (rd (rd_L4 x5_2 (ji37)) x7_2) then (rd (rd_L4 x5_2 x6_1) (ji44)) else (rd (rd_L4 x5_2 (ji37)) x7_2)) = ji47 := hji47
     by_cases c48 : (ji44) < ((rd_L4 x5_2 (ji37)).length : Int)
     rotate_left
     ·rw [if_neg c48] at H
      exact absurd H (by simp)
     rw [if_pos c48] at H
     have c48b0 : decide ((ji44) < ((rd_L4 x5_2 (ji37)).length : Int)) = true := decide_eq_true c48
     clear c48
     by_cases c49 : x6_1 < (l0.length : Int)
     rotate_left
     ·rw [if_neg c49] at H
      exact absurd H (by simp)
     rw [if_pos c49] at H
     have c49b0 : decide (x6_1 < (l0.length : Int)) = true := decide_eq_true c49
     clear c49
     by_cases c50 : x7_2 < (l1.length : Int)
     rotate_left
     ·rw [if_neg c50] at H
      exact absurd H (by simp)
     rw [if_pos c50] at H
     have c50b0 : decide (x7_2 < (l1.length : Int)) = true := decide_eq_true c50
     clear c50
     obtain ⟨t147, A510, H⟩ := Option.bind_eq_some_iff.mp H
     try dsimp only at H
     have A51 := Aside0.mk A510
     clear A510
     obtain ⟨ji52, hji52⟩ : ∃ j_ : Int, (mn (wrap64 ((ji47) + 2)) (wrap64 ((rd (rd_L4 x5_2 (ji37)) (ji44)) + t147))) = j_ := ⟨_, rfl⟩
     replace H : (if x7_2 < ((rd_L4 x5_2 x6_1).length : Int) then (spec_l7Costs.l1 k2 l0 l1 (x5_2.set (x6_1 : Int).toNat ((rd_L4 x5_2 x6_1).set (x7_2 : Int).toNat (ji52))) x6_1 (wrap64 (x7_2 - 1))) else (none)) = some r := by first | (rw [hji52] at H; exact H) | (simp only [hji52] at H ⊢; exact H)
     (try rw [hji52] at A51)
     have hji52_ : (if (wrap64 ((rd (rd_L4 x5_2 (ji37)) (ji44)) + t147)) < (wrap64 ((ji47) + 2)) then (wrap64 ((rd (rd_L4 x5_2 (ji37)) (ji44)) + t147)) else (wrap64 ((ji47) + 2))) = ji52 := hji52
     by_cases c53 : x7_2 < ((rd_L4 x5_2 x6_1).length : Int)
     rotate_left
     ·rw [if_neg c53] at H
      exact absurd H (by simp)
     rw [if_pos c53] at H
     have c53b0 : decide (x7_2 < ((rd_L4 x5_2 x6_1).length : Int)) = true := decide_eq_true c53
     clear c53
     obtain ⟨y148, hy148⟩ : ∃ y_ : List Int, y_ = ((rd_L4 x5_2 x6_1).set (x7_2 : Int).toNat (ji52)) := ⟨_, rfl⟩
     replace H : (spec_l7Costs.l1 k2 l0 l1 (x5_2.set (x6_1 : Int).toNat y148) x6_1 (wrap64 (x7_2 - 1))) = some r := by first | (rw [hy148]; with_reducible exact H) | (have H2_ := (Option.bind_some _ _).symm.trans H; rw [hy148]; with_reducible exact H2_) | (have H2_ := (Option.bind_some _ _).symm.trans H; with_reducible exact H2_) | with_reducible exact H | (rw [hy148]; exact H) | exact H
     have Ny148 := Aside0.mk hy148
     clear hy148
     obtain ⟨y150, hy150⟩ : ∃ y_ : List (List Int), y_ = (x5_2.set (x6_1 : Int).toNat y148) := ⟨_, rfl⟩
     replace H : (spec_l7Costs.l1 k2 l0 l1 y150 x6_1 (wrap64 (x7_2 - 1))) = some r := by first | (rw [hy150]; with_reducible exact H) | (have H2_ := (Option.bind_some _ _).symm.trans H; rw [hy150]; with_reducible exact H2_) | (have H2_ := (Option.bind_some _ _).symm.trans H; with_reducible exact H2_) | with_reducible exact H | (rw [hy150]; exact H) | exact H
     have Ny150 := Aside0.mk hy150
     clear hy150
     have H' := Aside0.mk H
     clear H
     try go_wp2
     have n0_ := Q0_ (Kd.S_drew HO_5.out)
     have n1_ := Q0_ (below_drew1 HB.out)
     clear HO_5 HB; revert n0_ n1_; intro HO_5 HB
     have p138 : 0 ≤ ((ji37) : Int) := of_decide_eq_true aS
     have q138 : (ji37) < (x5_2.length : Int) := of_decide_eq_true aS
     obtain ⟨ad138, A138_0, c138_0, e138, hx138_0, hl138_0, hi138_0⟩ := at_L4 (Kd.S_reads' HO_5.out).2.2 (ji37) p138 q138
     obtain rfl : (⟨go14, 0, none⟩ : Addr) = ad138 := (by injection e138)
     obtain ⟨ce138, hce138, hMe138, hcc138⟩ := Kd.S_get HO_5.out [] (ji37) p138 (by first | exact q138 | exact of_decide_eq_true aS | (have e_ := (Kd.S_reads' HO_5.out).1; omega))
     obtain ⟨ve138_0, rfl, ge138_0⟩ := hMe138
     have hv138_0 := hcc138 0 _ rfl
     rw [Nat.add_zero, show ((Kd.slice 3 (Kd.int .i64))).sz = 1 from rfl, Nat.mul_one] at hv138_0
     replace hv138_0 := Option.some.inj (hv138_0.symm.trans hx138_0)
     rw [hv138_0] at ge138_0
     have HL138_0 := Q0_ (show Kd.R (Kd.int .i64) 3 _ _ _ _ (rd_L4 x5_2 (ji37)) from ge138_0)
     clear hv138_0 ge138_0
     have HX138_0 := Aside0.mk hx138_0
     clear hcc138 hce138
     (first | simp only [add_plain] at hx138_0 | simp only [add_at] at hx138_0 | simp only [Addr.add, Nat.zero_add] at hx138_0 | skip)
     have HR138_0 := Aside0.mk hi138_0
     have HC138_0 := Aside0.mk hl138_0
     clear hi138_0 hl138_0
     replace p138 := eq_true p138
     replace q138 := eq_true q138
     have p139 : 0 ≤ (x7_2 : Int) := of_decide_eq_true aS
     have q139 : x7_2 < ((rd_L4 x5_2 (ji37)).length : Int) := of_decide_eq_true aS
     obtain ⟨ad139, e139, hx139_0⟩ := Kd.at_int HR138_0.out x7_2 p139 q139
     cases e139
     replace p139 := eq_true p139
     replace q139 := eq_true q139
     have p140 : 0 ≤ (x6_1 : Int) := of_decide_eq_true aS
     have q140 : x6_1 < (x5_2.length : Int) := of_decide_eq_true aS
     obtain ⟨ad140, A140_0, c140_0, e140, hx140_0, hl140_0, hi140_0⟩ := at_L4 (Kd.S_reads' HO_5.out).2.2 x6_1 p140 q140
     obtain rfl : (⟨go14, 0, none⟩ : Addr) = ad140 := (by injection e140)
     obtain ⟨ce140, hce140, hMe140, hcc140⟩ := Kd.S_get HO_5.out [] x6_1 p140 (by first | exact q140 | exact of_decide_eq_true aS | (have e_ := (Kd.S_reads' HO_5.out).1; omega))
     obtain ⟨ve140_0, rfl, ge140_0⟩ := hMe140
     have hv140_0 := hcc140 0 _ rfl
     rw [Nat.add_zero, show ((Kd.slice 3 (Kd.int .i64))).sz = 1 from rfl, Nat.mul_one] at hv140_0
     replace hv140_0 := Option.some.inj (hv140_0.symm.trans hx140_0)
     rw [hv140_0] at ge140_0
     have HL140_0 := Q0_ (show Kd.R (Kd.int .i64) 3 _ _ _ _ (rd_L4 x5_2 x6_1) from ge140_0)
     clear hv140_0 ge140_0
     have HX140_0 := Aside0.mk hx140_0
     clear hcc140 hce140
     (first | simp only [add_plain] at hx140_0 | simp only [add_at] at hx140_0 | simp only [Addr.add, Nat.zero_add] at hx140_0 | skip)
     have HR140_0 := Aside0.mk hi140_0
     have HC140_0 := Aside0.mk hl140_0
     clear hi140_0 hl140_0
     replace p140 := eq_true p140
     replace q140 := eq_true q140
     have p141 : 0 ≤ ((ji44) : Int) := of_decide_eq_true aS
     have q141 : (ji44) < ((rd_L4 x5_2 x6_1).length : Int) := of_decide_eq_true aS
     obtain ⟨ad141, e141, hx141_0⟩ := Kd.at_int HR140_0.out (ji44) p141 q141
     cases e141
     replace p141 := eq_true p141
     replace q141 := eq_true q141
     refine start_ (n := 19) (S := fun w' => w'.cell? ⟨go14, ((ji37)).toNat, none⟩ = some (.slice (some ad139) (rd_L4 x5_2 (ji37)).length c138_0) ∧ w'.cell? (ad139.add (x7_2).toNat) = some (.int .i64 (rd (rd_L4 x5_2 (ji37)) x7_2)) ∧ w'.cell? ⟨go14, (x6_1).toNat, none⟩ = some (.slice (some ad141) (rd_L4 x5_2 x6_1).length c140_0) ∧ w'.cell? (ad141.add ((ji44)).toNat) = some (.int .i64 (rd (rd_L4 x5_2 x6_1) (ji44)))) (ds := []) #[ff,ff,ff,ff,ff,ff,ff,ff,ff,ff,ff,ff,ff,ff,ff,ff,ff,ff,ff] (by kernel_rfl) rfl rfl ⟨hx138_0, hx139_0, hx140_0, hx141_0⟩ (fun hHeld => ?_); refine with_tabW spec_l7Costs.tab9 spec_l7Costs.bits9 (fun HT_ HW_ => ?_)
     generalize wr.drew = w55 at HO_5 HB HL138_0 HL140_0 HR138_0 HR140_0 HX138_0 HX140_0 hx138_0 hx139_0 hx140_0 hx141_0 hHeld ⊢
     refine pQ HT_ 0 (some 32) #[tt,ff,ff,ff,ff,ff,ff,ff,ff,ff,ff,ff,ff,ff,ff,ff,ff,ff,ff] rfl rfl ?_
     refine pQ HT_ 1 (some 33) #[tt,tt,ff,ff,ff,ff,ff,ff,ff,ff,ff,ff,ff,ff,ff,ff,ff,ff,ff] rfl rfl ?_
     refine pQ HT_ 2 (some 34) #[tt,tt,tt,ff,ff,ff,ff,ff,ff,ff,ff,ff,ff,ff,ff,ff,ff,ff,ff] rfl rfl ?_
     refine pQ HT_ 3 (some 35) #[tt,tt,tt,tt,ff,ff,ff,ff,ff,ff,ff,ff,ff,ff,ff,ff,ff,ff,ff] rfl rfl ?_
     refine pQ HT_ 5 (some 37) #[tt,tt,tt,tt,ff,tt,ff,ff,ff,ff,ff,ff,ff,ff,ff,ff,ff,ff,ff] rfl rfl ?_
     refine pQ HT_ 8 (some 40) #[tt,tt,tt,tt,ff,tt,ff,ff,tt,ff,ff,ff,ff,ff,ff,ff,ff,ff,ff] rfl rfl ?_
     refine pQ HT_ 9 (some 41) #[tt,tt,tt,tt,ff,tt,ff,ff,tt,tt,ff,ff,ff,ff,ff,ff,ff,ff,ff] rfl rfl ?_
     refine pQ HT_ 10 (some 42) #[tt,tt,tt,tt,ff,tt,ff,ff,tt,tt,tt,ff,ff,ff,ff,ff,ff,ff,ff] rfl rfl ?_
     refine pQ HT_ 12 (some 44) #[tt,tt,tt,tt,ff,tt,ff,ff,tt,tt,tt,ff,tt,ff,ff,ff,ff,ff,ff] rfl rfl ?_
     refine pQ HT_ 13 (some 45) #[tt,tt,tt,tt,ff,tt,ff,ff,tt,tt,tt,ff,tt,tt,ff,ff,ff,ff,ff] rfl rfl ?_
     refine tQ HT_ HW_ 4 (some 36) #[tt,tt,tt,tt,tt,tt,ff,ff,tt,tt,tt,ff,tt,tt,ff,ff,ff,ff,ff] rfl rfl hHeld (by rintro w' ⟨s0, s1, s2, s3⟩; go_simp; with_reducible rfl) ?_
     refine pQ HT_ 6 (some 38) #[tt,tt,tt,tt,tt,tt,tt,ff,tt,tt,tt,ff,tt,tt,ff,ff,ff,ff,ff] rfl rfl ?_
     refine tQ HT_ HW_ 7 (some 39) #[tt,tt,tt,tt,tt,tt,tt,tt,tt,tt,tt,ff,tt,tt,ff,ff,ff,ff,ff] rfl rfl hHeld (by rintro w' ⟨s0, s1, s2, s3⟩; go_simp; with_reducible rfl) ?_
     refine tQ HT_ HW_ 11 (some 43) #[tt,tt,tt,tt,tt,tt,tt,tt,tt,tt,tt,tt,tt,tt,ff,ff,ff,ff,ff] rfl rfl hHeld (by rintro w' ⟨s0, s1, s2, s3⟩; go_simp; with_reducible rfl) ?_
     refine pQ HT_ 14 (some 46) #[tt,tt,tt,tt,tt,tt,tt,tt,tt,tt,tt,tt,tt,tt,tt,ff,ff,ff,ff] rfl rfl ?_
     refine tQ HT_ HW_ 15 (some 47) #[tt,tt,tt,tt,tt,tt,tt,tt,tt,tt,tt,tt,tt,tt,tt,tt,ff,ff,ff] rfl rfl hHeld (by rintro w' ⟨s0, s1, s2, s3⟩; go_simp; with_reducible rfl) ?_
     refine pQ HT_ 16 (some 48) #[tt,tt,tt,tt,tt,tt,tt,tt,tt,tt,tt,tt,tt,tt,tt,tt,tt,ff,ff] rfl rfl ?_
     refine pQ HT_ 17 (some 49) #[tt,tt,tt,tt,tt,tt,tt,tt,tt,tt,tt,tt,tt,tt,tt,tt,tt,tt,ff] rfl rfl ?_
     refine pQ HT_ 18 (some 8) #[tt,tt,tt,tt,tt,tt,tt,tt,tt,tt,tt,tt,tt,tt,tt,tt,tt,tt,tt] rfl rfl ?_
     refine done_ (done_of HT_.out (by kernel_rfl)) ?_
     try go_wp2
     have n0_ := Q0_ (Kd.S_drew HO_5.out)
     have n1_ := Q0_ (Kd.R_drew HL138_0.out)
     have n2_ := Q0_ (Kd.R_drew HL140_0.out)
     have n3_ := Q0_ (Kd.C_drew HR138_0.out)
     have n4_ := Q0_ (Kd.C_drew HR140_0.out)
     have n5_ := Q0_ (below_drew1 HB.out)
     clear HO_5 HL138_0 HL140_0 HR138_0 HR140_0 HB; revert n0_ n1_ n2_ n3_ n4_ n5_; intro HO_5 HL138_0 HL140_0 HR138_0 HR140_0 HB
     have p142 : 0 ≤ (x6_1 : Int) := of_decide_eq_true aS
     have q142 : x6_1 < (x5_2.length : Int) := of_decide_eq_true aS
     obtain ⟨ad142, A142_0, c142_0, e142, hx142_0, hl142_0, hi142_0⟩ := at_L4 (Kd.S_reads' HO_5.out).2.2 x6_1 p142 q142
     obtain rfl : (⟨go14, 0, none⟩ : Addr) = ad142 := (by injection e142)
     obtain ⟨ce142, hce142, hMe142, hcc142⟩ := Kd.S_get HO_5.out [] x6_1 p142 (by first | exact q142 | exact of_decide_eq_true aS | (have e_ := (Kd.S_reads' HO_5.out).1; omega))
     obtain ⟨ve142_0, rfl, ge142_0⟩ := hMe142
     have hv142_0 := hcc142 0 _ rfl
     rw [Nat.add_zero, show ((Kd.slice 3 (Kd.int .i64))).sz = 1 from rfl, Nat.mul_one] at hv142_0
     replace hv142_0 := Option.some.inj (hv142_0.symm.trans hx142_0)
     rw [hv142_0] at ge142_0
     have HL142_0 := Q0_ (show Kd.R (Kd.int .i64) 3 _ _ _ _ (rd_L4 x5_2 x6_1) from ge142_0)
     clear hv142_0 ge142_0
     have HX142_0 := Aside0.mk hx142_0
     clear hcc142 hce142
     (first | simp only [add_plain] at hx142_0 | simp only [add_at] at hx142_0 | simp only [Addr.add, Nat.zero_add] at hx142_0 | skip)
     have HR142_0 := Aside0.mk hi142_0
     have HC142_0 := Aside0.mk hl142_0
     clear hi142_0 hl142_0
     replace p142 := eq_true p142
     replace q142 := eq_true q142
     have p143 : 0 ≤ ((ji37) : Int) := of_decide_eq_true aS
     have q143 : (ji37) < (x5_2.length : Int) := of_decide_eq_true aS
     obtain ⟨ad143, A143_0, c143_0, e143, hx143_0, hl143_0, hi143_0⟩ := at_L4 (Kd.S_reads' HO_5.out).2.2 (ji37) p143 q143
     obtain rfl : (⟨go14, 0, none⟩ : Addr) = ad143 := (by injection e143)
     obtain ⟨ce143, hce143, hMe143, hcc143⟩ := Kd.S_get HO_5.out [] (ji37) p143 (by first | exact q143 | exact of_decide_eq_true aS | (have e_ := (Kd.S_reads' HO_5.out).1; omega))
     obtain ⟨ve143_0, rfl, ge143_0⟩ := hMe143
     have hv143_0 := hcc143 0 _ rfl
     rw [Nat.add_zero, show ((Kd.slice 3 (Kd.int .i64))).sz = 1 from rfl, Nat.mul_one] at hv143_0
     replace hv143_0 := Option.some.inj (hv143_0.symm.trans hx143_0)
     rw [hv143_0] at ge143_0
     have HL143_0 := Q0_ (show Kd.R (Kd.int .i64) 3 _ _ _ _ (rd_L4 x5_2 (ji37)) from ge143_0)
     clear hv143_0 ge143_0
     have HX143_0 := Aside0.mk hx143_0
     clear hcc143 hce143
     (first | simp only [add_plain] at hx143_0 | simp only [add_at] at hx143_0 | simp only [Addr.add, Nat.zero_add] at hx143_0 | skip)
     have HR143_0 := Aside0.mk hi143_0
     have HC143_0 := Aside0.mk hl143_0
     clear hi143_0 hl143_0
     replace p143 := eq_true p143
     replace q143 := eq_true q143
     have p144 : 0 ≤ ((ji44) : Int) := of_decide_eq_true aS
     have q144 : (ji44) < ((rd_L4 x5_2 (ji37)).length : Int) := of_decide_eq_true aS
     obtain ⟨ad144, e144, hx144_0⟩ := Kd.at_int HR143_0.out (ji44) p144 q144
     cases e144
     replace p144 := eq_true p144
     replace q144 := eq_true q144
     have p145 : 0 ≤ (x6_1 : Int) := of_decide_eq_true aS
     have q145 : x6_1 < (l0.length : Int) := of_decide_eq_true aS
     obtain ⟨ad145, e145, hx145_0, hx145_1⟩ := at_T36 HR0.out x6_1 p145 q145
     have hw145_1 := hx145_1
     have hw145_0 := hx145_0
     cases e145
     replace hx145_0 := (HB.out.cell (World.block_lt_of_cell? w _ hx145_0)).trans hx145_0
     replace hx145_1 := (HB.out.cell (World.block_lt_of_cell? w _ hx145_1)).trans hx145_1
     replace p145 := eq_true p145
     replace q145 := eq_true q145
     have p146 : 0 ≤ (x7_2 : Int) := of_decide_eq_true aS
     have q146 : x7_2 < (l1.length : Int) := of_decide_eq_true aS
     obtain ⟨ad146, e146, hx146_0, hx146_1⟩ := at_T36 HR1.out x7_2 p146 q146
     have hw146_1 := hx146_1
     have hw146_0 := hx146_0
     cases e146
     replace hx146_0 := (HB.out.cell (World.block_lt_of_cell? w _ hx146_0)).trans hx146_0
     replace hx146_1 := (HB.out.cell (World.block_lt_of_cell? w _ hx146_1)).trans hx146_1
     replace p146 := eq_true p146
     replace q146 := eq_true q146
     refine start_ (n := 28) (S := fun w' => w'.cell? ⟨go14, (x6_1).toNat, none⟩ = some (.slice A142_0 (rd_L4 x5_2 x6_1).length c142_0) ∧ w'.cell? ⟨go14, ((ji37)).toNat, none⟩ = some (.slice (some ad144) (rd_L4 x5_2 (ji37)).length c143_0) ∧ w'.cell? (ad144.add ((ji44)).toNat) = some (.int .i64 (rd (rd_L4 x5_2 (ji37)) (ji44))) ∧ w'.cell? (ad145.add ((x6_1).toNat * 2)) = some (.int .i64 ((rd_T36 l0 x6_1).f0)) ∧ w'.cell? ⟨(ad145.add ((x6_1).toNat * 2)).block, (ad145.add ((x6_1).toNat * 2)).off + 1, none⟩ = some (.bool ((rd_T36 l0 x6_1).f1)) ∧ w'.cell? (ad146.add ((x7_2).toNat * 2)) = some (.int .i64 ((rd_T36 l1 x7_2).f0)) ∧ w'.cell? ⟨(ad146.add ((x7_2).toNat * 2)).block, (ad146.add ((x7_2).toNat * 2)).off + 1, none⟩ = some (.bool ((rd_T36 l1 x7_2).f1))) (ds := [27]) #[ff,ff,ff,ff,ff,ff,ff,ff,ff,ff,ff,ff,ff,ff,ff,ff,ff,ff,ff,ff,ff,ff,ff,ff,ff,ff,ff,ff] (by kernel_rfl) rfl rfl ⟨hx142_0, hx143_0, hx144_0, ((HB.out.cell (World.block_lt_of_cell? w _ hw145_0)).trans hw145_0), ((HB.out.cell (World.block_lt_of_cell? w _ hw145_1)).trans hw145_1), ((HB.out.cell (World.block_lt_of_cell? w _ hw146_0)).trans hw146_0), ((HB.out.cell (World.block_lt_of_cell? w _ hw146_1)).trans hw146_1)⟩ (fun hHeld => ?_); refine with_tabW spec_l7Costs.tab10 spec_l7Costs.bits10 (fun HT_ HW_ => ?_)
     generalize w55.drew = w56 at HO_5 HL138_0 HL140_0 HR138_0 HR140_0 HB HL142_0 HL143_0 HR142_0 HR143_0 HX142_0 HX143_0 hx142_0 hx143_0 hx144_0 hx145_0 hx145_1 hx146_0 hx146_1 hHeld ⊢
     refine pQ HT_ 0 (some 50) #[tt,ff,ff,ff,ff,ff,ff,ff,ff,ff,ff,ff,ff,ff,ff,ff,ff,ff,ff,ff,ff,ff,ff,ff,ff,ff,ff,ff] rfl rfl ?_
     refine pQ HT_ 1 (some 51) #[tt,tt,ff,ff,ff,ff,ff,ff,ff,ff,ff,ff,ff,ff,ff,ff,ff,ff,ff,ff,ff,ff,ff,ff,ff,ff,ff,ff] rfl rfl ?_
     refine pQ HT_ 2 (some 52) #[tt,tt,tt,ff,ff,ff,ff,ff,ff,ff,ff,ff,ff,ff,ff,ff,ff,ff,ff,ff,ff,ff,ff,ff,ff,ff,ff,ff] rfl rfl ?_
     refine pQ HT_ 4 (some 54) #[tt,tt,tt,ff,tt,ff,ff,ff,ff,ff,ff,ff,ff,ff,ff,ff,ff,ff,ff,ff,ff,ff,ff,ff,ff,ff,ff,ff] rfl rfl ?_
     refine pQ HT_ 5 (some 55) #[tt,tt,tt,ff,tt,tt,ff,ff,ff,ff,ff,ff,ff,ff,ff,ff,ff,ff,ff,ff,ff,ff,ff,ff,ff,ff,ff,ff] rfl rfl ?_
     refine pQ HT_ 6 (some 56) #[tt,tt,tt,ff,tt,tt,tt,ff,ff,ff,ff,ff,ff,ff,ff,ff,ff,ff,ff,ff,ff,ff,ff,ff,ff,ff,ff,ff] rfl rfl ?_
     refine pQ HT_ 7 (some 57) #[tt,tt,tt,ff,tt,tt,tt,tt,ff,ff,ff,ff,ff,ff,ff,ff,ff,ff,ff,ff,ff,ff,ff,ff,ff,ff,ff,ff] rfl rfl ?_
     refine pQ HT_ 8 (some 58) #[tt,tt,tt,ff,tt,tt,tt,tt,tt,ff,ff,ff,ff,ff,ff,ff,ff,ff,ff,ff,ff,ff,ff,ff,ff,ff,ff,ff] rfl rfl ?_
     refine pQ HT_ 9 (some 59) #[tt,tt,tt,ff,tt,tt,tt,tt,tt,tt,ff,ff,ff,ff,ff,ff,ff,ff,ff,ff,ff,ff,ff,ff,ff,ff,ff,ff] rfl rfl ?_
     refine pQ HT_ 11 (some 61) #[tt,tt,tt,ff,tt,tt,tt,tt,tt,tt,ff,tt,ff,ff,ff,ff,ff,ff,ff,ff,ff,ff,ff,ff,ff,ff,ff,ff] rfl rfl ?_
     refine pQ HT_ 12 (some 62) #[tt,tt,tt,ff,tt,tt,tt,tt,tt,tt,ff,tt,tt,ff,ff,ff,ff,ff,ff,ff,ff,ff,ff,ff,ff,ff,ff,ff] rfl rfl ?_
     refine pQ HT_ 15 (some 65) #[tt,tt,tt,ff,tt,tt,tt,tt,tt,tt,ff,tt,tt,ff,ff,tt,ff,ff,ff,ff,ff,ff,ff,ff,ff,ff,ff,ff] rfl rfl ?_
     refine pQ HT_ 16 (some 66) #[tt,tt,tt,ff,tt,tt,tt,tt,tt,tt,ff,tt,tt,ff,ff,tt,tt,ff,ff,ff,ff,ff,ff,ff,ff,ff,ff,ff] rfl rfl ?_
     refine pQ HT_ 17 (some 67) #[tt,tt,tt,ff,tt,tt,tt,tt,tt,tt,ff,tt,tt,ff,ff,tt,tt,tt,ff,ff,ff,ff,ff,ff,ff,ff,ff,ff] rfl rfl ?_
     refine pQ HT_ 19 (some 69) #[tt,tt,tt,ff,tt,tt,tt,tt,tt,tt,ff,tt,tt,ff,ff,tt,tt,tt,ff,tt,ff,ff,ff,ff,ff,ff,ff,ff] rfl rfl ?_
     refine pQ HT_ 20 (some 70) #[tt,tt,tt,ff,tt,tt,tt,tt,tt,tt,ff,tt,tt,ff,ff,tt,tt,tt,ff,tt,tt,ff,ff,ff,ff,ff,ff,ff] rfl rfl ?_
     refine pQ HT_ 21 (some 71) #[tt,tt,tt,ff,tt,tt,tt,tt,tt,tt,ff,tt,tt,ff,ff,tt,tt,tt,ff,tt,tt,tt,ff,ff,ff,ff,ff,ff] rfl rfl ?_
     refine tQ HT_ HW_ 3 (some 53) #[tt,tt,tt,tt,tt,tt,tt,tt,tt,tt,ff,tt,tt,ff,ff,tt,tt,tt,ff,tt,tt,tt,ff,ff,ff,ff,ff,ff] rfl rfl hHeld (by rintro w' ⟨s0, s1, s2, s3, s4, s5, s6⟩; go_simp; with_reducible rfl) ?_
     refine tQ HT_ HW_ 10 (some 60) #[tt,tt,tt,tt,tt,tt,tt,tt,tt,tt,tt,tt,tt,ff,ff,tt,tt,tt,ff,tt,tt,tt,ff,ff,ff,ff,ff,ff] rfl rfl hHeld (by rintro w' ⟨s0, s1, s2, s3, s4, s5, s6⟩; go_simp; with_reducible rfl) ?_
     refine pQ HT_ 13 (some 63) #[tt,tt,tt,tt,tt,tt,tt,tt,tt,tt,tt,tt,tt,tt,ff,tt,tt,tt,ff,tt,tt,tt,ff,ff,ff,ff,ff,ff] rfl rfl ?_
     refine tQ HT_ HW_ 14 (some 64) #[tt,tt,tt,tt,tt,tt,tt,tt,tt,tt,tt,tt,tt,tt,tt,tt,tt,tt,ff,tt,tt,tt,ff,ff,ff,ff,ff,ff] rfl rfl hHeld (by rintro w' ⟨s0, s1, s2, s3, s4, s5, s6⟩; go_simp; with_reducible rfl) ?_
     refine tQ HT_ HW_ 18 (some 68) #[tt,tt,tt,tt,tt,tt,tt,tt,tt,tt,tt,tt,tt,tt,tt,tt,tt,tt,tt,tt,tt,tt,ff,ff,ff,ff,ff,ff] rfl rfl hHeld (by rintro w' ⟨s0, s1, s2, s3, s4, s5, s6⟩; go_simp; with_reducible rfl) ?_
     refine tQ HT_ HW_ 22 (some 72) #[tt,tt,tt,tt,tt,tt,tt,tt,tt,tt,tt,tt,tt,tt,tt,tt,tt,tt,tt,tt,tt,tt,tt,ff,ff,ff,ff,ff] rfl rfl hHeld (by rintro w' ⟨s0, s1, s2, s3, s4, s5, s6⟩; go_simp; with_reducible rfl) ?_
     refine one_ (i := 23) (N := some 73) #[tt,tt,tt,tt,tt,tt,tt,tt,tt,tt,tt,tt,tt,tt,tt,tt,tt,tt,tt,tt,tt,tt,tt,tt,ff,ff,ff,ff] rfl rfl (one_of HT_.out (by kernel_rfl)) (by decide) (fun K hK => ?_)
     refine goes_ Try.func40 (by kernel_rfl) rfl #[.agg #[.int .i64 ((rd_T36 l0 x6_1).f0), .bool ((rd_T36 l0 x6_1).f1)], .agg #[.int .i64 ((rd_T36 l1 x7_2).f0), .bool ((rd_T36 l1 x7_2).f1)]] (by rfl) rfl rfl hM ?_
     with_reducible refine (spec_l7Replace.calls ((rd_T36 l0 x6_1).f0) ((rd_T36 l0 x6_1).f1) ((rd_T36 l1 x7_2).f0) ((rd_T36 l1 x7_2).f1) t147 _ A51.out).mono ?_
     rintro e w57 ⟨rfl, hb⟩
     have HS0_ := (hb.cell (World.block_lt_of_cell? _ _ (hHeld.1))).trans (hHeld.1)
     have HS1_ := (hb.cell (World.block_lt_of_cell? _ _ (hHeld.2.1))).trans (hHeld.2.1)
     have HS2_ := (hb.cell (World.block_lt_of_cell? _ _ (hHeld.2.2.1))).trans (hHeld.2.2.1)
     refine ⟨_, rfl, ?_⟩
     have n0_ := Q0_ (Kd.S_below (upS HO_5) hb)
     have n1_ := Q0_ (Kd.R_below (upR HL138_0) hb)
     have n2_ := Q0_ (Kd.R_below (upR HL140_0) hb)
     have n3_ := Q0_ (Kd.R_below (upR HL142_0) hb)
     have n4_ := Q0_ (Kd.R_below (upR HL143_0) hb)
     have n5_ := Q0_ (Kd.C_below (upC HR138_0) hb)
     have n6_ := Q0_ (Kd.C_below (upC HR140_0) hb)
     have n7_ := Q0_ (Kd.C_below (upC HR142_0) hb)
     have n8_ := Q0_ (pw_cell_below hb HX142_0.out)
     have n9_ := Q0_ (Kd.C_below (upC HR143_0) hb)
     have n10_ := Q0_ (pw_cell_below hb HX143_0.out)
     have n11_ := Q0_ (below_step (upB HB) hb)
     clear HO_5 HL138_0 HL140_0 HL142_0 HL143_0 HR138_0 HR140_0 HR142_0 HX142_0 HR143_0 HX143_0 HB; revert n0_ n1_ n2_ n3_ n4_ n5_ n6_ n7_ n8_ n9_ n10_ n11_; intro HO_5 HL138_0 HL140_0 HL142_0 HL143_0 HR138_0 HR140_0 HR142_0 HX142_0 HR143_0 HX143_0 HB
     (try clear hb)
     (try clear hb2)
     (try clear hk)
     (try clear hi)
     have p54 : 0 ≤ (x7_2 : Int) := of_decide_eq_true aS
     have q54 : (x7_2 : Int) < (((rd_L4 x5_2 x6_1).length : Int) : Int) := of_decide_eq_true aS
     obtain ⟨go54, co54, eo54, gb54, gl54, cl54, HG54⟩ := Kd.R_form HL142_0.out (by omega)
     (first | cases eo54 | (injection eo54 with ea_ en_ ec_; (first | subst ea_ | (injection ea_ with ea_; subst ea_)); subst ec_; clear en_))
     have GB54 := Aside0.mk gb54
     have GG54 := Aside0.mk HG54
     clear gb54 gl54 HG54
     obtain ⟨hx54_0, hf54_0⟩ := Kd.R_celln 0 HL142_0.out (x7_2 : Int) p54 q54
     replace p54 := eq_true p54
     replace q54 := eq_true q54
     have hq58 : (x6_1 : Int) < (x5_2.length : Int) := (by have h_ : (x6_1 : Int) < ((x5_2.length : Int) : Int) := of_decide_eq_true aS; first | exact h_ | (have e_ := (Kd.S_reads' HO_5.out).1; omega) | simpa only [List.length_set, List.length_set] using h_)
     obtain ⟨oki58, ce58, hcl58, hM58, hcc58, hok58, hbk58⟩ := Kd.S_borrow HO_5.out [] (x6_1 : Int) (of_decide_eq_true aS) hq58
     obtain ⟨ve58_0, rfl, ge58_0⟩ := hM58
     have hv58 := hcc58 0 _ rfl
     rw [Nat.add_zero, show ((Kd.slice 3 (Kd.int .i64))).sz = 1 from rfl, Nat.mul_one] at hv58
     replace hv58 := Option.some.inj (hv58.symm.trans HX142_0.out)
     subst hv58
     clear hcc58 hcl58
     replace ge58_0 := (show Kd.R (Kd.int .i64) 3 _ _ _ _ (rd_L4 x5_2 x6_1) from ge58_0)
     have HP58 := Kd.R_putg ge58_0 (x7_2 : Int) ji52
     rw [← Ny148.out] at HP58
     have HS58 := hbk58 HP58.2 (fun k_ e_ => by injection e_ with e_; subst e_; exact ge58_0.1 _ rfl) (x' := y148) (Kd.M_row HP58.1)
     rw [← Ny150.out] at HS58
     have HQ58 := Aside0.mk HS58
     clear HP58 HS58 hbk58 hok58
     refine hK.out _ _ ⟨HS0_, HS1_, HS2_, ((HB.out.cell (World.block_lt_of_cell? w _ hw145_0)).trans hw145_0), ((HB.out.cell (World.block_lt_of_cell? w _ hw145_1)).trans hw145_1), ((HB.out.cell (World.block_lt_of_cell? w _ hw146_0)).trans hw146_0), ((HB.out.cell (World.block_lt_of_cell? w _ hw146_1)).trans hw146_1)⟩ (fun hHeld => ?_)
     clear hK K
     refine norm_ (a' := ?_) ?_ ?_
     rotate_left
     ·show Act.put _ (some 73) _ = _
      simp only [Act.put, sI, s0, sS, i64_w, i32_w]
      rfl
     refine pQ HT_ 24 (some 74) #[tt,tt,tt,tt,tt,tt,tt,tt,tt,tt,tt,tt,tt,tt,tt,tt,tt,tt,tt,tt,tt,tt,tt,tt,tt,ff,ff,ff] rfl rfl ?_
     refine pQ HT_ 25 (some 75) #[tt,tt,tt,tt,tt,tt,tt,tt,tt,tt,tt,tt,tt,tt,tt,tt,tt,tt,tt,tt,tt,tt,tt,tt,tt,tt,ff,ff] rfl rfl ?_
     refine pQ HT_ 26 (some 76) #[tt,tt,tt,tt,tt,tt,tt,tt,tt,tt,tt,tt,tt,tt,tt,tt,tt,tt,tt,tt,tt,tt,tt,tt,tt,tt,tt,ff] rfl rfl ?_
     refine last_ (i := 27) (N := none) #[tt,tt,tt,tt,tt,tt,tt,tt,tt,tt,tt,tt,tt,tt,tt,tt,tt,tt,tt,tt,tt,tt,tt,tt,tt,tt,tt,tt] rfl rfl (one_of HT_.out (by kernel_rfl)) (by decide) (fun K hK => ?_)
     refine skip_ (w1 := ?_) (by rfl) rfl ?_ ?_
     rotate_left
     ·go_simp
      rfl
     refine hK.out _ _ ?_
     clear hK K
     refine done_ (done_of HT_.out (by kernel_rfl)) ?_
     try go_wp2
     (try simp only [← hl5_2])
     first | go_roundg k2 | ((try simp only [← hji3] at H' ⊢); (try simp only [← hji9] at H' ⊢); (try simp only [← hji37] at H' ⊢); (try simp only [← hji44] at H' ⊢); (try simp only [← hji47] at H' ⊢); (try simp only [← hji52] at H' ⊢); go_roundg k2)
     case measure => have := HK1.out; have := HK2.out; omega
     case rel => exact ⟨(y150), (wrap64 (x7_2 - 1)), eX, H', ⟨by have := HK1.out; have := HK2.out; omega⟩, ⟨by (try simp only [hl5_2]); (with_reducible repeat (first | apply Kd.S_alloc | apply Kd.S_drewN | apply Kd.S_drew)); exact HQ58.out⟩, ⟨by repeat (first | (with_reducible first | exact HB.out | apply below_alloc | apply pw_below_drewN | apply below_drew1 | refine below_set ?_ GB54.out) | exact HB.out)⟩⟩
end Go.Proofs.Ythpeiboobnnfgaa.E
end
section
namespace Go.Proofs.Ythpeiboobnnfgaa.E
open Go.RowKit Go.Proofs.YthpeiboobnnfgaaW.PrintWords Go.Proofs.YthpeiboobnnfgaaW.PrintLast Go.Proofs.YthpeiboobnnfgaaW.PrintMore
attribute [local go_sem] max2_int min2_int max_two min_two max_three min_three max_four min_four
set_option linter.unusedVariables false
set_option linter.unusedSimpArgs false
attribute [local go_sem high] eqA36
attribute [local go_sem] en63_mk1 en63_mk2 en63_mk3 en63_mk4
attribute [local go_sem] str_leq_ str_gtr_ str_geq_
mutual
def spec_EditText.j0 : Nat → List (S36) → List (S36) → Bool → Option (ByteArray × Bool)
 | 0, _, _, _ => none
 | k + 1, x0, x1, x18 => if x18 = true then (some ((⟨#[]⟩ : ByteArray), false)) else ((spec_l7Costs.f k x0 x1).bind fun t155 => (spec_EditText.l0 k x0 x1 t155 (⟨#[]⟩ : ByteArray) 0 0))
def spec_EditText.l0 : Nat → List (S36) → List (S36) → List (List Int) → ByteArray → Int → Int → Option (ByteArray × Bool)
 | 0, _, _, _, _, _, _ => none
 | k + 1, x0, x1, x6, x7, x8, x9 => if x8 < (x0.length : Int) then (spec_EditText.j2 k x0 x1 x6 x7 x8 x9 true) else (spec_EditText.j2 k x0 x1 x6 x7 x8 x9 (decide (x9 < (x1.length : Int))))
def spec_EditText.j2 : Nat → List (S36) → List (S36) → List (List Int) → ByteArray → Int → Int → Bool → Option (ByteArray × Bool)
 | 0, _, _, _, _, _, _, _ => none
 | k + 1, x0, x1, x6, x7, x8, x9, x31 => if x31 = true then (if 0 ≤ x8 then (if x8 < (x6.length : Int) then (if 0 ≤ x9 then (if x9 < ((rd_L4 x6 x8).length : Int) then (if x9 < (x1.length : Int) then (if 0 ≤ (wrap64 (x9 + 1)) then (if (wrap64 (x9 + 1)) < ((rd_L4 x6 x8).length : Int) then (spec_EditText.j3 k x0 x1 x6 x7 x8 x9 (rd (rd_L4 x6 x8) x9) ((wrap64 ((rd (rd_L4 x6 x8) (wrap64 (x9 + 1))) + 2)) == (rd (rd_L4 x6 x8) x9))) else (none)) else (none)) else (spec_EditText.j3 k x0 x1 x6 x7 x8 x9 (rd (rd_L4 x6 x8) x9) false)) else (none)) else (none)) else (none)) else (none)) else (some (x7, true))
def spec_EditText.j3 : Nat → List (S36) → List (S36) → List (List Int) → ByteArray → Int → Int → Int → Bool → Option (ByteArray × Bool)
 | 0, _, _, _, _, _, _, _, _ => none
 | k + 1, x0, x1, x6, x7, x8, x9, x10, x45 => if x45 = true then (if x7.size + 1 ≤ 9223372036854775807 then (spec_EditText.l0 k x0 x1 x6 (x7 ++ (⟨#[105]⟩ : ByteArray)) x8 (wrap64 (x9 + 1))) else (none)) else (if x8 < (x0.length : Int) then (if x9 < (x1.length : Int) then (if 0 ≤ x8 then (if 0 ≤ x9 then (if (((rd_T36 x0 x8).f0) == ((rd_T36 x1 x9).f0) && (((rd_T36 x0 x8).f1) == ((rd_T36 x1 x9).f1))) = true then (if 0 ≤ (wrap64 (x8 + 1)) then (if (wrap64 (x8 + 1)) < (x6.length : Int) then (if 0 ≤ (wrap64 (x9 + 1)) then (if (wrap64 (x9 + 1)) < ((rd_L4 x6 (wrap64 (x8 + 1))).length : Int) then (spec_EditText.j4 k x0 x1 x6 x7 x8 x9 x10 ((rd (rd_L4 x6 (wrap64 (x8 + 1))) (wrap64 (x9 + 1))) == x10)) else (none)) else (none)) else (none)) else (none)) else (spec_EditText.j4 k x0 x1 x6 x7 x8 x9 x10 false)) else (none)) else (none)) else (spec_EditText.j4 k x0 x1 x6 x7 x8 x9 x10 false)) else (spec_EditText.j4 k x0 x1 x6 x7 x8 x9 x10 false))
def spec_EditText.j4 : Nat → List (S36) → List (S36) → List (List Int) → ByteArray → Int → Int → Int → Bool → Option (ByteArray × Bool)
 | 0, _, _, _, _, _, _, _, _ => none
 | k + 1, x0, x1, x6, x7, x8, x9, x10, x67 => if x67 = true then (if x7.size + 1 ≤ 9223372036854775807 then (spec_EditText.l0 k x0 x1 x6 (x7 ++ (⟨#[107]⟩ : ByteArray)) (wrap64 (x8 + 1)) (wrap64 (x9 + 1))) else (none)) else (if x8 < (x0.length : Int) then (if 0 ≤ (wrap64 (x8 + 1)) then (if (wrap64 (x8 + 1)) < (x6.length : Int) then (if 0 ≤ x9 then (if x9 < ((rd_L4 x6 (wrap64 (x8 + 1))).length : Int) then (if (wrap64 ((rd (rd_L4 x6 (wrap64 (x8 + 1))) x9) + 2)) = x10 then (if x7.size + 1 ≤ 9223372036854775807 then (spec_EditText.l0 k x0 x1 x6 (x7 ++ (⟨#[111]⟩ : ByteArray)) (wrap64 (x8 + 1)) x9) else (none)) else (if x7.size + 1 ≤ 9223372036854775807 then (spec_EditText.l0 k x0 x1 x6 (x7 ++ (⟨#[114]⟩ : ByteArray)) (wrap64 (x8 + 1)) (wrap64 (x9 + 1))) else (none))) else (none)) else (none)) else (none)) else (none)) else (if x7.size + 1 ≤ 9223372036854775807 then (spec_EditText.l0 k x0 x1 x6 (x7 ++ (⟨#[114]⟩ : ByteArray)) (wrap64 (x8 + 1)) (wrap64 (x9 + 1))) else (none)))
end
def spec_EditText.f (k : Nat) (l0 : List (S36)) (l1 : List (S36)) : Option (ByteArray × Bool) := (spec_MelodyValid.f k l0).bind fun t153 => (if t153 = true then ((spec_MelodyValid.f k l1).bind fun t154 => (spec_EditText.j0 k l0 l1 (!t154))) else (spec_EditText.j0 k l0 l1 true))
set_option maxHeartbeats 8000000 in
set_option maxRecDepth 100000 in
theorem spec_EditText.calls (k : Nat) (A0 : Option Addr) (c0 : Nat) (l0 : List (S36)) (A1 : Option Addr) (c1 : Nat) (l1 : List (S36)) (r1 : ByteArray) (r2 : Bool) (w : World) (hr0 : Kd.C k36 w A0 l0.length l0) (hc0 : l0.length ≤ c0) (hr1 : Kd.C k36 w A1 l1.length l1) (hc1 : l1.length ≤ c1) (h : spec_EditText.f k l0 l1 = some (r1, r2)) :
  Calls Try.prog 28 #[.slice A0 l0.length c0, .slice A1 l1.length c1] w fun e w' => e = .returned (.tuple #[.string r1, .bool r2]) ∧ Below w.heap.size w w' := by
 have hu36 := Try.underlying36
 have HR0 := Aside0.mk hr0
 have HC0 := Aside0.mk hc0
 clear hr0 hc0
 have HR1 := Aside0.mk hr1
 have HC1 := Aside0.mk hc1
 clear hr1 hc1
 have HB := Q0_ (Below.refl w.heap.size w)
 have H : ((spec_MelodyValid.f k l0).bind fun t153 => (if t153 = true then ((spec_MelodyValid.f k l1).bind fun t154 => (spec_EditText.j0 k l0 l1 (!t154))) else (spec_EditText.j0 k l0 l1 true))) = some (r1, r2) := h
 clear h
 have HC3 := Aside0.mk H
 clear H
 go_enter Try.func28, Try.ntmps28
 go_upto_region 1 with (fail)
 repeat (go_quiet (fail); go_upto_region 1 with (fail))
 go_cut [18] (fun v18 wc => ∃ (kq : Nat) (x18_2 : Bool), v18 = .bool x18_2 ∧ Aside0 (spec_EditText.j0 kq l0 l1 x18_2 = some (r1, r2)) ∧ Aside0 (kq ≤ k) ∧ Aside0 (Below w.heap.size w wc))
 case first =>
  have H := HC3.out
  clear HC3
  obtain ⟨t153, A40, H⟩ := Option.bind_eq_some_iff.mp H
  try dsimp only at H
  have A4 := Aside0.mk A40
  clear A40
  by_cases c5 : t153 = true
  rotate_left
  ·replace c5 := Bool.eq_false_iff.mpr c5
   subst c5
   replace H := ifN ((show ¬ (false = true) by decide)) H
   have H' := Aside0.mk H
   clear H
   go_wp2_with (first | (go_at_call 32; (with_reducible refine (spec_MelodyValid.calls k _ _ l0 false _ ?side1 ?side2 A4.out).mono ?_); (case side1 => repeat (first | exact (Kd.C_below HR0.out HB.out) | (with_reducible refine Kd.C_alloc ?_ _) | (with_reducible refine Kd.C_drewN ?_ _) | (with_reducible refine Kd.C_drew ?_))); (case side2 => exact HC0.out); rintro e w9 ⟨rfl, hb⟩; have n0_ := Q0_ (below_step (upB HB) hb); clear HB; revert n0_; intro HB; (try clear hb); (try clear hb2); (try clear hk); (try clear hi)))
   repeat (go_quiet (first | (go_at_call 32; (with_reducible refine (spec_MelodyValid.calls k _ _ l0 false _ ?side1 ?side2 A4.out).mono ?_); (case side1 => repeat (first | exact (Kd.C_below HR0.out HB.out) | (with_reducible refine Kd.C_alloc ?_ _) | (with_reducible refine Kd.C_drewN ?_ _) | (with_reducible refine Kd.C_drew ?_))); (case side2 => exact HC0.out); rintro e w9 ⟨rfl, hb⟩; have n0_ := Q0_ (below_step (upB HB) hb); clear HB; revert n0_; intro HB; (try clear hb); (try clear hb2); (try clear hk); (try clear hi))); try go_wp2_with (first | (go_at_call 32; (with_reducible refine (spec_MelodyValid.calls k _ _ l0 false _ ?side1 ?side2 A4.out).mono ?_); (case side1 => repeat (first | exact (Kd.C_below HR0.out HB.out) | (with_reducible refine Kd.C_alloc ?_ _) | (with_reducible refine Kd.C_drewN ?_ _) | (with_reducible refine Kd.C_drew ?_))); (case side2 => exact HC0.out); rintro e w9 ⟨rfl, hb⟩; have n0_ := Q0_ (below_step (upB HB) hb); clear HB; revert n0_; intro HB; (try clear hb); (try clear hb2); (try clear hk); (try clear hi))))
   go_meet
   case rel => exact ⟨_, (true), eX, H', ⟨by first | omega | exact Nat.le_refl _⟩, ⟨by repeat (first | (with_reducible first | exact HB.out | apply below_alloc | apply pw_below_drewN | apply below_drew1) | exact HB.out)⟩⟩
  subst c5
  replace H := ifP (rfl) H
  obtain ⟨t154, A60, H⟩ := Option.bind_eq_some_iff.mp H
  try dsimp only at H
  have A6 := Aside0.mk A60
  clear A60
  have H' := Aside0.mk H
  clear H
  go_wp2_with (first | (go_at_call 32; (with_reducible refine (spec_MelodyValid.calls k _ _ l0 true _ ?side1 ?side2 A4.out).mono ?_); (case side1 => repeat (first | exact (Kd.C_below HR0.out HB.out) | (with_reducible refine Kd.C_alloc ?_ _) | (with_reducible refine Kd.C_drewN ?_ _) | (with_reducible refine Kd.C_drew ?_))); (case side2 => exact HC0.out); rintro e w7 ⟨rfl, hb⟩; have n0_ := Q0_ (below_step (upB HB) hb); clear HB; revert n0_; intro HB; (try clear hb); (try clear hb2); (try clear hk); (try clear hi)) | (go_at_call 32; (with_reducible refine (spec_MelodyValid.calls k _ _ l1 t154 _ ?side1 ?side2 A6.out).mono ?_); (case side1 => repeat (first | exact (Kd.C_below HR1.out HB.out) | (with_reducible refine Kd.C_alloc ?_ _) | (with_reducible refine Kd.C_drewN ?_ _) | (with_reducible refine Kd.C_drew ?_))); (case side2 => exact HC1.out); rintro e w8 ⟨rfl, hb⟩; have n0_ := Q0_ (below_step (upB HB) hb); clear HB; revert n0_; intro HB; (try clear hb); (try clear hb2); (try clear hk); (try clear hi)))
  repeat (go_quiet (first | (go_at_call 32; (with_reducible refine (spec_MelodyValid.calls k _ _ l0 true _ ?side1 ?side2 A4.out).mono ?_); (case side1 => repeat (first | exact (Kd.C_below HR0.out HB.out) | (with_reducible refine Kd.C_alloc ?_ _) | (with_reducible refine Kd.C_drewN ?_ _) | (with_reducible refine Kd.C_drew ?_))); (case side2 => exact HC0.out); rintro e w7 ⟨rfl, hb⟩; have n0_ := Q0_ (below_step (upB HB) hb); clear HB; revert n0_; intro HB; (try clear hb); (try clear hb2); (try clear hk); (try clear hi)) | (go_at_call 32; (with_reducible refine (spec_MelodyValid.calls k _ _ l1 t154 _ ?side1 ?side2 A6.out).mono ?_); (case side1 => repeat (first | exact (Kd.C_below HR1.out HB.out) | (with_reducible refine Kd.C_alloc ?_ _) | (with_reducible refine Kd.C_drewN ?_ _) | (with_reducible refine Kd.C_drew ?_))); (case side2 => exact HC1.out); rintro e w8 ⟨rfl, hb⟩; have n0_ := Q0_ (below_step (upB HB) hb); clear HB; revert n0_; intro HB; (try clear hb); (try clear hb2); (try clear hk); (try clear hi))); try go_wp2_with (first | (go_at_call 32; (with_reducible refine (spec_MelodyValid.calls k _ _ l0 true _ ?side1 ?side2 A4.out).mono ?_); (case side1 => repeat (first | exact (Kd.C_below HR0.out HB.out) | (with_reducible refine Kd.C_alloc ?_ _) | (with_reducible refine Kd.C_drewN ?_ _) | (with_reducible refine Kd.C_drew ?_))); (case side2 => exact HC0.out); rintro e w7 ⟨rfl, hb⟩; have n0_ := Q0_ (below_step (upB HB) hb); clear HB; revert n0_; intro HB; (try clear hb); (try clear hb2); (try clear hk); (try clear hi)) | (go_at_call 32; (with_reducible refine (spec_MelodyValid.calls k _ _ l1 t154 _ ?side1 ?side2 A6.out).mono ?_); (case side1 => repeat (first | exact (Kd.C_below HR1.out HB.out) | (with_reducible refine Kd.C_alloc ?_ _) | (with_reducible refine Kd.C_drewN ?_ _) | (with_reducible refine Kd.C_drew ?_))); (case side2 => exact HC1.out); rintro e w8 ⟨rfl, hb⟩; have n0_ := Q0_ (below_step (upB HB) hb); clear HB; revert n0_; intro HB; (try clear hb); (try clear hb2); (try clear hk); (try clear hi))))
  go_meet
  case rel => exact ⟨_, (!t154), eX, H', ⟨by first | omega | exact Nat.le_refl _⟩, ⟨by repeat (first | (with_reducible first | exact HB.out | apply below_alloc | apply pw_below_drewN | apply below_drew1) | exact HB.out)⟩⟩
 case rest =>
  clear HC3
  try clear c1
  try clear c2
  try clear p2
  try clear c5
  obtain ⟨kq, x18_2, rfl, HA, HJ2, HB⟩ := hcut
  cases kq with
  | zero => exact absurd HA.out (by simp [spec_EditText.j0])
  | succ kj2 =>
   have H := HA.out
   clear HA
   simp only [spec_EditText.j0] at H
   by_cases c10 : x18_2 = true
   ·subst c10
    replace H := ifP (rfl) H
    simp only [Option.some.injEq, Prod.mk.injEq] at H
    obtain ⟨rfl, rfl⟩ := H
    go_wp2
    repeat (go_quiet (fail); try go_wp2)
    go_ret2
    exact ⟨by first | rfl | (simp [errW_none, errW_some] <;> rfl) | (simp [*, errW_none, errW_some] <;> rfl), by repeat (first | (with_reducible first | exact HB.out | apply below_alloc | apply pw_below_drewN | apply below_drew1) | exact HB.out)⟩
   replace c10 := Bool.eq_false_iff.mpr c10
   subst c10
   replace H := ifN ((show ¬ (false = true) by decide)) H
   obtain ⟨t155, A110, H⟩ := Option.bind_eq_some_iff.mp H
   try dsimp only at H
   have A11 := Aside0.mk A110
   clear A110
   have H' := Aside0.mk H
   clear H
   go_wp2_with (first | (go_at_call 38; (with_reducible refine (spec_l7Costs.calls kj2 _ _ l0 _ _ l1 t155 _ ?side1 ?side2 ?side3 ?side4 A11.out).mono ?_); (case side1 => repeat (first | exact (Kd.C_below HR0.out HB.out) | (with_reducible refine Kd.C_alloc ?_ _) | (with_reducible refine Kd.C_drewN ?_ _) | (with_reducible refine Kd.C_drew ?_))); (case side2 => exact HC0.out); (case side3 => repeat (first | exact (Kd.C_below HR1.out HB.out) | (with_reducible refine Kd.C_alloc ?_ _) | (with_reducible refine Kd.C_drewN ?_ _) | (with_reducible refine Kd.C_drew ?_))); (case side4 => exact HC1.out); rintro e w12 ⟨v156, rfl, ho0, hb⟩; have n0_ := Q0_ (Kd.S_lower ho0 (below_size (upB HB))); have n1_ := Q0_ (below_step (upB HB) hb); clear HB; revert n0_ n1_; intro HO157 HB; (try clear hb); (try clear hb2); (try clear hk); (try clear hi); (try clear ho0)))
   repeat (go_quiet (first | (go_at_call 38; (with_reducible refine (spec_l7Costs.calls kj2 _ _ l0 _ _ l1 t155 _ ?side1 ?side2 ?side3 ?side4 A11.out).mono ?_); (case side1 => repeat (first | exact (Kd.C_below HR0.out HB.out) | (with_reducible refine Kd.C_alloc ?_ _) | (with_reducible refine Kd.C_drewN ?_ _) | (with_reducible refine Kd.C_drew ?_))); (case side2 => exact HC0.out); (case side3 => repeat (first | exact (Kd.C_below HR1.out HB.out) | (with_reducible refine Kd.C_alloc ?_ _) | (with_reducible refine Kd.C_drewN ?_ _) | (with_reducible refine Kd.C_drew ?_))); (case side4 => exact HC1.out); rintro e w12 ⟨v156, rfl, ho0, hb⟩; have n0_ := Q0_ (Kd.S_lower ho0 (below_size (upB HB))); have n1_ := Q0_ (below_step (upB HB) hb); clear HB; revert n0_ n1_; intro HO157 HB; (try clear hb); (try clear hb2); (try clear hk); (try clear hi); (try clear ho0))); try go_wp2_with (first | (go_at_call 38; (with_reducible refine (spec_l7Costs.calls kj2 _ _ l0 _ _ l1 t155 _ ?side1 ?side2 ?side3 ?side4 A11.out).mono ?_); (case side1 => repeat (first | exact (Kd.C_below HR0.out HB.out) | (with_reducible refine Kd.C_alloc ?_ _) | (with_reducible refine Kd.C_drewN ?_ _) | (with_reducible refine Kd.C_drew ?_))); (case side2 => exact HC0.out); (case side3 => repeat (first | exact (Kd.C_below HR1.out HB.out) | (with_reducible refine Kd.C_alloc ?_ _) | (with_reducible refine Kd.C_drewN ?_ _) | (with_reducible refine Kd.C_drew ?_))); (case side4 => exact HC1.out); rintro e w12 ⟨v156, rfl, ho0, hb⟩; have n0_ := Q0_ (Kd.S_lower ho0 (below_size (upB HB))); have n1_ := Q0_ (below_step (upB HB) hb); clear HB; revert n0_ n1_; intro HO157 HB; (try clear hb); (try clear hb2); (try clear hk); (try clear hi); (try clear ho0))))
   go_loopg [7, 8, 9] kj2 (fun kq v7 v8 v9 w' => ∃ (x7_2 : ByteArray) (x8_2 : Int) (x9_2 : Int), v7 = .string x7_2 ∧ v8 = .int .i64 x8_2 ∧ v9 = .int .i64 x9_2 ∧ Aside0 (spec_EditText.l0 kq l0 l1 t155 x7_2 x8_2 x9_2 = some (r1, r2)) ∧ Aside0 (kq ≤ kj2) ∧ Aside0 (Kd.S (Kd.slice 3 (Kd.int .i64)) 46 w' w.heap.size (fun _ => True) v156 t155) ∧ Aside0 (Below w.heap.size w w'))
   case atStart => exact ⟨((⟨#[]⟩ : ByteArray)), (0), (0), eX, eX, eX, H', ⟨Nat.le_refl _⟩, ⟨by (with_reducible repeat (first | apply Kd.S_alloc | apply Kd.S_drewN | apply Kd.S_drew)); exact HO157.out⟩, ⟨by repeat (first | (with_reducible first | exact HB.out | apply below_alloc | apply pw_below_drewN | apply below_drew1) | exact HB.out)⟩⟩
   case round =>
    clear H'
    try clear c1
    try clear c2
    try clear p2
    try clear c5
    try clear c10
    try clear p2
    obtain ⟨x7_2, x8_2, x9_2, rfl, rfl, rfl, HA, HK2, HO_6, HB⟩ := hrel
    cases gk with
    | zero => exact absurd HA.out (by simp [spec_EditText.l0])
    | succ k2 =>
     have H := HA.out
     clear HA
     simp only [spec_EditText.l0] at H
     have HC13 := Aside0.mk H
     clear H
     go_upto_region 7 with (fail)
     repeat (go_quiet (fail); go_upto_region 7 with (fail))
     go_cut [31] (fun v31 wc => ∃ (kq : Nat) (x31_12 : Bool), v31 = .bool x31_12 ∧ Aside0 (spec_EditText.j2 kq l0 l1 t155 x7_2 x8_2 x9_2 x31_12 = some (r1, r2)) ∧ Aside0 (kq ≤ k2) ∧ Aside0 (Kd.S (Kd.slice 3 (Kd.int .i64)) 46 wc w.heap.size (fun _ => True) v156 t155) ∧ Aside0 (Below w.heap.size w wc))
     case first =>
      have H := HC13.out
      clear HC13
      by_cases c14 : x8_2 < (l0.length : Int)
      rotate_left
      ·rw [if_neg c14] at H
       have c14b0 : decide (x8_2 < (l0.length : Int)) = false := decide_eq_false c14
       clear c14
       (first | rw [c14b0] | (simp only [i64_w, i32_w]; rw [c14b0]) | skip)
       have H' := Aside0.mk H
       clear H
       go_wp2
       repeat (go_quiet (fail); try go_wp2)
       go_meet
       case rel => exact ⟨_, (decide (x9_2 < (l1.length : Int))), eX, H', ⟨by have := HJ2.out; have := HK2.out; first | omega | exact Nat.le_refl _⟩, ⟨by (with_reducible repeat (first | apply Kd.S_alloc | apply Kd.S_drewN | apply Kd.S_drew)); exact HO_6.out⟩, ⟨by repeat (first | (with_reducible first | exact HB.out | apply below_alloc | apply pw_below_drewN | apply below_drew1) | exact HB.out)⟩⟩
      rw [if_pos c14] at H
      have c14b0 : decide (x8_2 < (l0.length : Int)) = true := decide_eq_true c14
      clear c14
      (first | rw [c14b0] | (simp only [i64_w, i32_w]; rw [c14b0]) | skip)
      have H' := Aside0.mk H
      clear H
      go_wp2
      repeat (go_quiet (fail); try go_wp2)
      go_meet
      case rel => exact ⟨_, (true), eX, H', ⟨by have := HJ2.out; have := HK2.out; first | omega | exact Nat.le_refl _⟩, ⟨by (with_reducible repeat (first | apply Kd.S_alloc | apply Kd.S_drewN | apply Kd.S_drew)); exact HO_6.out⟩, ⟨by repeat (first | (with_reducible first | exact HB.out | apply below_alloc | apply pw_below_drewN | apply below_drew1) | exact HB.out)⟩⟩
     case rest =>
      clear HC13
      try clear c1
      try clear c2
      try clear p2
      try clear c5
      try clear c10
      try clear c14
      try clear c14b0
      try clear p2
      obtain ⟨kq, x31_12, rfl, HA, HJ12, HO_6, HB⟩ := hcut
      cases kq with
      | zero => exact absurd HA.out (by simp [spec_EditText.j2])
      | succ kj12 =>
       have H := HA.out
       clear HA
       simp only [spec_EditText.j2] at H
       by_cases c15 : x31_12 = true
       rotate_left
       ·replace c15 := Bool.eq_false_iff.mpr c15
        subst c15
        replace H := ifN ((show ¬ (false = true) by decide)) H
        simp only [Option.some.injEq, Prod.mk.injEq] at H
        obtain ⟨rfl, rfl⟩ := H
        go_wp2
        repeat (go_quiet (fail); try go_wp2)
        go_ret2
        exact ⟨by first | rfl | (simp [errW_none, errW_some] <;> rfl) | (simp [*, errW_none, errW_some] <;> rfl), by repeat (first | (with_reducible first | exact HB.out | apply below_alloc | apply pw_below_drewN | apply below_drew1) | exact HB.out)⟩
       subst c15
       replace H := ifP (rfl) H
       by_cases c16 : 0 ≤ x8_2
       rotate_left
       ·rw [if_neg c16] at H
        exact absurd H (by simp)
       rw [if_pos c16] at H
       have c16b0 : decide (0 ≤ x8_2) = true := decide_eq_true c16
       clear c16
       by_cases c17 : x8_2 < (t155.length : Int)
       rotate_left
       ·rw [if_neg c17] at H
        exact absurd H (by simp)
       rw [if_pos c17] at H
       have c17b0 : decide (x8_2 < (t155.length : Int)) = true := decide_eq_true c17
       clear c17
       by_cases c18 : 0 ≤ x9_2
       rotate_left
       ·rw [if_neg c18] at H
        exact absurd H (by simp)
       rw [if_pos c18] at H
       have c18b0 : decide (0 ≤ x9_2) = true := decide_eq_true c18
       clear c18
       by_cases c19 : x9_2 < ((rd_L4 t155 x8_2).length : Int)
       rotate_left
       ·rw [if_neg c19] at H
        exact absurd H (by simp)
       rw [if_pos c19] at H
       have c19b0 : decide (x9_2 < ((rd_L4 t155 x8_2).length : Int)) = true := decide_eq_true c19
       clear c19
       have HC20 := Aside0.mk H
       clear H
       obtain ⟨Ao21, co21, eo21⟩ := Kd.S_slice HO_6.out
       subst eo21
       have p158 : 0 ≤ (x8_2 : Int) := of_decide_eq_true aS
       have q158 : x8_2 < (t155.length : Int) := of_decide_eq_true aS
       obtain ⟨ad158, A158_0, c158_0, e158, hx158_0, hl158_0, hi158_0⟩ := at_L4 (Kd.S_reads' HO_6.out).2.2 x8_2 p158 q158
       cases e158
       obtain ⟨ce158, hce158, hMe158, hcc158⟩ := Kd.S_get HO_6.out [] x8_2 p158 (by first | exact q158 | exact of_decide_eq_true aS | (have e_ := (Kd.S_reads' HO_6.out).1; omega))
       obtain ⟨ve158_0, rfl, ge158_0⟩ := hMe158
       have hv158_0 := hcc158 0 _ rfl
       rw [Nat.add_zero, show ((Kd.slice 3 (Kd.int .i64))).sz = 1 from rfl, Nat.mul_one] at hv158_0
       replace hv158_0 := Option.some.inj (hv158_0.symm.trans hx158_0)
       rw [hv158_0] at ge158_0
       have HL158_0 := Q0_ (show Kd.R (Kd.int .i64) 3 _ _ _ _ (rd_L4 t155 x8_2) from ge158_0)
       clear hv158_0 ge158_0
       clear hcc158 hce158
       have HR158_0 := Aside0.mk hi158_0
       have HC158_0 := Aside0.mk hl158_0
       clear hi158_0 hl158_0
       replace p158 := eq_true p158
       replace q158 := eq_true q158
       have p159 : 0 ≤ (x9_2 : Int) := of_decide_eq_true aS
       have q159 : x9_2 < ((rd_L4 t155 x8_2).length : Int) := of_decide_eq_true aS
       obtain ⟨ad159, e159, hx159_0⟩ := Kd.at_int HR158_0.out x9_2 p159 q159
       cases e159
       replace p159 := eq_true p159
       replace q159 := eq_true q159
       go_upto_region 12 with (fail)
       repeat (go_quiet (fail); go_upto_region 12 with (fail))
       go_cut [45] (fun v45 wc => ∃ (kq : Nat) (x45_19 : Bool), v45 = .bool x45_19 ∧ Aside0 (spec_EditText.j3 kq l0 l1 t155 x7_2 x8_2 x9_2 (rd (rd_L4 t155 x8_2) x9_2) x45_19 = some (r1, r2)) ∧ Aside0 (kq ≤ kj12) ∧ Aside0 (Kd.S (Kd.slice 3 (Kd.int .i64)) 46 wc w.heap.size (fun _ => True) (.slice (some ad158) t155.length co21) t155) ∧ Aside0 (Kd.C (Kd.int .i64) wc (some ad159) (rd_L4 t155 x8_2).length (rd_L4 t155 x8_2)) ∧ Aside0 (Below w.heap.size w wc))
       case first =>
        have H := HC20.out
        clear HC20
        by_cases c22 : x9_2 < (l1.length : Int)
        rotate_left
        ·rw [if_neg c22] at H
         have c22b0 : decide (x9_2 < (l1.length : Int)) = false := decide_eq_false c22
         clear c22
         (first | rw [c22b0] | (simp only [i64_w, i32_w]; rw [c22b0]) | skip)
         have H' := Aside0.mk H
         clear H
         go_wp2
         repeat (go_quiet (fail); try go_wp2)
         go_meet
         case rel => exact ⟨_, (false), eX, H', ⟨by have := HJ2.out; have := HK2.out; have := HJ12.out; first | omega | exact Nat.le_refl _⟩, ⟨by (with_reducible repeat (first | apply Kd.S_alloc | apply Kd.S_drewN | apply Kd.S_drew)); exact HO_6.out⟩, ⟨by repeat (first | (with_reducible exact HR158_0.out) | (with_reducible refine Kd.C_alloc ?_ _) | (with_reducible refine Kd.C_drewN ?_ _) | (with_reducible refine Kd.C_drew ?_) | exact HR158_0.out)⟩, ⟨by repeat (first | (with_reducible first | exact HB.out | apply below_alloc | apply pw_below_drewN | apply below_drew1) | exact HB.out)⟩⟩
        rw [if_pos c22] at H
        have c22b0 : decide (x9_2 < (l1.length : Int)) = true := decide_eq_true c22
        clear c22
        (first | rw [c22b0] | (simp only [i64_w, i32_w]; rw [c22b0]) | skip)
        obtain ⟨ji24, hji24⟩ : ∃ j_ : Int, (wrap64 (x9_2 + 1)) = j_ := ⟨_, rfl⟩
        replace H : (if 0 ≤ (ji24) then (if (ji24) < ((rd_L4 t155 x8_2).length : Int) then (spec_EditText.j3 kj12 l0 l1 t155 x7_2 x8_2 x9_2 (rd (rd_L4 t155 x8_2) x9_2) ((wrap64 ((rd (rd_L4 t155 x8_2) (ji24)) + 2)) == (rd (rd_L4 t155 x8_2) x9_2))) else (none)) else (none)) = some (r1, r2) := by first | (rw [hji24] at H; exact H) | (simp only [hji24] at H ⊢; exact H)
        have hji24w : (IntKind.i64.wrap (x9_2 + 1)) = ji24 := (i64_w _).trans hji24
        by_cases c25 : 0 ≤ (ji24)
        rotate_left
        ·rw [if_neg c25] at H
         exact absurd H (by simp)
        rw [if_pos c25] at H
        have c25b0 : decide (0 ≤ (ji24)) = true := decide_eq_true c25
        clear c25
        by_cases c26 : (ji24) < ((rd_L4 t155 x8_2).length : Int)
        rotate_left
        ·rw [if_neg c26] at H
         exact absurd H (by simp)
        rw [if_pos c26] at H
        have c26b0 : decide ((ji24) < ((rd_L4 t155 x8_2).length : Int)) = true := decide_eq_true c26
        clear c26
        have H' := Aside0.mk H
        clear H
        have p23 : 0 ≤ (x8_2 : Int) := of_decide_eq_true aS
        have q23 : (x8_2 : Int) < ((t155.length : Int) : Int) := of_decide_eq_true aS
        replace p23 := eq_true p23
        replace q23 := eq_true q23
        have p160 : 0 ≤ ((ji24) : Int) := of_decide_eq_true aS
        have q160 : (ji24) < ((rd_L4 t155 x8_2).length : Int) := of_decide_eq_true aS
        obtain ⟨ad160, e160, hx160_0⟩ := Kd.at_int HR158_0.out (ji24) p160 q160
        obtain rfl : ad159 = ad160 := (by injection e160)
        replace p160 := eq_true p160
        replace q160 := eq_true q160
        go_wp2
        repeat (go_quiet (fail); try go_wp2)
        go_meet
        case rel => exact ⟨_, (((wrap64 ((rd (rd_L4 t155 x8_2) (ji24)) + 2)) == (rd (rd_L4 t155 x8_2) x9_2))), (by first | rfl | (simp; done) | (simp only [← hji24] <;> (first | rfl | simp)) | (simp [*]; done)), H', ⟨by have := HJ2.out; have := HK2.out; have := HJ12.out; first | omega | exact Nat.le_refl _⟩, ⟨by (with_reducible repeat (first | apply Kd.S_alloc | apply Kd.S_drewN | apply Kd.S_drew)); exact HO_6.out⟩, ⟨by repeat (first | (with_reducible exact HR158_0.out) | (with_reducible refine Kd.C_alloc ?_ _) | (with_reducible refine Kd.C_drewN ?_ _) | (with_reducible refine Kd.C_drew ?_) | exact HR158_0.out)⟩, ⟨by repeat (first | (with_reducible first | exact HB.out | apply below_alloc | apply pw_below_drewN | apply below_drew1) | exact HB.out)⟩⟩
       case rest =>
        clear HC20
        try clear c1
        try clear p1
        try clear q1
        try clear hx1
        try clear c2
        try clear p2
        try clear q2
        try clear c5
        try clear p6
        try clear c10
        try clear c14
        try clear c14b0
        try clear c15
        try clear p15
        try clear q15
        try clear hx15
        try clear c16
        try clear c16b0
        try clear p16
        try clear q16
        try clear hx16
        try clear c17
        try clear c17b0
        try clear c18
        try clear c18b0
        try clear c19
        try clear c19b0
        try clear c22
        try clear c22b0
        try clear p23
        try clear q23
        try clear c25
        try clear c25b0
        try clear c26
        try clear c26b0
        try clear hx158_0
        try clear hx159_0
        try clear hx160_0
        try clear p158
        try clear p159
        try clear p160
        try clear p2
        try clear p23
        try clear q158
        try clear q159
        try clear q160
        try clear q23
        obtain ⟨kq, x45_19, rfl, HA, HJ19, HO_6, HR158_0, HB⟩ := hcut
        cases kq with
        | zero => exact absurd HA.out (by simp [spec_EditText.j3])
        | succ kj19 =>
         have H := HA.out
         clear HA
         simp only [spec_EditText.j3] at H
         by_cases c27 : x45_19 = true
         ·subst c27
          replace H := ifP (rfl) H
          by_cases c28 : x7_2.size + 1 ≤ 9223372036854775807
          rotate_left
          ·rw [if_neg c28] at H
           exact absurd H (by simp)
          rw [if_pos c28] at H
          have c28b0 := eq_true c28
          have c28b1 : decide (x7_2.size + 1 ≤ 9223372036854775807) = true := decide_eq_true c28
          try have c28b2 : (9223372036854775807 < x7_2.size + 1) = False := eq_false (Nat.not_lt.2 c28)
          have H' := Aside0.mk H
          clear H
          go_wp2
          repeat (go_quiet (fail); try go_wp2)
          first | go_roundg kj19 | ((try simp only [← hji24] at H' ⊢); go_roundg kj19)
          case measure => have := HJ2.out; have := HK2.out; have := HJ12.out; have := HJ19.out; omega
          case rel => exact ⟨(x7_2 ++ (⟨#[105]⟩ : ByteArray)), (x8_2), (wrap64 (x9_2 + 1)), eX, eX, eX, H', ⟨by have := HJ2.out; have := HK2.out; have := HJ12.out; have := HJ19.out; omega⟩, ⟨by (with_reducible repeat (first | apply Kd.S_alloc | apply Kd.S_drewN | apply Kd.S_drew)); exact HO_6.out⟩, ⟨by repeat (first | (with_reducible first | exact HB.out | apply below_alloc | apply pw_below_drewN | apply below_drew1) | exact HB.out)⟩⟩
         replace c27 := Bool.eq_false_iff.mpr c27
         subst c27
         replace H := ifN ((show ¬ (false = true) by decide)) H
         have HC29 := Aside0.mk H
         clear H
         go_upto_region 15 with (fail)
         repeat (go_quiet (fail); go_upto_region 15 with (fail))
         go_cut [67] (fun v67 wc => ∃ (kq : Nat) (x67_28 : Bool), v67 = .bool x67_28 ∧ Aside0 (spec_EditText.j4 kq l0 l1 t155 x7_2 x8_2 x9_2 (rd (rd_L4 t155 x8_2) x9_2) x67_28 = some (r1, r2)) ∧ Aside0 (kq ≤ kj19) ∧ Aside0 (Kd.S (Kd.slice 3 (Kd.int .i64)) 46 wc w.heap.size (fun _ => True) (.slice (some ad158) t155.length co21) t155) ∧ Aside0 (Kd.C (Kd.int .i64) wc (some ad159) (rd_L4 t155 x8_2).length (rd_L4 t155 x8_2)) ∧ Aside0 (Below w.heap.size w wc))
         case first =>
          have H := HC29.out
          clear HC29
          by_cases c30 : x8_2 < (l0.length : Int)
          rotate_left
          ·rw [if_neg c30] at H
           have c30b0 : decide (x8_2 < (l0.length : Int)) = false := decide_eq_false c30
           clear c30
           (first | rw [c30b0] | (simp only [i64_w, i32_w]; rw [c30b0]) | skip)
           have H' := Aside0.mk H
           clear H
           go_wp2
           repeat (go_quiet (fail); try go_wp2)
           go_meet
           case rel => exact ⟨_, (false), eX, H', ⟨by have := HJ2.out; have := HK2.out; have := HJ12.out; have := HJ19.out; first | omega | exact Nat.le_refl _⟩, ⟨by (with_reducible repeat (first | apply Kd.S_alloc | apply Kd.S_drewN | apply Kd.S_drew)); exact HO_6.out⟩, ⟨by repeat (first | (with_reducible exact HR158_0.out) | (with_reducible refine Kd.C_alloc ?_ _) | (with_reducible refine Kd.C_drewN ?_ _) | (with_reducible refine Kd.C_drew ?_) | exact HR158_0.out)⟩, ⟨by repeat (first | (with_reducible first | exact HB.out | apply below_alloc | apply pw_below_drewN | apply below_drew1) | exact HB.out)⟩⟩
          rw [if_pos c30] at H
          have c30b0 : decide (x8_2 < (l0.length : Int)) = true := decide_eq_true c30
          clear c30
          (first | rw [c30b0] | (simp only [i64_w, i32_w]; rw [c30b0]) | skip)
          by_cases c31 : x9_2 < (l1.length : Int)
          rotate_left
          ·rw [if_neg c31] at H
           have c31b0 : decide (x9_2 < (l1.length : Int)) = false := decide_eq_false c31
           clear c31
           have H' := Aside0.mk H
           clear H
           go_wp2
           repeat (go_quiet (fail); try go_wp2)
           go_meet
           case rel => exact ⟨_, (false), eX, H', ⟨by have := HJ2.out; have := HK2.out; have := HJ12.out; have := HJ19.out; first | omega | exact Nat.le_refl _⟩, ⟨by (with_reducible repeat (first | apply Kd.S_alloc | apply Kd.S_drewN | apply Kd.S_drew)); exact HO_6.out⟩, ⟨by repeat (first | (with_reducible exact HR158_0.out) | (with_reducible refine Kd.C_alloc ?_ _) | (with_reducible refine Kd.C_drewN ?_ _) | (with_reducible refine Kd.C_drew ?_) | exact HR158_0.out)⟩, ⟨by repeat (first | (with_reducible first | exact HB.out | apply below_alloc | apply pw_below_drewN | apply below_drew1) | exact HB.out)⟩⟩
          rw [if_pos c31] at H
          have c31b0 : decide (x9_2 < (l1.length : Int)) = true := decide_eq_true c31
          clear c31
          by_cases c32 : 0 ≤ x8_2
          rotate_left
          ·rw [if_neg c32] at H
           exact absurd H (by simp)
          rw [if_pos c32] at H
          have c32b0 : decide (0 ≤ x8_2) = true := decide_eq_true c32
          clear c32
          by_cases c33 : 0 ≤ x9_2
          rotate_left
          ·rw [if_neg c33] at H
           exact absurd H (by simp)
          rw [if_pos c33] at H
          have c33b0 : decide (0 ≤ x9_2) = true := decide_eq_true c33
          clear c33
          by_cases c34 : (((rd_T36 l0 x8_2).f0) == ((rd_T36 l1 x9_2).f0) && (((rd_T36 l0 x8_2).f1) == ((rd_T36 l1 x9_2).f1))) = true
          rotate_left
          ·rw [if_neg c34] at H
           have c34b0 : (((rd_T36 l0 x8_2).f0) == ((rd_T36 l1 x9_2).f0) && (((rd_T36 l0 x8_2).f1) == ((rd_T36 l1 x9_2).f1))) = false := by simpa using c34
           (try (have c34b1 : decide (((rd_T36 l0 x8_2).f0) = ((rd_T36 l1 x9_2).f0) && (((rd_T36 l0 x8_2).f1) == ((rd_T36 l1 x9_2).f1))) = false := by simpa using c34))
           (try (have c34b2 : (((rd_T36 l0 x8_2).f0) == ((rd_T36 l1 x9_2).f0) && (((rd_T36 l0 x8_2).f1) == ((rd_T36 l1 x9_2).f1))) = false := by simpa using c34))
           (try (have c34b3 : ¬ (((rd_T36 l0 x8_2).f0) = ((rd_T36 l1 x9_2).f0) && (((rd_T36 l0 x8_2).f1) == ((rd_T36 l1 x9_2).f1))) := by simpa using c34))
           clear c34
           have H' := Aside0.mk H
           clear H
           have p161 : 0 ≤ (x8_2 : Int) := of_decide_eq_true aS
           have q161 : x8_2 < (l0.length : Int) := of_decide_eq_true aS
           obtain ⟨ad161, e161, hx161_0, hx161_1⟩ := at_T36 HR0.out x8_2 p161 q161
           cases e161
           replace hx161_0 := (HB.out.cell (World.block_lt_of_cell? w _ hx161_0)).trans hx161_0
           replace hx161_1 := (HB.out.cell (World.block_lt_of_cell? w _ hx161_1)).trans hx161_1
           replace p161 := eq_true p161
           replace q161 := eq_true q161
           have p162 : 0 ≤ (x9_2 : Int) := of_decide_eq_true aS
           have q162 : x9_2 < (l1.length : Int) := of_decide_eq_true aS
           obtain ⟨ad162, e162, hx162_0, hx162_1⟩ := at_T36 HR1.out x9_2 p162 q162
           cases e162
           replace hx162_0 := (HB.out.cell (World.block_lt_of_cell? w _ hx162_0)).trans hx162_0
           replace hx162_1 := (HB.out.cell (World.block_lt_of_cell? w _ hx162_1)).trans hx162_1
           replace p162 := eq_true p162
           replace q162 := eq_true q162
           go_wp2
           repeat (go_quiet (fail); try go_wp2)
           go_meet
           case rel => exact ⟨_, (false), eX, H', ⟨by have := HJ2.out; have := HK2.out; have := HJ12.out; have := HJ19.out; first | omega | exact Nat.le_refl _⟩, ⟨by (with_reducible repeat (first | apply Kd.S_alloc | apply Kd.S_drewN | apply Kd.S_drew)); exact HO_6.out⟩, ⟨by repeat (first | (with_reducible exact HR158_0.out) | (with_reducible refine Kd.C_alloc ?_ _) | (with_reducible refine Kd.C_drewN ?_ _) | (with_reducible refine Kd.C_drew ?_) | exact HR158_0.out)⟩, ⟨by repeat (first | (with_reducible first | exact HB.out | apply below_alloc | apply pw_below_drewN | apply below_drew1) | exact HB.out)⟩⟩
          rw [if_pos c34] at H
          have c34b0 : (((rd_T36 l0 x8_2).f0) == ((rd_T36 l1 x9_2).f0) && (((rd_T36 l0 x8_2).f1) == ((rd_T36 l1 x9_2).f1))) = true := c34
          (try (have c34b1 : decide (((rd_T36 l0 x8_2).f0) = ((rd_T36 l1 x9_2).f0) && (((rd_T36 l0 x8_2).f1) == ((rd_T36 l1 x9_2).f1))) = true := by simpa using c34))
          (try (have c34b2 : (((rd_T36 l0 x8_2).f0) == ((rd_T36 l1 x9_2).f0) && (((rd_T36 l0 x8_2).f1) == ((rd_T36 l1 x9_2).f1))) = true := by simpa using c34))
          clear c34
          obtain ⟨ji35, hji35⟩ : ∃ j_ : Int, (wrap64 (x8_2 + 1)) = j_ := ⟨_, rfl⟩
          replace H : (if 0 ≤ (ji35) then (if (ji35) < (t155.length : Int) then (if 0 ≤ (wrap64 (x9_2 + 1)) then (if (wrap64 (x9_2 + 1)) < ((rd_L4 t155 (ji35)).length : Int) then (spec_EditText.j4 kj19 l0 l1 t155 x7_2 x8_2 x9_2 (rd (rd_L4 t155 x8_2) x9_2) ((rd (rd_L4 t155 (ji35)) (wrap64 (x9_2 + 1))) == (rd (rd_L4 t155 x8_2) x9_2))) else (none)) else (none)) else (none)) else (none)) = some (r1, r2) := by first | (rw [hji35] at H; exact H) | (simp only [hji35] at H ⊢; exact H)
          have hji35w : (IntKind.i64.wrap (x8_2 + 1)) = ji35 := (i64_w _).trans hji35
          by_cases c36 : 0 ≤ (ji35)
          rotate_left
          ·rw [if_neg c36] at H
           exact absurd H (by simp)
          rw [if_pos c36] at H
          have c36b0 : decide (0 ≤ (ji35)) = true := decide_eq_true c36
          clear c36
          by_cases c37 : (ji35) < (t155.length : Int)
          rotate_left
          ·rw [if_neg c37] at H
           exact absurd H (by simp)
          rw [if_pos c37] at H
          have c37b0 : decide ((ji35) < (t155.length : Int)) = true := decide_eq_true c37
          clear c37
          obtain ⟨ji38, hji38⟩ : ∃ j_ : Int, (wrap64 (x9_2 + 1)) = j_ := ⟨_, rfl⟩
          replace H : (if 0 ≤ (ji38) then (if (ji38) < ((rd_L4 t155 (ji35)).length : Int) then (spec_EditText.j4 kj19 l0 l1 t155 x7_2 x8_2 x9_2 (rd (rd_L4 t155 x8_2) x9_2) ((rd (rd_L4 t155 (ji35)) (ji38)) == (rd (rd_L4 t155 x8_2) x9_2))) else (none)) else (none)) = some (r1, r2) := by first | (rw [hji38] at H; exact H) | (simp only [hji38] at H ⊢; exact H)
          have hji38w : (IntKind.i64.wrap (x9_2 + 1)) = ji38 := (i64_w _).trans hji38
          by_cases c39 : 0 ≤ (ji38)
          rotate_left
          ·rw [if_neg c39] at H
           exact absurd H (by simp)
          rw [if_pos c39] at H
          have c39b0 : decide (0 ≤ (ji38)) = true := decide_eq_true c39
          clear c39
          by_cases c40 : (ji38) < ((rd_L4 t155 (ji35)).length : Int)
          rotate_left
          ·rw [if_neg c40] at H
           exact absurd H (by simp)
          rw [if_pos c40] at H
          have c40b0 : decide ((ji38) < ((rd_L4 t155 (ji35)).length : Int)) = true := decide_eq_true c40
          clear c40
          have H' := Aside0.mk H
          clear H
          have p161 : 0 ≤ (x8_2 : Int) := of_decide_eq_true aS
          have q161 : x8_2 < (l0.length : Int) := of_decide_eq_true aS
          obtain ⟨ad161, e161, hx161_0, hx161_1⟩ := at_T36 HR0.out x8_2 p161 q161
          cases e161
          replace hx161_0 := (HB.out.cell (World.block_lt_of_cell? w _ hx161_0)).trans hx161_0
          replace hx161_1 := (HB.out.cell (World.block_lt_of_cell? w _ hx161_1)).trans hx161_1
          replace p161 := eq_true p161
          replace q161 := eq_true q161
          have p162 : 0 ≤ (x9_2 : Int) := of_decide_eq_true aS
          have q162 : x9_2 < (l1.length : Int) := of_decide_eq_true aS
          obtain ⟨ad162, e162, hx162_0, hx162_1⟩ := at_T36 HR1.out x9_2 p162 q162
          cases e162
          replace hx162_0 := (HB.out.cell (World.block_lt_of_cell? w _ hx162_0)).trans hx162_0
          replace hx162_1 := (HB.out.cell (World.block_lt_of_cell? w _ hx162_1)).trans hx162_1
          replace p162 := eq_true p162
          replace q162 := eq_true q162
          have p163 : 0 ≤ ((ji35) : Int) := of_decide_eq_true aS
          have q163 : (ji35) < (t155.length : Int) := of_decide_eq_true aS
          obtain ⟨ad163, A163_0, c163_0, e163, hx163_0, hl163_0, hi163_0⟩ := at_L4 (Kd.S_reads' HO_6.out).2.2 (ji35) p163 q163
          obtain rfl : ad158 = ad163 := (by injection e163)
          obtain ⟨ce163, hce163, hMe163, hcc163⟩ := Kd.S_get HO_6.out [] (ji35) p163 (by first | exact q163 | exact of_decide_eq_true aS | (have e_ := (Kd.S_reads' HO_6.out).1; omega))
          obtain ⟨ve163_0, rfl, ge163_0⟩ := hMe163
          have hv163_0 := hcc163 0 _ rfl
          rw [Nat.add_zero, show ((Kd.slice 3 (Kd.int .i64))).sz = 1 from rfl, Nat.mul_one] at hv163_0
          replace hv163_0 := Option.some.inj (hv163_0.symm.trans hx163_0)
          rw [hv163_0] at ge163_0
          have HL163_0 := Q0_ (show Kd.R (Kd.int .i64) 3 _ _ _ _ (rd_L4 t155 (ji35)) from ge163_0)
          clear hv163_0 ge163_0
          clear hcc163 hce163
          have HR163_0 := Aside0.mk hi163_0
          have HC163_0 := Aside0.mk hl163_0
          clear hi163_0 hl163_0
          replace p163 := eq_true p163
          replace q163 := eq_true q163
          have p164 : 0 ≤ ((ji38) : Int) := of_decide_eq_true aS
          have q164 : (ji38) < ((rd_L4 t155 (ji35)).length : Int) := of_decide_eq_true aS
          obtain ⟨ad164, e164, hx164_0⟩ := Kd.at_int HR163_0.out (ji38) p164 q164
          cases e164
          replace p164 := eq_true p164
          replace q164 := eq_true q164
          go_wp2
          repeat (go_quiet (fail); try go_wp2)
          go_meet
          case rel => exact ⟨_, (((rd (rd_L4 t155 (ji35)) (ji38)) == (rd (rd_L4 t155 x8_2) x9_2))), (by first | rfl | (simp; done) | (simp only [← hji35, ← hji38] <;> (first | rfl | simp)) | (simp [*]; done)), H', ⟨by have := HJ2.out; have := HK2.out; have := HJ12.out; have := HJ19.out; first | omega | exact Nat.le_refl _⟩, ⟨by (with_reducible repeat (first | apply Kd.S_alloc | apply Kd.S_drewN | apply Kd.S_drew)); exact HO_6.out⟩, ⟨by repeat (first | (with_reducible exact HR158_0.out) | (with_reducible refine Kd.C_alloc ?_ _) | (with_reducible refine Kd.C_drewN ?_ _) | (with_reducible refine Kd.C_drew ?_) | exact HR158_0.out)⟩, ⟨by repeat (first | (with_reducible first | exact HB.out | apply below_alloc | apply pw_below_drewN | apply below_drew1) | exact HB.out)⟩⟩
         case rest =>
          clear HC29
          try clear c1
          try clear p1
          try clear q1
          try clear hx1
          try clear c2
          try clear p2
          try clear q2
          try clear c3
          try clear c4
          try clear c5
          try clear p6
          try clear c10
          try clear c14
          try clear c14b0
          try clear c15
          try clear p15
          try clear q15
          try clear hx15
          try clear c16
          try clear c16b0
          try clear p16
          try clear q16
          try clear hx16
          try clear c17
          try clear c17b0
          try clear c18
          try clear c18b0
          try clear c19
          try clear c19b0
          try clear c22
          try clear c22b0
          try clear p23
          try clear q23
          try clear c25
          try clear c25b0
          try clear c26
          try clear c26b0
          try clear c27
          try clear c28
          try clear c28b0
          try clear c28b1
          try clear c28b2
          try clear c30
          try clear c30b0
          try clear c31
          try clear c31b0
          try clear c32
          try clear c32b0
          try clear c33
          try clear c33b0
          try clear c34
          try clear c34b0
          try clear c34b1
          try clear c34b2
          try clear c36
          try clear c36b0
          try clear c37
          try clear c37b0
          try clear c39
          try clear c39b0
          try clear c40
          try clear c40b0
          try clear hx158_0
          try clear hx159_0
          try clear hx160_0
          try clear hx161_0
          try clear hx161_1
          try clear hx162_0
          try clear hx162_1
          try clear hx163_0
          try clear hx164_0
          try clear p1
          try clear p15
          try clear p158
          try clear p159
          try clear p16
          try clear p160
          try clear p161
          try clear p162
          try clear p163
          try clear p164
          try clear p2
          try clear p23
          try clear p6
          try clear q1
          try clear q15
          try clear q158
          try clear q159
          try clear q16
          try clear q160
          try clear q161
          try clear q162
          try clear q163
          try clear q164
          try clear q2
          try clear q23
          obtain ⟨kq, x67_28, rfl, HA, HJ28, HO_6, HR158_0, HB⟩ := hcut
          cases kq with
          | zero => exact absurd HA.out (by simp [spec_EditText.j4])
          | succ kj28 =>
           have H := HA.out
           clear HA
           simp only [spec_EditText.j4] at H
           by_cases c41 : x67_28 = true
           ·subst c41
            replace H := ifP (rfl) H
            by_cases c42 : x7_2.size + 1 ≤ 9223372036854775807
            rotate_left
            ·rw [if_neg c42] at H
             exact absurd H (by simp)
            rw [if_pos c42] at H
            have c42b0 := eq_true c42
            have c42b1 : decide (x7_2.size + 1 ≤ 9223372036854775807) = true := decide_eq_true c42
            try have c42b2 : (9223372036854775807 < x7_2.size + 1) = False := eq_false (Nat.not_lt.2 c42)
            have H' := Aside0.mk H
            clear H
            go_wp2
            repeat (go_quiet (fail); try go_wp2)
            first | go_roundg kj28 | ((try simp only [← hji24] at H' ⊢); (try simp only [← hji35] at H' ⊢); (try simp only [← hji38] at H' ⊢); go_roundg kj28)
            case measure => have := HJ2.out; have := HK2.out; have := HJ12.out; have := HJ19.out; have := HJ28.out; omega
            case rel => exact ⟨(x7_2 ++ (⟨#[107]⟩ : ByteArray)), (wrap64 (x8_2 + 1)), (wrap64 (x9_2 + 1)), eX, eX, eX, H', ⟨by have := HJ2.out; have := HK2.out; have := HJ12.out; have := HJ19.out; have := HJ28.out; omega⟩, ⟨by (with_reducible repeat (first | apply Kd.S_alloc | apply Kd.S_drewN | apply Kd.S_drew)); exact HO_6.out⟩, ⟨by repeat (first | (with_reducible first | exact HB.out | apply below_alloc | apply pw_below_drewN | apply below_drew1) | exact HB.out)⟩⟩
           replace c41 := Bool.eq_false_iff.mpr c41
           subst c41
           replace H := ifN ((show ¬ (false = true) by decide)) H
           by_cases c43 : x8_2 < (l0.length : Int)
           rotate_left
           ·rw [if_neg c43] at H
            have c43b0 : decide (x8_2 < (l0.length : Int)) = false := decide_eq_false c43
            clear c43
            by_cases c52 : x7_2.size + 1 ≤ 9223372036854775807
            rotate_left
            ·rw [if_neg c52] at H
             exact absurd H (by simp)
            rw [if_pos c52] at H
            have c52b0 := eq_true c52
            have c52b1 : decide (x7_2.size + 1 ≤ 9223372036854775807) = true := decide_eq_true c52
            try have c52b2 : (9223372036854775807 < x7_2.size + 1) = False := eq_false (Nat.not_lt.2 c52)
            have H' := Aside0.mk H
            clear H
            go_wp2
            repeat (go_quiet (fail); try go_wp2)
            first | go_roundg kj28 | ((try simp only [← hji24] at H' ⊢); (try simp only [← hji35] at H' ⊢); (try simp only [← hji38] at H' ⊢); go_roundg kj28)
            case measure => have := HJ2.out; have := HK2.out; have := HJ12.out; have := HJ19.out; have := HJ28.out; omega
            case rel => exact ⟨(x7_2 ++ (⟨#[114]⟩ : ByteArray)), (wrap64 (x8_2 + 1)), (wrap64 (x9_2 + 1)), eX, eX, eX, H', ⟨by have := HJ2.out; have := HK2.out; have := HJ12.out; have := HJ19.out; have := HJ28.out; omega⟩, ⟨by (with_reducible repeat (first | apply Kd.S_alloc | apply Kd.S_drewN | apply Kd.S_drew)); exact HO_6.out⟩, ⟨by repeat (first | (with_reducible first | exact HB.out | apply below_alloc | apply pw_below_drewN | apply below_drew1) | exact HB.out)⟩⟩
           rw [if_pos c43] at H
           have c43b0 : decide (x8_2 < (l0.length : Int)) = true := decide_eq_true c43
           clear c43
           obtain ⟨ji44, hji44⟩ : ∃ j_ : Int, (wrap64 (x8_2 + 1)) = j_ := ⟨_, rfl⟩
           replace H : (if 0 ≤ (ji44) then (if (ji44) < (t155.length : Int) then (if 0 ≤ x9_2 then (if x9_2 < ((rd_L4 t155 (ji44)).length : Int) then (if (wrap64 ((rd (rd_L4 t155 (ji44)) x9_2) + 2)) = (rd (rd_L4 t155 x8_2) x9_2) then (if x7_2.size + 1 ≤ 9223372036854775807 then (spec_EditText.l0 kj28 l0 l1 t155 (x7_2 ++ (⟨#[111]⟩ : ByteArray)) ji44 x9_2) else (none)) else (if x7_2.size + 1 ≤ 9223372036854775807 then (spec_EditText.l0 kj28 l0 l1 t155 (x7_2 ++ (⟨#[114]⟩ : ByteArray)) ji44 (wrap64 (x9_2 + 1))) else (none))) else (none)) else (none)) else (none)) else (none)) = some (r1, r2) := by first | (rw [hji44] at H; exact H) | (simp only [hji44] at H ⊢; exact H)
           have hji44w : (IntKind.i64.wrap (x8_2 + 1)) = ji44 := (i64_w _).trans hji44
           by_cases c45 : 0 ≤ (ji44)
           rotate_left
           ·rw [if_neg c45] at H
            exact absurd H (by simp)
           rw [if_pos c45] at H
           have c45b0 : decide (0 ≤ (ji44)) = true := decide_eq_true c45
           clear c45
           by_cases c46 : (ji44) < (t155.length : Int)
           rotate_left
           ·rw [if_neg c46] at H
            exact absurd H (by simp)
           rw [if_pos c46] at H
           have c46b0 : decide ((ji44) < (t155.length : Int)) = true := decide_eq_true c46
           clear c46
           by_cases c47 : 0 ≤ x9_2
           rotate_left
           ·rw [if_neg c47] at H
            exact absurd H (by simp)
           rw [if_pos c47] at H
           have c47b0 : decide (0 ≤ x9_2) = true := decide_eq_true c47
           clear c47
           by_cases c48 : x9_2 < ((rd_L4 t155 (ji44)).length : Int)
           rotate_left
           ·rw [if_neg c48] at H
            exact absurd H (by simp)
           rw [if_pos c48] at H
           have c48b0 : decide (x9_2 < ((rd_L4 t155 (ji44)).length : Int)) = true := decide_eq_true c48
           clear c48
           by_cases c49 : (wrap64 ((rd (rd_L4 t155 (ji44)) x9_2) + 2)) = (rd (rd_L4 t155 x8_2) x9_2)
           rotate_left
           ·rw [if_neg c49] at H
            have c49b0 : ((wrap64 ((rd (rd_L4 t155 (ji44)) x9_2) + 2)) == (rd (rd_L4 t155 x8_2) x9_2)) = false := beq_eq_false_iff_ne.mpr c49
            have c49b1 : ((wrap64 ((rd (rd_L4 t155 (ji44)) x9_2) + 2)) != (rd (rd_L4 t155 x8_2) x9_2)) = true := bne_iff_ne.mpr c49
            by_cases c51 : x7_2.size + 1 ≤ 9223372036854775807
            rotate_left
            ·rw [if_neg c51] at H
             exact absurd H (by simp)
            rw [if_pos c51] at H
            have c51b0 := eq_true c51
            have c51b1 : decide (x7_2.size + 1 ≤ 9223372036854775807) = true := decide_eq_true c51
            try have c51b2 : (9223372036854775807 < x7_2.size + 1) = False := eq_false (Nat.not_lt.2 c51)
            have H' := Aside0.mk H
            clear H
            have p165 : 0 ≤ ((ji44) : Int) := of_decide_eq_true aS
            have q165 : (ji44) < (t155.length : Int) := of_decide_eq_true aS
            obtain ⟨ad165, A165_0, c165_0, e165, hx165_0, hl165_0, hi165_0⟩ := at_L4 (Kd.S_reads' HO_6.out).2.2 (ji44) p165 q165
            obtain rfl : ad158 = ad165 := (by injection e165)
            obtain ⟨ce165, hce165, hMe165, hcc165⟩ := Kd.S_get HO_6.out [] (ji44) p165 (by first | exact q165 | exact of_decide_eq_true aS | (have e_ := (Kd.S_reads' HO_6.out).1; omega))
            obtain ⟨ve165_0, rfl, ge165_0⟩ := hMe165
            have hv165_0 := hcc165 0 _ rfl
            rw [Nat.add_zero, show ((Kd.slice 3 (Kd.int .i64))).sz = 1 from rfl, Nat.mul_one] at hv165_0
            replace hv165_0 := Option.some.inj (hv165_0.symm.trans hx165_0)
            rw [hv165_0] at ge165_0
            have HL165_0 := Q0_ (show Kd.R (Kd.int .i64) 3 _ _ _ _ (rd_L4 t155 (ji44)) from ge165_0)
            clear hv165_0 ge165_0
            clear hcc165 hce165
            have HR165_0 := Aside0.mk hi165_0
            have HC165_0 := Aside0.mk hl165_0
            clear hi165_0 hl165_0
            replace p165 := eq_true p165
            replace q165 := eq_true q165
            have p166 : 0 ≤ (x9_2 : Int) := of_decide_eq_true aS
            have q166 : x9_2 < ((rd_L4 t155 (ji44)).length : Int) := of_decide_eq_true aS
            obtain ⟨ad166, e166, hx166_0⟩ := Kd.at_int HR165_0.out x9_2 p166 q166
            cases e166
            replace p166 := eq_true p166
            replace q166 := eq_true q166
            go_wp2
            repeat (go_quiet (fail); try go_wp2)
            first | go_roundg kj28 | ((try simp only [← hji24] at H' ⊢); (try simp only [← hji35] at H' ⊢); (try simp only [← hji38] at H' ⊢); (try simp only [← hji44] at H' ⊢); go_roundg kj28)
            case measure => have := HJ2.out; have := HK2.out; have := HJ12.out; have := HJ19.out; have := HJ28.out; omega
            case rel => exact ⟨(x7_2 ++ (⟨#[114]⟩ : ByteArray)), (ji44), (wrap64 (x9_2 + 1)), eX, (by first | rfl | (simp; done) | (simp only [← hji44] <;> (first | rfl | simp)) | (simp [*]; done)), eX, H', ⟨by have := HJ2.out; have := HK2.out; have := HJ12.out; have := HJ19.out; have := HJ28.out; omega⟩, ⟨by (with_reducible repeat (first | apply Kd.S_alloc | apply Kd.S_drewN | apply Kd.S_drew)); exact HO_6.out⟩, ⟨by repeat (first | (with_reducible first | exact HB.out | apply below_alloc | apply pw_below_drewN | apply below_drew1) | exact HB.out)⟩⟩
           rw [if_pos c49] at H
           have c49b0 : ((wrap64 ((rd (rd_L4 t155 (ji44)) x9_2) + 2)) == (rd (rd_L4 t155 x8_2) x9_2)) = true := beq_iff_eq.mpr c49
           have c49b1 : ((wrap64 ((rd (rd_L4 t155 (ji44)) x9_2) + 2)) != (rd (rd_L4 t155 x8_2) x9_2)) = false := bne_eq_false_iff_eq.mpr c49
           clear c49
           by_cases c50 : x7_2.size + 1 ≤ 9223372036854775807
           rotate_left
           ·rw [if_neg c50] at H
            exact absurd H (by simp)
           rw [if_pos c50] at H
           have c50b0 := eq_true c50
           have c50b1 : decide (x7_2.size + 1 ≤ 9223372036854775807) = true := decide_eq_true c50
           try have c50b2 : (9223372036854775807 < x7_2.size + 1) = False := eq_false (Nat.not_lt.2 c50)
           have H' := Aside0.mk H
           clear H
           have p165 : 0 ≤ ((ji44) : Int) := of_decide_eq_true aS
           have q165 : (ji44) < (t155.length : Int) := of_decide_eq_true aS
           obtain ⟨ad165, A165_0, c165_0, e165, hx165_0, hl165_0, hi165_0⟩ := at_L4 (Kd.S_reads' HO_6.out).2.2 (ji44) p165 q165
           obtain rfl : ad158 = ad165 := (by injection e165)
           obtain ⟨ce165, hce165, hMe165, hcc165⟩ := Kd.S_get HO_6.out [] (ji44) p165 (by first | exact q165 | exact of_decide_eq_true aS | (have e_ := (Kd.S_reads' HO_6.out).1; omega))
           obtain ⟨ve165_0, rfl, ge165_0⟩ := hMe165
           have hv165_0 := hcc165 0 _ rfl
           rw [Nat.add_zero, show ((Kd.slice 3 (Kd.int .i64))).sz = 1 from rfl, Nat.mul_one] at hv165_0
           replace hv165_0 := Option.some.inj (hv165_0.symm.trans hx165_0)
           rw [hv165_0] at ge165_0
           have HL165_0 := Q0_ (show Kd.R (Kd.int .i64) 3 _ _ _ _ (rd_L4 t155 (ji44)) from ge165_0)
           clear hv165_0 ge165_0
           clear hcc165 hce165
           have HR165_0 := Aside0.mk hi165_0
           have HC165_0 := Aside0.mk hl165_0
           clear hi165_0 hl165_0
           replace p165 := eq_true p165
           replace q165 := eq_true q165
           have p166 : 0 ≤ (x9_2 : Int) := of_decide_eq_true aS
           have q166 : x9_2 < ((rd_L4 t155 (ji44)).length : Int) := of_decide_eq_true aS
           obtain ⟨ad166, e166, hx166_0⟩ := Kd.at_int HR165_0.out x9_2 p166 q166
           cases e166
           replace p166 := eq_true p166
           replace q166 := eq_true q166
           go_wp2
           repeat (go_quiet (fail); try go_wp2)
           first | go_roundg kj28 | ((try simp only [← hji24] at H' ⊢); (try simp only [← hji35] at H' ⊢); (try simp only [← hji38] at H' ⊢); (try simp only [← hji44] at H' ⊢); go_roundg kj28)
           case measure => have := HJ2.out; have := HK2.out; have := HJ12.out; have := HJ19.out; have := HJ28.out; omega
           case rel => exact ⟨(x7_2 ++ (⟨#[111]⟩ : ByteArray)), (ji44), (x9_2), eX, (by first | rfl | (simp; done) | (simp only [← hji44] <;> (first | rfl | simp)) | (simp [*]; done)), eX, H', ⟨by have := HJ2.out; have := HK2.out; have := HJ12.out; have := HJ19.out; have := HJ28.out; omega⟩, ⟨by (with_reducible repeat (first | apply Kd.S_alloc | apply Kd.S_drewN | apply Kd.S_drew)); exact HO_6.out⟩, ⟨by repeat (first | (with_reducible first | exact HB.out | apply below_alloc | apply pw_below_drewN | apply below_drew1) | exact HB.out)⟩⟩
end Go.Proofs.Ythpeiboobnnfgaa.E
end
section
namespace Go.Proofs.Ythpeiboobnnfgaa.E
open Go.RowKit Go.Proofs.YthpeiboobnnfgaaW.PrintWords Go.Proofs.YthpeiboobnnfgaaW.PrintLast Go.Proofs.YthpeiboobnnfgaaW.PrintMore
attribute [local go_sem] max2_int min2_int max_two min_two max_three min_three max_four min_four
set_option linter.unusedVariables false
set_option linter.unusedSimpArgs false
attribute [local go_sem] en63_mk1 en63_mk2 en63_mk3 en63_mk4
attribute [local go_sem] str_leq_ str_gtr_ str_geq_
def spec_l6Rd_pick.j0 : Nat → Int → Bool → List Int → Int → Option (Int × Int)
 | 0, _, _, _, _ => none
 | k + 1, x1, x24, x1000, x1001 => if x24 = true then (some (0, x1001)) else (if (wrap64 (x1001 - 1)) < (x1000.length : Int) then (if 0 ≤ (wrap64 (x1001 - 1)) then (if x1 = 0 then (none) else (some (Int.tmod (wrap64 (rd x1000 (wrap64 (x1001 - 1)))) x1, x1001))) else (none)) else (if (x1000.length : Int) = 0 then (none) else (if 0 ≤ (Int.tmod (wrap64 (x1001 - 1)) (x1000.length : Int)) then (if (Int.tmod (wrap64 (x1001 - 1)) (x1000.length : Int)) < (x1000.length : Int) then (if 0 ≤ (Int.tmod (wrap64 ((wrap64 ((wrap64 (x1001 - 1)) * 7)) + 3)) (x1000.length : Int)) then (if (Int.tmod (wrap64 ((wrap64 ((wrap64 (x1001 - 1)) * 7)) + 3)) (x1000.length : Int)) < (x1000.length : Int) then (if x1 = 0 then (none) else (some (Int.tmod (Go.bits .xor .i64 (wrap64 ((wrap64 ((wrap64 ((wrap64 ((wrap64 (rd x1000 (Int.tmod (wrap64 (x1001 - 1)) (x1000.length : Int)))) * 131)) + (wrap64 ((wrap64 (rd x1000 (Int.tmod (wrap64 ((wrap64 ((wrap64 (x1001 - 1)) * 7)) + 3)) (x1000.length : Int)))) * 1117)))) + (wrap64 ((wrap64 (x1001 - 1)) * 29)))) + (wrap64 ((wrap64 (Int.tdiv (wrap64 (x1001 - 1)) (x1000.length : Int))) * 53)))) (wrap64 (Int.tdiv (wrap64 ((wrap64 ((wrap64 ((wrap64 ((wrap64 (rd x1000 (Int.tmod (wrap64 (x1001 - 1)) (x1000.length : Int)))) * 131)) + (wrap64 ((wrap64 (rd x1000 (Int.tmod (wrap64 ((wrap64 ((wrap64 (x1001 - 1)) * 7)) + 3)) (x1000.length : Int)))) * 1117)))) + (wrap64 ((wrap64 (x1001 - 1)) * 29)))) + (wrap64 ((wrap64 (Int.tdiv (wrap64 (x1001 - 1)) (x1000.length : Int))) * 53)))) 64))) x1, x1001))) else (none)) else (none)) else (none)) else (none))))
def spec_l6Rd_pick.f (k : Nat) (s0_0 : List Int) (s0_1 : Int) (a1 : Int) : Option (Int × Int) := if a1 < 1 then (spec_l6Rd_pick.j0 k a1 true s0_0 (wrap64 (s0_1 + 1))) else (spec_l6Rd_pick.j0 k a1 ((s0_0.length : Int) == 0) s0_0 (wrap64 (s0_1 + 1)))
set_option maxHeartbeats 8000000 in
set_option maxRecDepth 100000 in
theorem spec_l6Rd_pick.calls (k : Nat) (g : Nat) (s0_0 : List Int) (s0_1 : Int) (a1 : Int) (r1 : Int) (r2 : Int) (w0 w : World) (hI : IsS79 w0 w g s0_0 s0_1) (hB : Below w0.heap.size w0 w) (h : spec_l6Rd_pick.f k s0_0 s0_1 a1 = some (r1, r2)) :
  Calls Try.prog 51 #[.pointer (some ⟨g, 0, none⟩), .int .i64 a1] w fun e w' => e = .returned (.int .i64 r1) ∧ IsS79 w0 w' g s0_0 r2 ∧ Below w0.heap.size w0 w' ∧ KeepBut w w' g none := by
 have HI0 := Aside0.mk hI
 have HK := Q0_ (KeepBut.refl w g none)
 have HL := Aside0.mk hB.size
 clear hI
 have HW0 := Aside0.mk hB.size
 have HB := Aside0.mk hB
 clear hB
 have H : (if a1 < 1 then (spec_l6Rd_pick.j0 k a1 true s0_0 (wrap64 (s0_1 + 1))) else (spec_l6Rd_pick.j0 k a1 ((s0_0.length : Int) == 0) s0_0 (wrap64 (s0_1 + 1)))) = some (r1, r2) := h
 clear h
 have HC3 := Aside0.mk H
 clear H
 obtain ⟨ASz4_0, cSz4_0, HGz4, hgz4, HSz4_0⟩ := HI0.out
 have hcz4_0 := cellS79_0 HGz4
 have hcz4_1 := cellS79_1 HGz4
 have hfz4_1 := blk_frozen HGz4 1
 clear HGz4 hgz4
 go_enter Try.func51, Try.ntmps51
 go_upto_region 2 with (fail)
 repeat (go_quiet (fail); go_upto_region 2 with (fail))
 go_cut [24] (fun v24 wc => ∃ (kq : Nat) (x24_2 : Bool), v24 = .bool x24_2 ∧ Aside0 (spec_l6Rd_pick.j0 kq a1 x24_2 s0_0 (wrap64 (s0_1 + 1)) = some (r1, r2)) ∧ Aside0 (kq ≤ k) ∧ Aside0 (IsS79 w0 wc g s0_0 (wrap64 (s0_1 + 1))) ∧ Aside0 (KeepBut w wc g none) ∧ Aside0 (Below w0.heap.size w0 wc))
 case first =>
  have H := HC3.out
  clear HC3
  by_cases c5 : a1 < 1
  ·rw [if_pos c5] at H
   have c5b0 : decide (a1 < 1) = true := decide_eq_true c5
   clear c5
   (first | rw [c5b0] | (simp only [i64_w, i32_w]; rw [c5b0]) | skip)
   have H' := Aside0.mk H
   clear H
   go_wp2
   repeat (go_quiet (fail); try go_wp2)
   go_meet
   case rel => exact ⟨_, (true), eX, H', ⟨by first | omega | exact Nat.le_refl _⟩, ⟨by repeat (first | (with_reducible first | exact HI0.out | apply IsS79.alloc | apply IsS79.drewN | apply IsS79.drew | apply IsS79.set_1) | exact HI0.out)⟩, ⟨by repeat (first | (with_reducible first | exact HK.out | apply KeepBut.set_ | apply keep_drewN | apply keep_drew | apply keep_alloc) | exact HK.out)⟩, ⟨by repeat (first | (with_reducible first | exact HB.out | apply below_alloc | apply pw_below_drewN | apply below_drew1 | refine below_set ?_ (IsS79.ge HI0.out)) | exact HB.out)⟩⟩
  rw [if_neg c5] at H
  have c5b0 : decide (a1 < 1) = false := decide_eq_false c5
  clear c5
  (first | rw [c5b0] | (simp only [i64_w, i32_w]; rw [c5b0]) | skip)
  have H' := Aside0.mk H
  clear H
  obtain ⟨ASz6_0, cSz6_0, HGz6, hgz6, HSz6_0⟩ := HI0.out
  have hcz6_0 := cellS79_0 HGz6
  have hcz6_1 := cellS79_1 HGz6
  have hfz6_1 := blk_frozen HGz6 1
  clear HGz6 hgz6
  go_wp2
  repeat (go_quiet (fail); try go_wp2)
  go_meet
  case rel => exact ⟨_, (((s0_0.length : Int) == 0)), eX, H', ⟨by first | omega | exact Nat.le_refl _⟩, ⟨by repeat (first | (with_reducible first | exact HI0.out | apply IsS79.alloc | apply IsS79.drewN | apply IsS79.drew | apply IsS79.set_1) | exact HI0.out)⟩, ⟨by repeat (first | (with_reducible first | exact HK.out | apply KeepBut.set_ | apply keep_drewN | apply keep_drew | apply keep_alloc) | exact HK.out)⟩, ⟨by repeat (first | (with_reducible first | exact HB.out | apply below_alloc | apply pw_below_drewN | apply below_drew1 | refine below_set ?_ (IsS79.ge HI0.out)) | exact HB.out)⟩⟩
 case rest =>
  clear HC3
  try clear p2
  try clear c5
  try clear c5b0
  try clear p6
  try clear hcz4_0
  try clear hcz4_1
  try clear hcz6_0
  try clear hcz6_1
  try clear hfz4_1
  try clear hfz6_1
  obtain ⟨kq, x24_2, rfl, HA, HJ2, HI0, HK, HB⟩ := hcut
  cases kq with
  | zero => exact absurd HA.out (by simp [spec_l6Rd_pick.j0])
  | succ kj2 =>
   have H := HA.out
   clear HA
   simp only [spec_l6Rd_pick.j0] at H
   by_cases c7 : x24_2 = true
   ·subst c7
    replace H := ifP (rfl) H
    simp only [Option.some.injEq, Prod.mk.injEq] at H
    obtain ⟨rfl, rfl⟩ := H
    go_wp2
    repeat (go_quiet (fail); try go_wp2)
    go_ret
    exact ⟨by first | rfl | (simp [errW_none, errW_some] <;> rfl) | (simp [*, errW_none, errW_some] <;> rfl), by repeat (first | (with_reducible first | exact HI0.out | apply IsS79.alloc | apply IsS79.drewN | apply IsS79.drew | apply IsS79.set_1) | exact HI0.out), by repeat (first | (with_reducible first | exact HB.out | apply below_alloc | apply pw_below_drewN | apply below_drew1 | refine below_set ?_ (IsS79.ge HI0.out)) | exact HB.out), by repeat (first | (with_reducible first | exact HK.out | apply KeepBut.set_ | apply keep_drewN | apply keep_drew | apply keep_alloc) | exact HK.out)⟩
   replace c7 := Bool.eq_false_iff.mpr c7
   subst c7
   replace H := ifN ((show ¬ (false = true) by decide)) H
   by_cases c8 : (wrap64 ((wrap64 (s0_1 + 1)) - 1)) < (s0_0.length : Int)
   ·rw [if_pos c8] at H
    have c8b0 : decide ((wrap64 ((wrap64 (s0_1 + 1)) - 1)) < (s0_0.length : Int)) = true := decide_eq_true c8
    clear c8
    obtain ⟨ji9, hji9⟩ : ∃ j_ : Int, (wrap64 ((wrap64 (s0_1 + 1)) - 1)) = j_ := ⟨_, rfl⟩
    replace H : (if 0 ≤ (ji9) then (if a1 = 0 then (none) else (some (Int.tmod (wrap64 (rd s0_0 (ji9))) a1, (wrap64 (s0_1 + 1))))) else (none)) = some (r1, r2) := by first | (rw [hji9] at H; exact H) | (simp only [hji9] at H ⊢; exact H)
    (try rw [hji9] at c8b0)
    have hji9w : (IntKind.i64.wrap ((wrap64 (s0_1 + 1)) - 1)) = ji9 := (i64_w _).trans hji9
    by_cases c10 : 0 ≤ (ji9)
    rotate_left
    ·rw [if_neg c10] at H
     exact absurd H (by simp)
    rw [if_pos c10] at H
    have c10b0 : decide (0 ≤ (ji9)) = true := decide_eq_true c10
    clear c10
    by_cases c11 : a1 = 0
    ·rw [if_pos c11] at H
     exact absurd H (by simp)
    rw [if_neg c11] at H
    have c11b0 : (a1 == 0) = false := beq_eq_false_iff_ne.mpr c11
    have c11b1 : (a1 != 0) = true := bne_iff_ne.mpr c11
    simp only [Option.some.injEq, Prod.mk.injEq] at H
    obtain ⟨rfl, rfl⟩ := H
    obtain ⟨ASz12_0, cSz12_0, HGz12, hgz12, HSz12_0⟩ := HI0.out
    have hcz12_0 := cellS79_0 HGz12
    have hcz12_1 := cellS79_1 HGz12
    have hfz12_1 := blk_frozen HGz12 1
    clear HGz12 hgz12
    have p368 : 0 ≤ ((ji9) : Int) := of_decide_eq_true aS
    have q368 : (ji9) < (s0_0.length : Int) := of_decide_eq_true aS
    obtain ⟨ad368, e368, hx368_0⟩ := Kd.at_int HSz12_0 (ji9) p368 q368
    cases e368
    replace hx368_0 := pw_cell_below HB.out hx368_0
    replace p368 := eq_true p368
    replace q368 := eq_true q368
    go_wp2
    repeat (go_quiet (fail); try go_wp2)
    go_ret
    exact ⟨by first | rfl | (simp [errW_none, errW_some] <;> rfl) | (simp only [← hji9]; first | rfl | (simp [errW_none, errW_some] <;> rfl)) | (simp [*, errW_none, errW_some] <;> rfl), by repeat (first | (with_reducible first | exact HI0.out | apply IsS79.alloc | apply IsS79.drewN | apply IsS79.drew | apply IsS79.set_1) | exact HI0.out), by repeat (first | (with_reducible first | exact HB.out | apply below_alloc | apply pw_below_drewN | apply below_drew1 | refine below_set ?_ (IsS79.ge HI0.out)) | exact HB.out), by repeat (first | (with_reducible first | exact HK.out | apply KeepBut.set_ | apply keep_drewN | apply keep_drew | apply keep_alloc) | exact HK.out)⟩
   rw [if_neg c8] at H
   have c8b0 : decide ((wrap64 ((wrap64 (s0_1 + 1)) - 1)) < (s0_0.length : Int)) = false := decide_eq_false c8
   clear c8
   by_cases c13 : (s0_0.length : Int) = 0
   ·rw [if_pos c13] at H
    exact absurd H (by simp)
   rw [if_neg c13] at H
   have c13b0 : ((s0_0.length : Int) == 0) = false := beq_eq_false_iff_ne.mpr c13
   have c13b1 : ((s0_0.length : Int) != 0) = true := bne_iff_ne.mpr c13
   have c13b2 : ¬ (s0_0 = []) := fun h_ => c13 (by rw [h_]; rfl)
   obtain ⟨ji14, hji14⟩ : ∃ j_ : Int, (Int.tmod (wrap64 ((wrap64 (s0_1 + 1)) - 1)) (s0_0.length : Int)) = j_ := ⟨_, rfl⟩
   replace H : (if 0 ≤ (ji14) then (if (ji14) < (s0_0.length : Int) then (if 0 ≤ (Int.tmod (wrap64 ((wrap64 ((wrap64 ((wrap64 (s0_1 + 1)) - 1)) * 7)) + 3)) (s0_0.length : Int)) then (if (Int.tmod (wrap64 ((wrap64 ((wrap64 ((wrap64 (s0_1 + 1)) - 1)) * 7)) + 3)) (s0_0.length : Int)) < (s0_0.length : Int) then (if a1 = 0 then (none) else (some (Int.tmod (Go.bits .xor .i64 (wrap64 ((wrap64 ((wrap64 ((wrap64 ((wrap64 (rd s0_0 (ji14))) * 131)) + (wrap64 ((wrap64 (rd s0_0 (Int.tmod (wrap64 ((wrap64 ((wrap64 ((wrap64 (s0_1 + 1)) - 1)) * 7)) + 3)) (s0_0.length : Int)))) * 1117)))) + (wrap64 ((wrap64 ((wrap64 (s0_1 + 1)) - 1)) * 29)))) + (wrap64 ((wrap64 (Int.tdiv (wrap64 ((wrap64 (s0_1 + 1)) - 1)) (s0_0.length : Int))) * 53)))) (wrap64 (Int.tdiv (wrap64 ((wrap64 ((wrap64 ((wrap64 ((wrap64 (rd s0_0 (ji14))) * 131)) + (wrap64 ((wrap64 (rd s0_0 (Int.tmod (wrap64 ((wrap64 ((wrap64 ((wrap64 (s0_1 + 1)) - 1)) * 7)) + 3)) (s0_0.length : Int)))) * 1117)))) + (wrap64 ((wrap64 ((wrap64 (s0_1 + 1)) - 1)) * 29)))) + (wrap64 ((wrap64 (Int.tdiv (wrap64 ((wrap64 (s0_1 + 1)) - 1)) (s0_0.length : Int))) * 53)))) 64))) a1, (wrap64 (s0_1 + 1))))) else (none)) else (none)) else (none)) else (none)) = some (r1, r2) := by first | (rw [hji14] at H; exact H) | (simp only [hji14] at H ⊢; exact H)
   by_cases c15 : 0 ≤ (ji14)
   rotate_left
   ·rw [if_neg c15] at H
    exact absurd H (by simp)
   rw [if_pos c15] at H
   have c15b0 : decide (0 ≤ (ji14)) = true := decide_eq_true c15
   clear c15
   by_cases c16 : (ji14) < (s0_0.length : Int)
   rotate_left
   ·rw [if_neg c16] at H
    exact absurd H (by simp)
   rw [if_pos c16] at H
   have c16b0 : decide ((ji14) < (s0_0.length : Int)) = true := decide_eq_true c16
   clear c16
   obtain ⟨ji17, hji17⟩ : ∃ j_ : Int, (Int.tmod (wrap64 ((wrap64 ((wrap64 ((wrap64 (s0_1 + 1)) - 1)) * 7)) + 3)) (s0_0.length : Int)) = j_ := ⟨_, rfl⟩
   replace H : (if 0 ≤ (ji17) then (if (ji17) < (s0_0.length : Int) then (if a1 = 0 then (none) else (some (Int.tmod (Go.bits .xor .i64 (wrap64 ((wrap64 ((wrap64 ((wrap64 ((wrap64 (rd s0_0 (ji14))) * 131)) + (wrap64 ((wrap64 (rd s0_0 (ji17))) * 1117)))) + (wrap64 ((wrap64 ((wrap64 (s0_1 + 1)) - 1)) * 29)))) + (wrap64 ((wrap64 (Int.tdiv (wrap64 ((wrap64 (s0_1 + 1)) - 1)) (s0_0.length : Int))) * 53)))) (wrap64 (Int.tdiv (wrap64 ((wrap64 ((wrap64 ((wrap64 ((wrap64 (rd s0_0 (ji14))) * 131)) + (wrap64 ((wrap64 (rd s0_0 (ji17))) * 1117)))) + (wrap64 ((wrap64 ((wrap64 (s0_1 + 1)) - 1)) * 29)))) + (wrap64 ((wrap64 (Int.tdiv (wrap64 ((wrap64 (s0_1 + 1)) - 1)) (s0_0.length : Int))) * 53)))) 64))) a1, (wrap64 (s0_1 + 1))))) else (none)) else (none)) = some (r1, r2) := by first | (rw [hji17] at H; exact H) | (simp only [hji17] at H ⊢; exact H)
   by_cases c18 : 0 ≤ (ji17)
   rotate_left
   ·rw [if_neg c18] at H
    exact absurd H (by simp)
   rw [if_pos c18] at H
   have c18b0 : decide (0 ≤ (ji17)) = true := decide_eq_true c18
   clear c18
   by_cases c19 : (ji17) < (s0_0.length : Int)
   rotate_left
   ·rw [if_neg c19] at H
    exact absurd H (by simp)
   rw [if_pos c19] at H
   have c19b0 : decide ((ji17) < (s0_0.length : Int)) = true := decide_eq_true c19
   clear c19
   by_cases c20 : a1 = 0
   ·rw [if_pos c20] at H
    exact absurd H (by simp)
   rw [if_neg c20] at H
   have c20b0 : (a1 == 0) = false := beq_eq_false_iff_ne.mpr c20
   have c20b1 : (a1 != 0) = true := bne_iff_ne.mpr c20
   simp only [Option.some.injEq, Prod.mk.injEq] at H
   obtain ⟨rfl, rfl⟩ := H
   obtain ⟨ASz21_0, cSz21_0, HGz21, hgz21, HSz21_0⟩ := HI0.out
   have hcz21_0 := cellS79_0 HGz21
   have hcz21_1 := cellS79_1 HGz21
   have hfz21_1 := blk_frozen HGz21 1
   clear HGz21 hgz21
   have p369 : 0 ≤ ((ji14) : Int) := of_decide_eq_true aS
   have q369 : (ji14) < (s0_0.length : Int) := of_decide_eq_true aS
   obtain ⟨ad369, e369, hx369_0⟩ := Kd.at_int HSz21_0 (ji14) p369 q369
   cases e369
   replace hx369_0 := pw_cell_below HB.out hx369_0
   replace p369 := eq_true p369
   replace q369 := eq_true q369
   have p370 : 0 ≤ ((ji17) : Int) := of_decide_eq_true aS
   have q370 : (ji17) < (s0_0.length : Int) := of_decide_eq_true aS
   obtain ⟨ad370, e370, hx370_0⟩ := Kd.at_int HSz21_0 (ji17) p370 q370
   obtain rfl : ad369 = ad370 := (by injection e370)
   replace hx370_0 := pw_cell_below HB.out hx370_0
   replace p370 := eq_true p370
   replace q370 := eq_true q370
   go_wp2
   repeat (go_quiet (fail); try go_wp2)
   go_ret
   exact ⟨by first | (simp only [IntKind.wrap_i64, Go.RowKit.wrap64]; rfl) | rfl | (simp [errW_none, errW_some] <;> rfl) | (simp only [← hji14, ← hji17]; first | rfl | (simp [errW_none, errW_some] <;> rfl)) | (simp [*, errW_none, errW_some] <;> rfl), by repeat (first | (with_reducible first | exact HI0.out | apply IsS79.alloc | apply IsS79.drewN | apply IsS79.drew | apply IsS79.set_1) | exact HI0.out), by repeat (first | (with_reducible first | exact HB.out | apply below_alloc | apply pw_below_drewN | apply below_drew1 | refine below_set ?_ (IsS79.ge HI0.out)) | exact HB.out), by repeat (first | (with_reducible first | exact HK.out | apply KeepBut.set_ | apply keep_drewN | apply keep_drew | apply keep_alloc) | exact HK.out)⟩
end Go.Proofs.Ythpeiboobnnfgaa.E
end
section
namespace Go.Proofs.Ythpeiboobnnfgaa.E
open Go.RowKit Go.Proofs.YthpeiboobnnfgaaW.PrintWords Go.Proofs.YthpeiboobnnfgaaW.PrintLast Go.Proofs.YthpeiboobnnfgaaW.PrintMore
attribute [local go_sem] max2_int min2_int max_two min_two max_three min_three max_four min_four
set_option linter.unusedVariables false
set_option linter.unusedSimpArgs false
attribute [local go_sem] en63_mk1 en63_mk2 en63_mk3 en63_mk4
attribute [local go_sem] str_leq_ str_gtr_ str_geq_
def spec_l91Melody.l0 : Nat → List (S36) → Int → Int → Int → List Int → Int → Option ((List (S36)) × Int)
 | 0, _, _, _, _, _, _ => none
 | k + 1, x5, x6, x7, x8, x1000, x1001 => if x8 < x6 then ((spec_l1Letter.f x7).bind fun t378 => (if t378 = 2 then ((spec_l6Rd_pick.f k x1000 x1001 3).bind fun bt379 => (if x5.length < 8796093022208 then ((spec_l6Rd_pick.f k x1000 bt379.2 5).bind fun bt384 => (spec_l91Melody.l0 k (x5 ++ [(⟨x7, (bt379.1 == 0)⟩ : S36)]) x6 (mx 1 (mn 15 (wrap64 ((wrap64 (x7 + bt384.1)) - 2)))) (wrap64 (x8 + 1)) x1000 bt384.2)) else (none))) else (if x5.length < 8796093022208 then ((spec_l6Rd_pick.f k x1000 x1001 5).bind fun bt389 => (spec_l91Melody.l0 k (x5 ++ [(⟨x7, false⟩ : S36)]) x6 (mx 1 (mn 15 (wrap64 ((wrap64 (x7 + bt389.1)) - 2)))) (wrap64 (x8 + 1)) x1000 bt389.2)) else (none)))) else (if x6 > 0 then ((spec_l6Rd_pick.f k x1000 x1001 50).bind fun bt391 => (if bt391.1 = 0 then ((some (([(-1), 21, 20] : List Int) : List Int)).bind fun y393 => ((spec_l6Rd_pick.f k x1000 bt391.2 3).bind fun bt396 => (if 0 ≤ bt396.1 then (if bt396.1 < (y393.length : Int) then (if 0 < (x5.length : Int) then (some ((x5.set (0 : Int).toNat (⟨rd y393 bt396.1, (rd_T36 x5 0).f1⟩ : S36)), bt396.2)) else (none)) else (none)) else (none)))) else (if bt391.1 = 1 then (if 0 ≤ (wrap64 (x6 - 1)) then (if (wrap64 (x6 - 1)) < (x5.length : Int) then (some ((x5.set ((wrap64 (x6 - 1)) : Int).toNat (⟨(rd_T36 x5 (wrap64 (x6 - 1))).f0, true⟩ : S36)), bt391.2)) else (none)) else (none)) else (some (x5, bt391.2))))) else (some (x5, x1001)))
def spec_l91Melody.f (k : Nat) (s0_0 : List Int) (s0_1 : Int) (a1 : Int) : Option ((List (S36)) × Int) := (spec_l6Rd_pick.f k s0_0 s0_1 (wrap64 (a1 + 1))).bind fun bt374 => ((spec_l6Rd_pick.f k s0_0 bt374.2 5).bind fun bt376 => (spec_l91Melody.l0 k (([] : List (S36))) bt374.1 (wrap64 (4 + bt376.1)) 0 s0_0 bt376.2))
set_option maxHeartbeats 8000000 in
set_option maxRecDepth 100000 in
theorem spec_l91Melody.calls (k : Nat) (g : Nat) (s0_0 : List Int) (s0_1 : Int) (a1 : Int) (r1 : List (S36)) (r2 : Int) (w0 w : World) (hI : IsS79 w0 w g s0_0 s0_1) (hB : Below w0.heap.size w0 w) (h : spec_l91Melody.f k s0_0 s0_1 a1 = some (r1, r2)) :
  Calls Try.prog 50 #[.pointer (some ⟨g, 0, none⟩), .int .i64 a1] w fun e w' => ∃ v0_ : Value, e = .returned (v0_) ∧ Kd.R k36 36 w' w.heap.size (fun _ => True) v0_ r1 ∧ IsS79 w0 w' g s0_0 r2 ∧ Below w0.heap.size w0 w' ∧ KeepBut w w' g none := by
 have hu36 := Try.underlying36
 have HI0 := Aside0.mk hI
 have HK := Q0_ (KeepBut.refl w g none)
 have HL := Aside0.mk hB.size
 clear hI
 have HW0 := Aside0.mk hB.size
 have HB := Aside0.mk hB
 clear hB
 have H : ((spec_l6Rd_pick.f k s0_0 s0_1 (wrap64 (a1 + 1))).bind fun bt374 => ((spec_l6Rd_pick.f k s0_0 bt374.2 5).bind fun bt376 => (spec_l91Melody.l0 k (([] : List (S36))) bt374.1 (wrap64 (4 + bt376.1)) 0 s0_0 bt376.2))) = some (r1, r2) := h
 clear h
 obtain ⟨y371, hy371⟩ : ∃ y_ : List (S36), y_ = (([] : List (S36))) := ⟨_, rfl⟩
 replace H : ((spec_l6Rd_pick.f k s0_0 s0_1 (wrap64 (a1 + 1))).bind fun bt374 => ((spec_l6Rd_pick.f k s0_0 bt374.2 5).bind fun bt376 => (spec_l91Melody.l0 k y371 bt374.1 (wrap64 (4 + bt376.1)) 0 s0_0 bt376.2))) = some (r1, r2) := by first | (rw [hy371]; with_reducible exact H) | (have H2_ := (Option.bind_some _ _).symm.trans H; rw [hy371]; with_reducible exact H2_) | (have H2_ := (Option.bind_some _ _).symm.trans H; with_reducible exact H2_) | with_reducible exact H | (rw [hy371]; exact H) | exact H
 have Ny371 := Aside0.mk hy371
 clear hy371
 obtain ⟨⟨t374, t375⟩, A30, H⟩ := Option.bind_eq_some_iff.mp H
 try dsimp only at H
 have A3 := Aside0.mk A30
 clear A30
 obtain ⟨⟨t376, t377⟩, A40, H⟩ := Option.bind_eq_some_iff.mp H
 try dsimp only at H
 have A4 := Aside0.mk A40
 clear A40
 have H' := Aside0.mk H
 clear H
 go_enter Try.func50, Try.ntmps50
 go_wp2_with (first | ((with_reducible refine gate_dst (N := 9) rfl ?_); refine Kd.R_lit k36 _ 36 ?hg (N := 9) ?hd (xs := ([] : List (S36))) (inner := []) (ok := fun _ => True) (okp := fun _ => True) ?hr ?hp (fun _ hk => hk) trivial (Below.refl _ _) (Nat.le_refl _) (by simp) ?_; (case hd => rfl); (case hg => rfl); (case hr => first | (go_simp; done) | (go_simp; rfl)); (case hp => exact (Reps.none _ _)); intro v372 w5 ho6 hb hg_ hnew_; clear hg_ hnew_; (first | rw [← Ny371.out] at ho6 | (simp only [Int.reduceToNat] at ho6; rw [← Ny371.out] at ho6)); have n0_ := Q0_ (Kd.R_lower ho6 (keep_size (w := w) (g := g) (row := none) (by repeat (first | (with_reducible first | exact HK.out | apply KeepBut.set_ | apply keep_drewN | apply keep_drew | apply keep_alloc) | exact HK.out)))); have n1_ := Q0_ (IsS79.below (by repeat (first | (with_reducible first | exact HI0.out | apply IsS79.alloc | apply IsS79.drewN | apply IsS79.drew | apply IsS79.set_1) | exact HI0.out)) hb); have n2_ := Q0_ (KeepBut.trans (by repeat (first | (with_reducible first | exact HK.out | apply KeepBut.set_ | apply keep_drewN | apply keep_drew | apply keep_alloc) | exact HK.out)) (KeepBut.of_below hb g none) (.inl rfl)); have n3_ := Q0_ (below_step (by repeat (first | (with_reducible first | exact HB.out | apply below_alloc | apply pw_below_drewN | apply below_drew1 | refine below_set ?_ (IsS79.ge HI0.out)) | exact HB.out)) hb); clear HI0 HK HB; revert n0_ n1_ n2_ n3_; intro HO373 HI0 HK HB; clear hb ho6) | ((with_reducible refine gate_callee (f := 51) rfl ?_); refine goesL_ (some 13) rfl rfl Try.func51 (by kernel_rfl) rfl #[.pointer (some ⟨g, 0, none⟩), .int .i64 (wrap64 (a1 + 1))] rfl hM ?_; (with_reducible refine (spec_l6Rd_pick.calls k g s0_0 s0_1 (wrap64 (a1 + 1)) t374 t375 w0 _ ?side1 ?side2 A3.out).mono ?_); (case side1 => repeat (first | (with_reducible first | exact HI0.out | apply IsS79.alloc | apply IsS79.drewN | apply IsS79.drew | apply IsS79.set_1) | exact HI0.out)); (case side2 => repeat (first | (with_reducible first | exact HB.out | apply below_alloc | apply pw_below_drewN | apply below_drew1 | refine below_set ?_ (IsS79.ge HI0.out)) | exact HB.out)); rintro e w7 ⟨rfl, hi, hb, hk⟩; refine ⟨_, rfl, ?_⟩; have n0_ := Q0_ (Kd.R_mono (Kd.R_keep (IsS79.apart (show IsS79 w0 _ g s0_0 s0_1 from by repeat (first | (with_reducible first | exact HI0.out | apply IsS79.alloc | apply IsS79.drewN | apply IsS79.drew | apply IsS79.set_1) | exact HI0.out)) (upR HO373) (by decide)) hk (fun _ h => h.2)) (fun _ h => h.1)); have n1_ := Q0_ (KeepBut.trans (by repeat (first | (with_reducible first | exact HK.out | apply KeepBut.set_ | apply keep_drewN | apply keep_drew | apply keep_alloc) | exact HK.out)) hk (.inl rfl)); have n2_ := Q0_ (hb); have n3_ := Q0_ (hi); clear HO373 HK HB HI0; revert n0_ n1_ n2_ n3_; intro HO373 HK HB HI0; (try clear hb); (try clear hb2); (try clear hk); (try clear hi)) | ((with_reducible refine gate_callee (f := 51) rfl ?_); refine goesL_ (some 15) rfl rfl Try.func51 (by kernel_rfl) rfl #[.pointer (some ⟨g, 0, none⟩), .int .i64 5] rfl hM ?_; (with_reducible refine (spec_l6Rd_pick.calls k g s0_0 t375 5 t376 t377 w0 _ ?side1 ?side2 A4.out).mono ?_); (case side1 => repeat (first | (with_reducible first | exact HI0.out | apply IsS79.alloc | apply IsS79.drewN | apply IsS79.drew | apply IsS79.set_1) | exact HI0.out)); (case side2 => repeat (first | (with_reducible first | exact HB.out | apply below_alloc | apply pw_below_drewN | apply below_drew1 | refine below_set ?_ (IsS79.ge HI0.out)) | exact HB.out)); rintro e w8 ⟨rfl, hi, hb, hk⟩; refine ⟨_, rfl, ?_⟩; have n0_ := Q0_ (Kd.R_mono (Kd.R_keep (IsS79.apart (show IsS79 w0 _ g s0_0 t375 from by repeat (first | (with_reducible first | exact HI0.out | apply IsS79.alloc | apply IsS79.drewN | apply IsS79.drew | apply IsS79.set_1) | exact HI0.out)) (upR HO373) (by decide)) hk (fun _ h => h.2)) (fun _ h => h.1)); have n1_ := Q0_ (KeepBut.trans (by repeat (first | (with_reducible first | exact HK.out | apply KeepBut.set_ | apply keep_drewN | apply keep_drew | apply keep_alloc) | exact HK.out)) hk (.inl rfl)); have n2_ := Q0_ (hb); have n3_ := Q0_ (hi); clear HO373 HK HB HI0; revert n0_ n1_ n2_ n3_; intro HO373 HK HB HI0; (try clear hb); (try clear hb2); (try clear hk); (try clear hi)))
 go_loopg [5, 7, 8] k (fun kq v5 v7 v8 w' => ∃ (x5_1 : List (S36)) (x7_1 : Int) (x8_1 : Int) (x1001_1 : Int), v7 = .int .i64 x7_1 ∧ v8 = .int .i64 x8_1 ∧ Aside0 (spec_l91Melody.l0 kq x5_1 t374 x7_1 x8_1 s0_0 x1001_1 = some (r1, r2)) ∧ Aside0 (kq ≤ k) ∧ Aside0 (Kd.R k36 36 w' w.heap.size (fun _ => True) v5 x5_1) ∧ Aside0 (IsS79 w0 w' g s0_0 x1001_1) ∧ Aside0 (KeepBut w w' g none) ∧ Aside0 (Below w0.heap.size w0 w'))
 case atStart => exact ⟨(y371), (wrap64 (4 + t376)), (0), (t377), eX, eX, H', ⟨Nat.le_refl _⟩, ⟨by (with_reducible repeat (first | apply Kd.R_alloc | apply Kd.R_drewN | apply Kd.R_drew)); exact HO373.out⟩, ⟨by repeat (first | (with_reducible first | exact HI0.out | apply IsS79.alloc | apply IsS79.drewN | apply IsS79.drew | apply IsS79.set_1) | exact HI0.out)⟩, ⟨by repeat (first | (with_reducible first | exact HK.out | apply KeepBut.set_ | apply keep_drewN | apply keep_drew | apply keep_alloc) | exact HK.out)⟩, ⟨by repeat (first | (with_reducible first | exact HB.out | apply below_alloc | apply pw_below_drewN | apply below_drew1 | refine below_set ?_ (IsS79.ge HI0.out)) | exact HB.out)⟩⟩
 case round =>
  clear H'
  try clear p2
  try clear c5
  try clear p6
  obtain ⟨x5_1, x7_1, x8_1, x1001_1, rfl, rfl, HA, HK1, HO_5, HI0, HK, HB⟩ := hrel
  cases gk with
  | zero => exact absurd HA.out (by simp [spec_l91Melody.l0])
  | succ k1 =>
   have H := HA.out
   clear HA
   simp only [spec_l91Melody.l0] at H
   by_cases c9 : x8_1 < t374
   ·rw [if_pos c9] at H
    have c9b0 : decide (x8_1 < t374) = true := decide_eq_true c9
    clear c9
    obtain ⟨t378, A100, H⟩ := Option.bind_eq_some_iff.mp H
    try dsimp only at H
    have A10 := Aside0.mk A100
    clear A100
    by_cases c11 : t378 = 2
    rotate_left
    ·rw [if_neg c11] at H
     have c11b0 : (t378 == 2) = false := beq_eq_false_iff_ne.mpr c11
     have c11b1 : (t378 != 2) = true := bne_iff_ne.mpr c11
     by_cases c20 : x5_1.length < 8796093022208
     rotate_left
     ·rw [if_neg c20] at H
      exact absurd H (by simp)
     rw [if_pos c20] at H
     have LMc20 := Aside0.mk c20
     clear c20
     obtain ⟨y386, hy386⟩ : ∃ y_ : List (S36), y_ = (x5_1 ++ [(⟨x7_1, false⟩ : S36)]) := ⟨_, rfl⟩
     replace H : ((spec_l6Rd_pick.f k1 s0_0 x1001_1 5).bind fun bt389 => (spec_l91Melody.l0 k1 y386 t374 (mx 1 (mn 15 (wrap64 ((wrap64 (x7_1 + bt389.1)) - 2)))) (wrap64 (x8_1 + 1)) s0_0 bt389.2)) = some (r1, r2) := by first | (rw [hy386]; with_reducible exact H) | (have H2_ := (Option.bind_some _ _).symm.trans H; rw [hy386]; with_reducible exact H2_) | (have H2_ := (Option.bind_some _ _).symm.trans H; with_reducible exact H2_) | with_reducible exact H | (rw [hy386]; exact H) | exact H
     have Ny386 := Aside0.mk hy386
     clear hy386
     obtain ⟨⟨t389, t390⟩, A210, H⟩ := Option.bind_eq_some_iff.mp H
     try dsimp only at H
     have A21 := Aside0.mk A210
     clear A210
     obtain ⟨ji22, hji22⟩ : ∃ j_ : Int, (mn 15 (wrap64 ((wrap64 (x7_1 + t389)) - 2))) = j_ := ⟨_, rfl⟩
     replace H : (spec_l91Melody.l0 k1 y386 t374 (mx 1 (ji22)) (wrap64 (x8_1 + 1)) s0_0 t390) = some (r1, r2) := by first | (rw [hji22] at H; exact H) | (simp only [hji22] at H ⊢; exact H)
     (try rw [hji22] at A10)
     (try rw [hji22] at A21)
     have hji22_ : (if (wrap64 ((wrap64 (x7_1 + t389)) - 2)) < 15 then (wrap64 ((wrap64 (x7_1 + t389)) - 2)) else 15) = ji22 := hji22
     obtain ⟨ji23, hji23⟩ : ∃ j_ : Int, (mx 1 (ji22)) = j_ := ⟨_, rfl⟩
     replace H : (spec_l91Melody.l0 k1 y386 t374 ji23 (wrap64 (x8_1 + 1)) s0_0 t390) = some (r1, r2) := by first | (rw [hji23] at H; exact H) | (simp only [hji23] at H ⊢; exact H)
     (try rw [hji23] at A10)
     (try rw [hji23] at A21)
     have hji23_ : (if 1 < (ji22) then (ji22) else 1) = ji23 := hji23
     have H' := Aside0.mk H
     clear H
     go_wp2_with (first | ((with_reducible refine gate_callee (f := 52) rfl ?_); refine goesL_ (some 25) rfl rfl Try.func52 (by kernel_rfl) rfl #[.int .i64 x7_1] rfl hM ?_; (with_reducible refine (spec_l1Letter.calls x7_1 t378 _ A10.out).mono ?_); rintro e w' ⟨rfl, ⟨nd, rfl⟩⟩; refine ⟨_, rfl, ?_⟩) | ((with_reducible refine gate_builtin (b := .append) (xs := #[.tmp 22, .tmp 33]) rfl ?_); at_builtin; refine Kd.R_append k36 w.heap.size rfl (.tmp 22) (.tmp 33) 25 36 (.agg #[(.int .i64 0), (.bool false)]) 16 rfl Try.underlying25 info36 rfl (by decide) (by omega) u5 x5_1 (⟨x7_1, false⟩ : S36) [.int .i64 x7_1, .bool false] (fun _ => True) (fun _ => False) rfl rfl ?aP (fun _ hk => hk.elim) ?aF ?aO (Below.refl _ _) ?aS ?aL ?_; (case aP => exact k36_mkM _ _ _ (⟨x7_1, false⟩ : S36)); (case aF => exact (fun _ _ => trivial)); (case aO => exact (upR HO_5)); (case aS => exact (keep_size (w := w) (g := g) (row := none) (by repeat (first | (with_reducible first | exact HK.out | apply KeepBut.set_ | apply keep_drewN | apply keep_drew | apply keep_alloc) | exact HK.out)))); (case aL => have := LMc20.out; omega); intro v387 w24 ho hb hg hat; rw [← Ny386.out] at ho; have n0_ := Q0_ (IsS79.grown (by repeat (first | (with_reducible first | exact HI0.out | apply IsS79.alloc | apply IsS79.drewN | apply IsS79.drew | apply IsS79.set_1) | exact HI0.out)) hg (IsS79.own_ne HI0.out HO_5.out (by decide))); have n1_ := Q0_ (below_weaken (by repeat (first | (with_reducible first | exact HB.out | apply below_alloc | apply pw_below_drewN | apply below_drew1 | refine below_set ?_ (IsS79.ge HI0.out)) | exact HB.out)) HL.out hb); have n2_ := Q0_ (KeepBut.trans (by repeat (first | (with_reducible first | exact HK.out | apply KeepBut.set_ | apply keep_drewN | apply keep_drew | apply keep_alloc) | exact HK.out)) (KeepBut.of_grown hg g) (Kd.R_base2 HO_5.out)); have n3_ := Q0_ (ho); clear HI0 HB HK HO_5; revert n0_ n1_ n2_ n3_; intro HI0 HB HK HO388; clear ho hb hg hat) | ((with_reducible refine gate_callee (f := 51) rfl ?_); refine goesL_ (some 37) rfl rfl Try.func51 (by kernel_rfl) rfl #[.pointer (some ⟨g, 0, none⟩), .int .i64 5] rfl hM ?_; (with_reducible refine (spec_l6Rd_pick.calls k1 g s0_0 x1001_1 5 t389 t390 w0 _ ?side1 ?side2 A21.out).mono ?_); (case side1 => repeat (first | (with_reducible first | exact HI0.out | apply IsS79.alloc | apply IsS79.drewN | apply IsS79.drew | apply IsS79.set_1) | exact HI0.out)); (case side2 => repeat (first | (with_reducible first | exact HB.out | apply below_alloc | apply pw_below_drewN | apply below_drew1 | refine below_set ?_ (IsS79.ge HI0.out)) | exact HB.out)); rintro e w25 ⟨rfl, hi, hb, hk⟩; refine ⟨_, rfl, ?_⟩; have n0_ := Q0_ (Kd.R_mono (Kd.R_keep (IsS79.apart (show IsS79 w0 _ g s0_0 x1001_1 from by repeat (first | (with_reducible first | exact HI0.out | apply IsS79.alloc | apply IsS79.drewN | apply IsS79.drew | apply IsS79.set_1) | exact HI0.out)) (upR HO388) (by decide)) hk (fun _ h => h.2)) (fun _ h => h.1)); have n1_ := Q0_ (KeepBut.trans (by repeat (first | (with_reducible first | exact HK.out | apply KeepBut.set_ | apply keep_drewN | apply keep_drew | apply keep_alloc) | exact HK.out)) hk (.inl rfl)); have n2_ := Q0_ (hb); have n3_ := Q0_ (hi); clear HO388 HK HB HI0; revert n0_ n1_ n2_ n3_; intro HO388 HK HB HI0; (try clear hb); (try clear hb2); (try clear hk); (try clear hi)))
     first | go_roundg k1 | ((try simp only [← hji22] at H' ⊢); (try simp only [← hji23] at H' ⊢); go_roundg k1)
     case measure => have := HK1.out; omega
     case rel => exact ⟨(y386), (ji23), (wrap64 (x8_1 + 1)), (t390), (by first | rfl | (simp; done) | (simp only [← hji23] <;> (first | rfl | simp)) | (simp [*]; done)), eX, H', ⟨by have := HK1.out; omega⟩, ⟨by (with_reducible repeat (first | apply Kd.R_alloc | apply Kd.R_drewN | apply Kd.R_drew)); exact HO388.out⟩, ⟨by repeat (first | (with_reducible first | exact HI0.out | apply IsS79.alloc | apply IsS79.drewN | apply IsS79.drew | apply IsS79.set_1) | exact HI0.out)⟩, ⟨by repeat (first | (with_reducible first | exact HK.out | apply KeepBut.set_ | apply keep_drewN | apply keep_drew | apply keep_alloc) | exact HK.out)⟩, ⟨by repeat (first | (with_reducible first | exact HB.out | apply below_alloc | apply pw_below_drewN | apply below_drew1 | refine below_set ?_ (IsS79.ge HI0.out)) | exact HB.out)⟩⟩
    rw [if_pos c11] at H
    have c11b0 : (t378 == 2) = true := beq_iff_eq.mpr c11
    have c11b1 : (t378 != 2) = false := bne_eq_false_iff_eq.mpr c11
    clear c11
    obtain ⟨⟨t379, t380⟩, A120, H⟩ := Option.bind_eq_some_iff.mp H
    try dsimp only at H
    have A12 := Aside0.mk A120
    clear A120
    by_cases c13 : x5_1.length < 8796093022208
    rotate_left
    ·rw [if_neg c13] at H
     exact absurd H (by simp)
    rw [if_pos c13] at H
    have LMc13 := Aside0.mk c13
    clear c13
    obtain ⟨y381, hy381⟩ : ∃ y_ : List (S36), y_ = (x5_1 ++ [(⟨x7_1, (t379 == 0)⟩ : S36)]) := ⟨_, rfl⟩
    replace H : ((spec_l6Rd_pick.f k1 s0_0 t380 5).bind fun bt384 => (spec_l91Melody.l0 k1 y381 t374 (mx 1 (mn 15 (wrap64 ((wrap64 (x7_1 + bt384.1)) - 2)))) (wrap64 (x8_1 + 1)) s0_0 bt384.2)) = some (r1, r2) := by first | (rw [hy381]; with_reducible exact H) | (have H2_ := (Option.bind_some _ _).symm.trans H; rw [hy381]; with_reducible exact H2_) | (have H2_ := (Option.bind_some _ _).symm.trans H; with_reducible exact H2_) | with_reducible exact H | (rw [hy381]; exact H) | exact H
    have Ny381 := Aside0.mk hy381
    clear hy381
    obtain ⟨⟨t384, t385⟩, A140, H⟩ := Option.bind_eq_some_iff.mp H
    try dsimp only at H
    have A14 := Aside0.mk A140
    clear A140
    obtain ⟨ji15, hji15⟩ : ∃ j_ : Int, (mn 15 (wrap64 ((wrap64 (x7_1 + t384)) - 2))) = j_ := ⟨_, rfl⟩
    replace H : (spec_l91Melody.l0 k1 y381 t374 (mx 1 (ji15)) (wrap64 (x8_1 + 1)) s0_0 t385) = some (r1, r2) := by first | (rw [hji15] at H; exact H) | (simp only [hji15] at H ⊢; exact H)
    (try rw [hji15] at A10)
    (try rw [hji15] at A12)
    (try rw [hji15] at A14)
    have hji15_ : (if (wrap64 ((wrap64 (x7_1 + t384)) - 2)) < 15 then (wrap64 ((wrap64 (x7_1 + t384)) - 2)) else 15) = ji15 := hji15
    obtain ⟨ji16, hji16⟩ : ∃ j_ : Int, (mx 1 (ji15)) = j_ := ⟨_, rfl⟩
    replace H : (spec_l91Melody.l0 k1 y381 t374 ji16 (wrap64 (x8_1 + 1)) s0_0 t385) = some (r1, r2) := by first | (rw [hji16] at H; exact H) | (simp only [hji16] at H ⊢; exact H)
    (try rw [hji16] at A10)
    (try rw [hji16] at A12)
    (try rw [hji16] at A14)
    have hji16_ : (if 1 < (ji15) then (ji15) else 1) = ji16 := hji16
    have H' := Aside0.mk H
    clear H
    go_wp2_with (first | ((with_reducible refine gate_callee (f := 52) rfl ?_); refine goesL_ (some 25) rfl rfl Try.func52 (by kernel_rfl) rfl #[.int .i64 x7_1] rfl hM ?_; (with_reducible refine (spec_l1Letter.calls x7_1 t378 _ A10.out).mono ?_); rintro e w' ⟨rfl, ⟨nd, rfl⟩⟩; refine ⟨_, rfl, ?_⟩) | (go_at_call 51; (with_reducible refine (spec_l6Rd_pick.calls k1 g s0_0 x1001_1 3 t379 t380 w0 _ ?side1 ?side2 A12.out).mono ?_); (case side1 => repeat (first | (with_reducible first | exact HI0.out | apply IsS79.alloc | apply IsS79.drewN | apply IsS79.drew | apply IsS79.set_1) | exact HI0.out)); (case side2 => repeat (first | (with_reducible first | exact HB.out | apply below_alloc | apply pw_below_drewN | apply below_drew1 | refine below_set ?_ (IsS79.ge HI0.out)) | exact HB.out)); rintro e w17 ⟨rfl, hi, hb, hk⟩; have n0_ := Q0_ (Kd.R_mono (Kd.R_keep (IsS79.apart (show IsS79 w0 _ g s0_0 x1001_1 from by repeat (first | (with_reducible first | exact HI0.out | apply IsS79.alloc | apply IsS79.drewN | apply IsS79.drew | apply IsS79.set_1) | exact HI0.out)) (upR HO_5) (by decide)) hk (fun _ h => h.2)) (fun _ h => h.1)); have n1_ := Q0_ (KeepBut.trans (by repeat (first | (with_reducible first | exact HK.out | apply KeepBut.set_ | apply keep_drewN | apply keep_drew | apply keep_alloc) | exact HK.out)) hk (.inl rfl)); have n2_ := Q0_ (hb); have n3_ := Q0_ (hi); clear HO_5 HK HB HI0; revert n0_ n1_ n2_ n3_; intro HO_5 HK HB HI0; (try clear hb); (try clear hb2); (try clear hk); (try clear hi)) | ((with_reducible refine gate_builtin (b := .append) (xs := #[.tmp 22, .tmp 33]) rfl ?_); at_builtin; refine Kd.R_append k36 w.heap.size rfl (.tmp 22) (.tmp 33) 25 36 (.agg #[(.int .i64 0), (.bool false)]) 16 rfl Try.underlying25 info36 rfl (by decide) (by omega) u5 x5_1 (⟨x7_1, (t379 == 0)⟩ : S36) [.int .i64 x7_1, .bool (t379 == 0)] (fun _ => True) (fun _ => False) rfl rfl ?aP (fun _ hk => hk.elim) ?aF ?aO (Below.refl _ _) ?aS ?aL ?_; (case aP => exact k36_mkM _ _ _ (⟨x7_1, (t379 == 0)⟩ : S36)); (case aF => exact (fun _ _ => trivial)); (case aO => exact (upR HO_5)); (case aS => exact (keep_size (w := w) (g := g) (row := none) (by repeat (first | (with_reducible first | exact HK.out | apply KeepBut.set_ | apply keep_drewN | apply keep_drew | apply keep_alloc) | exact HK.out)))); (case aL => have := LMc13.out; omega); intro v382 w18 ho hb hg hat; rw [← Ny381.out] at ho; have n0_ := Q0_ (IsS79.grown (by repeat (first | (with_reducible first | exact HI0.out | apply IsS79.alloc | apply IsS79.drewN | apply IsS79.drew | apply IsS79.set_1) | exact HI0.out)) hg (IsS79.own_ne HI0.out HO_5.out (by decide))); have n1_ := Q0_ (below_weaken (by repeat (first | (with_reducible first | exact HB.out | apply below_alloc | apply pw_below_drewN | apply below_drew1 | refine below_set ?_ (IsS79.ge HI0.out)) | exact HB.out)) HL.out hb); have n2_ := Q0_ (KeepBut.trans (by repeat (first | (with_reducible first | exact HK.out | apply KeepBut.set_ | apply keep_drewN | apply keep_drew | apply keep_alloc) | exact HK.out)) (KeepBut.of_grown hg g) (Kd.R_base2 HO_5.out)); have n3_ := Q0_ (ho); clear HI0 HB HK HO_5; revert n0_ n1_ n2_ n3_; intro HI0 HB HK HO383; clear ho hb hg hat) | ((with_reducible refine gate_callee (f := 51) rfl ?_); refine goesL_ (some 37) rfl rfl Try.func51 (by kernel_rfl) rfl #[.pointer (some ⟨g, 0, none⟩), .int .i64 5] rfl hM ?_; (with_reducible refine (spec_l6Rd_pick.calls k1 g s0_0 t380 5 t384 t385 w0 _ ?side1 ?side2 A14.out).mono ?_); (case side1 => repeat (first | (with_reducible first | exact HI0.out | apply IsS79.alloc | apply IsS79.drewN | apply IsS79.drew | apply IsS79.set_1) | exact HI0.out)); (case side2 => repeat (first | (with_reducible first | exact HB.out | apply below_alloc | apply pw_below_drewN | apply below_drew1 | refine below_set ?_ (IsS79.ge HI0.out)) | exact HB.out)); rintro e w19 ⟨rfl, hi, hb, hk⟩; refine ⟨_, rfl, ?_⟩; have n0_ := Q0_ (Kd.R_mono (Kd.R_keep (IsS79.apart (show IsS79 w0 _ g s0_0 t380 from by repeat (first | (with_reducible first | exact HI0.out | apply IsS79.alloc | apply IsS79.drewN | apply IsS79.drew | apply IsS79.set_1) | exact HI0.out)) (upR HO383) (by decide)) hk (fun _ h => h.2)) (fun _ h => h.1)); have n1_ := Q0_ (KeepBut.trans (by repeat (first | (with_reducible first | exact HK.out | apply KeepBut.set_ | apply keep_drewN | apply keep_drew | apply keep_alloc) | exact HK.out)) hk (.inl rfl)); have n2_ := Q0_ (hb); have n3_ := Q0_ (hi); clear HO383 HK HB HI0; revert n0_ n1_ n2_ n3_; intro HO383 HK HB HI0; (try clear hb); (try clear hb2); (try clear hk); (try clear hi)))
    first | go_roundg k1 | ((try simp only [← hji22] at H' ⊢); (try simp only [← hji23] at H' ⊢); (try simp only [← hji15] at H' ⊢); (try simp only [← hji16] at H' ⊢); go_roundg k1)
    case measure => have := HK1.out; omega
    case rel => exact ⟨(y381), (ji16), (wrap64 (x8_1 + 1)), (t385), (by first | rfl | (simp; done) | (simp only [← hji16] <;> (first | rfl | simp)) | (simp [*]; done)), eX, H', ⟨by have := HK1.out; omega⟩, ⟨by (with_reducible repeat (first | apply Kd.R_alloc | apply Kd.R_drewN | apply Kd.R_drew)); exact HO383.out⟩, ⟨by repeat (first | (with_reducible first | exact HI0.out | apply IsS79.alloc | apply IsS79.drewN | apply IsS79.drew | apply IsS79.set_1) | exact HI0.out)⟩, ⟨by repeat (first | (with_reducible first | exact HK.out | apply KeepBut.set_ | apply keep_drewN | apply keep_drew | apply keep_alloc) | exact HK.out)⟩, ⟨by repeat (first | (with_reducible first | exact HB.out | apply below_alloc | apply pw_below_drewN | apply below_drew1 | refine below_set ?_ (IsS79.ge HI0.out)) | exact HB.out)⟩⟩
   rw [if_neg c9] at H
   have c9b0 : decide (x8_1 < t374) = false := decide_eq_false c9
   clear c9
   by_cases c26 : t374 > 0
   rotate_left
   ·rw [if_neg c26] at H
    have c26b0 : decide (0 < t374) = false := decide_eq_false c26
    clear c26
    simp only [Option.some.injEq, Prod.mk.injEq] at H
    obtain ⟨rfl, rfl⟩ := H
    go_wp2
    go_ret
    exact ⟨_, by first | rfl | (simp [errW_none, errW_some] <;> rfl) | (simp [*, errW_none, errW_some] <;> rfl), by (with_reducible repeat (first | apply Kd.R_alloc | apply Kd.R_drewN | apply Kd.R_drew)); exact HO_5.out, by repeat (first | (with_reducible first | exact HI0.out | apply IsS79.alloc | apply IsS79.drewN | apply IsS79.drew | apply IsS79.set_1) | exact HI0.out), by repeat (first | (with_reducible first | exact HB.out | apply below_alloc | apply pw_below_drewN | apply below_drew1 | refine below_set ?_ (IsS79.ge HI0.out)) | exact HB.out), by repeat (first | (with_reducible first | exact HK.out | apply KeepBut.set_ | apply keep_drewN | apply keep_drew | apply keep_alloc) | exact HK.out)⟩
   rw [if_pos c26] at H
   have c26b0 : decide (0 < t374) = true := decide_eq_true c26
   clear c26
   obtain ⟨⟨t391, t392⟩, A270, H⟩ := Option.bind_eq_some_iff.mp H
   try dsimp only at H
   have A27 := Aside0.mk A270
   clear A270
   by_cases c28 : t391 = 0
   ·rw [if_pos c28] at H
    have c28b0 : (t391 == 0) = true := beq_iff_eq.mpr c28
    have c28b1 : (t391 != 0) = false := bne_eq_false_iff_eq.mpr c28
    clear c28
    obtain ⟨y393, hy393⟩ : ∃ y_ : List Int, y_ = (([(-1), 21, 20] : List Int)) := ⟨_, rfl⟩
    replace H : ((spec_l6Rd_pick.f k1 s0_0 t392 3).bind fun bt396 => (if 0 ≤ bt396.1 then (if bt396.1 < (y393.length : Int) then (if 0 < (x5_1.length : Int) then (some ((x5_1.set (0 : Int).toNat (⟨rd y393 bt396.1, (rd_T36 x5_1 0).f1⟩ : S36)), bt396.2)) else (none)) else (none)) else (none))) = some (r1, r2) := by first | (rw [hy393]; with_reducible exact H) | (have H2_ := (Option.bind_some _ _).symm.trans H; rw [hy393]; with_reducible exact H2_) | (have H2_ := (Option.bind_some _ _).symm.trans H; with_reducible exact H2_) | with_reducible exact H | (rw [hy393]; exact H) | exact H
    have Ny393 := Aside0.mk hy393
    clear hy393
    obtain ⟨⟨t396, t397⟩, A290, H⟩ := Option.bind_eq_some_iff.mp H
    try dsimp only at H
    have A29 := Aside0.mk A290
    clear A290
    by_cases c30 : 0 ≤ t396
    rotate_left
    ·rw [if_neg c30] at H
     exact absurd H (by simp)
    rw [if_pos c30] at H
    have c30b0 : decide (0 ≤ t396) = true := decide_eq_true c30
    clear c30
    by_cases c31 : t396 < (y393.length : Int)
    rotate_left
    ·rw [if_neg c31] at H
     exact absurd H (by simp)
    rw [if_pos c31] at H
    have c31b0 : decide (t396 < (y393.length : Int)) = true := decide_eq_true c31
    clear c31
    by_cases c32 : 0 < (x5_1.length : Int)
    rotate_left
    ·rw [if_neg c32] at H
     exact absurd H (by simp)
    rw [if_pos c32] at H
    have c32b0 : decide (0 < (x5_1.length : Int)) = true := decide_eq_true c32
    have c32b1 : decide (0 < x5_1.length) = true := decide_eq_true (by omega)
    clear c32
    obtain ⟨y399, hy399⟩ : ∃ y_ : List (S36), y_ = (x5_1.set (0 : Int).toNat (⟨rd y393 t396, (rd_T36 x5_1 0).f1⟩ : S36)) := ⟨_, rfl⟩
    replace H : (some (y399, t397)) = some (r1, r2) := by first | (rw [hy399]; with_reducible exact H) | (have H2_ := (Option.bind_some _ _).symm.trans H; rw [hy399]; with_reducible exact H2_) | (have H2_ := (Option.bind_some _ _).symm.trans H; with_reducible exact H2_) | with_reducible exact H | (rw [hy399]; exact H) | exact H
    have Ny399 := Aside0.mk hy399
    clear hy399
    simp only [Option.some.injEq, Prod.mk.injEq] at H
    obtain ⟨rfl, rfl⟩ := H
    go_wp2_with (first | ((with_reducible refine gate_callee (f := 51) rfl ?_); refine goesL_ (some 45) rfl rfl Try.func51 (by kernel_rfl) rfl #[.pointer (some ⟨g, 0, none⟩), .int .i64 50] rfl hM ?_; (with_reducible refine (spec_l6Rd_pick.calls k1 g s0_0 x1001_1 50 t391 t392 w0 _ ?side1 ?side2 A27.out).mono ?_); (case side1 => repeat (first | (with_reducible first | exact HI0.out | apply IsS79.alloc | apply IsS79.drewN | apply IsS79.drew | apply IsS79.set_1) | exact HI0.out)); (case side2 => repeat (first | (with_reducible first | exact HB.out | apply below_alloc | apply pw_below_drewN | apply below_drew1 | refine below_set ?_ (IsS79.ge HI0.out)) | exact HB.out)); rintro e w34 ⟨rfl, hi, hb, hk⟩; refine ⟨_, rfl, ?_⟩; have n0_ := Q0_ (Kd.R_mono (Kd.R_keep (IsS79.apart (show IsS79 w0 _ g s0_0 x1001_1 from by repeat (first | (with_reducible first | exact HI0.out | apply IsS79.alloc | apply IsS79.drewN | apply IsS79.drew | apply IsS79.set_1) | exact HI0.out)) (upR HO_5) (by decide)) hk (fun _ h => h.2)) (fun _ h => h.1)); have n1_ := Q0_ (KeepBut.trans (by repeat (first | (with_reducible first | exact HK.out | apply KeepBut.set_ | apply keep_drewN | apply keep_drew | apply keep_alloc) | exact HK.out)) hk (.inl rfl)); have n2_ := Q0_ (hb); have n3_ := Q0_ (hi); clear HO_5 HK HB HI0; revert n0_ n1_ n2_ n3_; intro HO_5 HK HB HI0; (try clear hb); (try clear hb2); (try clear hk); (try clear hi)) | ((with_reducible refine gate_dst (N := 49) rfl ?_); refine Kd.R_lit (Kd.int .i64) _ 3 ?hg (N := 49) ?hd (xs := ([(-1), 21, 20] : List Int)) (inner := [.int .i64 (-1), .int .i64 21, .int .i64 20]) (ok := fun _ => True) (okp := fun _ => True) ?hr ?hp (fun _ hk => hk) trivial (Below.refl _ _) (Nat.le_refl _) (by simp) ?_; (case hd => rfl); (case hg => rfl); (case hr => first | (go_simp; done) | (go_simp; rfl)); (case hp => exact (Reps.one (show Kd.M (Kd.int .i64) _ _ _ (-1) [.int .i64 (-1)] from rfl) (Reps.one (show Kd.M (Kd.int .i64) _ _ _ 21 [.int .i64 21] from rfl) (Reps.one (show Kd.M (Kd.int .i64) _ _ _ 20 [.int .i64 20] from rfl) (Reps.none _ _))))); intro v394 w35 ho36 hb hg_ hnew_; clear hg_ hnew_; (first | rw [← Ny393.out] at ho36 | (simp only [Int.reduceToNat] at ho36; rw [← Ny393.out] at ho36)); have n0_ := Q0_ (Kd.R_below (upR HO_5) hb); have n1_ := Q0_ (Kd.R_lower ho36 (keep_size (w := w) (g := g) (row := none) (by repeat (first | (with_reducible first | exact HK.out | apply KeepBut.set_ | apply keep_drewN | apply keep_drew | apply keep_alloc) | exact HK.out)))); have n2_ := Q0_ (IsS79.below (by repeat (first | (with_reducible first | exact HI0.out | apply IsS79.alloc | apply IsS79.drewN | apply IsS79.drew | apply IsS79.set_1) | exact HI0.out)) hb); have n3_ := Q0_ (KeepBut.trans (by repeat (first | (with_reducible first | exact HK.out | apply KeepBut.set_ | apply keep_drewN | apply keep_drew | apply keep_alloc) | exact HK.out)) (KeepBut.of_below hb g none) (.inl rfl)); have n4_ := Q0_ (below_step (by repeat (first | (with_reducible first | exact HB.out | apply below_alloc | apply pw_below_drewN | apply below_drew1 | refine below_set ?_ (IsS79.ge HI0.out)) | exact HB.out)) hb); clear HO_5 HI0 HK HB; revert n0_ n1_ n2_ n3_ n4_; intro HO_5 HO395 HI0 HK HB; clear hb ho36) | ((with_reducible refine gate_callee (f := 51) rfl ?_); refine goesL_ (some 51) rfl rfl Try.func51 (by kernel_rfl) rfl #[.pointer (some ⟨g, 0, none⟩), .int .i64 3] rfl hM ?_; (with_reducible refine (spec_l6Rd_pick.calls k1 g s0_0 t392 3 t396 t397 w0 _ ?side1 ?side2 A29.out).mono ?_); (case side1 => repeat (first | (with_reducible first | exact HI0.out | apply IsS79.alloc | apply IsS79.drewN | apply IsS79.drew | apply IsS79.set_1) | exact HI0.out)); (case side2 => repeat (first | (with_reducible first | exact HB.out | apply below_alloc | apply pw_below_drewN | apply below_drew1 | refine below_set ?_ (IsS79.ge HI0.out)) | exact HB.out)); rintro e w37 ⟨rfl, hi, hb, hk⟩; refine ⟨_, rfl, ?_⟩; have n0_ := Q0_ (Kd.R_mono (Kd.R_keep (IsS79.apart (show IsS79 w0 _ g s0_0 t392 from by repeat (first | (with_reducible first | exact HI0.out | apply IsS79.alloc | apply IsS79.drewN | apply IsS79.drew | apply IsS79.set_1) | exact HI0.out)) (upR HO_5) (by decide)) hk (fun _ h => h.2)) (fun _ h => h.1)); have n1_ := Q0_ (Kd.R_mono (Kd.R_keep (IsS79.apart (show IsS79 w0 _ g s0_0 t392 from by repeat (first | (with_reducible first | exact HI0.out | apply IsS79.alloc | apply IsS79.drewN | apply IsS79.drew | apply IsS79.set_1) | exact HI0.out)) (upR HO395) (by decide)) hk (fun _ h => h.2)) (fun _ h => h.1)); have n2_ := Q0_ (KeepBut.trans (by repeat (first | (with_reducible first | exact HK.out | apply KeepBut.set_ | apply keep_drewN | apply keep_drew | apply keep_alloc) | exact HK.out)) hk (.inl rfl)); have n3_ := Q0_ (hb); have n4_ := Q0_ (hi); clear HO_5 HO395 HK HB HI0; revert n0_ n1_ n2_ n3_ n4_; intro HO_5 HO395 HK HB HI0; (try clear hb); (try clear hb2); (try clear hk); (try clear hi); obtain ⟨Ao38, co38, eo38⟩ := Kd.R_slice HO395.out; subst eo38; have p398 : 0 ≤ (t396 : Int) := of_decide_eq_true aS; have q398 : t396 < (y393.length : Int) := of_decide_eq_true aS; obtain ⟨ad398, e398, hx398_0⟩ := Kd.at_int (Kd.R_reads' HO395.out).2.2 t396 p398 q398; cases e398; replace p398 := eq_true p398; replace q398 := eq_true q398; have p33 : 0 ≤ (0 : Int) := (by omega); have q33 : (0 : Int) < ((x5_1.length : Int) : Int) := of_decide_eq_true aS; have qi33 : (0 < x5_1.length) = True := eq_true (by omega); obtain ⟨go33, co33, eo33, gb33, gl33, cl33, HG33⟩ := Kd.R_form HO_5.out (by omega); (first | cases eo33 | (injection eo33 with ea_ en_ ec_; (first | subst ea_ | (injection ea_ with ea_; subst ea_)); subst ec_; clear en_)); have GB33 := Aside0.mk gb33; have GG33 := Aside0.mk HG33; clear gb33 gl33 HG33; obtain ⟨ce33, hcl33, hM33, hcc33, hfr33⟩ := Kd.R_elem HO_5.out z36 (0 : Int) p33 q33; obtain rfl := k36_openM hM33; have hx33_0 : w37.cell? ⟨go33, (0 : Int).toNat * 2, none⟩ = some (.int .i64 ((rd_T36 x5_1 0).f0)) := hcc33 0 _ rfl; have hx33_1 : w37.cell? ⟨go33, (0 : Int).toNat * 2 + 1, none⟩ = some (.bool ((rd_T36 x5_1 0).f1)) := hcc33 1 _ rfl; have hf33_0 : w37.frozen? ⟨go33, (0 : Int).toNat * 2, none⟩ = false := hfr33 0; have hf33_1 : w37.frozen? ⟨go33, (0 : Int).toNat * 2 + 1, none⟩ = false := hfr33 1; (try clear hM33); clear hcl33 hcc33 hfr33; (try rw [show ((0 : Int)).toNat = 0 from rfl] at hx33_0); (try simp only [Nat.reduceMul, Nat.zero_mul, Nat.zero_add, Nat.reduceAdd] at hx33_0); (try rw [show ((0 : Int)).toNat = 0 from rfl] at hf33_0); (try simp only [Nat.reduceMul, Nat.zero_mul, Nat.zero_add, Nat.reduceAdd] at hf33_0); (try rw [show ((0 : Int)).toNat = 0 from rfl] at hx33_1); (try simp only [Nat.reduceMul, Nat.zero_mul, Nat.zero_add, Nat.reduceAdd] at hx33_1); (try rw [show ((0 : Int)).toNat = 0 from rfl] at hf33_1); (try simp only [Nat.reduceMul, Nat.zero_mul, Nat.zero_add, Nat.reduceAdd] at hf33_1); replace p33 := eq_true p33; replace q33 := eq_true q33; have HX39 := Q0_ (show Kd.R k36 36 w37 w.heap.size (fun _ => True) (.slice (some ⟨go33, 0, none⟩) x5_1.length co33) x5_1 from (upR HO_5)); obtain ⟨ce39, hcl39, hM39, hcc39, hfr39⟩ := Kd.R_elem HX39.out z36 (0 : Int) (by omega) (by have h_ : (0 : Int) < ((x5_1.length : Int) : Int) := of_decide_eq_true aS; first | exact h_ | (have e_ := (Kd.R_reads' HO_5.out).1; omega) | simpa using h_); obtain rfl := k36_openM hM39; have HP39 := Kd.R_seg HX39.out (0 : Int) (by omega) (by have h_ : (0 : Int) < ((x5_1.length : Int) : Int) := of_decide_eq_true aS; first | exact h_ | (have e_ := (Kd.R_reads' HO_5.out).1; omega) | simpa using h_) (seg := [.int .i64 (rd y393 t396)]) (j := 0) hcl39 hcc39 (show 1 ≤ 2 from by decide) (x' := (⟨rd y393 t396, (rd_T36 x5_1 0).f1⟩ : S36)) (k36_mkM _ _ _ (⟨rd y393 t396, (rd_T36 x5_1 0).f1⟩ : S36) ) (fun _ hk => hk); have hx39_0 := hcc39 0 _ rfl; (try simp only [show (k36).sz = 2 from rfl, Nat.mul_one, Nat.add_zero] at hx39_0); (try rw [show ((0 : Int)).toNat = 0 from rfl] at hx39_0); (try simp only [Nat.reduceMul, Nat.zero_mul, Nat.zero_add, Nat.reduceAdd] at hx39_0); have hf39_0 := hfr39 0; (try simp only [show (k36).sz = 2 from rfl, Nat.mul_one, Nat.add_zero] at hf39_0); (try rw [show ((0 : Int)).toNat = 0 from rfl] at hf39_0); (try simp only [Nat.reduceMul, Nat.zero_mul, Nat.zero_add, Nat.reduceAdd] at hf39_0); (try clear hM39); clear hcl39 hcc39 hfr39) | ((with_reducible refine gate_store (t := 3) (p := 55) rfl ?_); refine store_event (t := 3) (p := 55) (v := ?vo_w40) (w1 := (w37.setCell ⟨go33, 0, none⟩ (.int .i64 (rd y393 t396)))) ?hg ?ho ?hn ?hr ?_; (case ho => rfl); (case hg => rfl); (case hn => rfl); (case hr => first | (go_simp; done) | (go_simp; rfl)); intro w40 hw; have hg : w37.grownBy w40 (some go33) := (by rw [hw]; exact HP39.2); have hp_ : Kd.R k36 36 w40 w.heap.size (fun _ => True) (.slice (some ⟨go33, 0, none⟩) x5_1.length co33) y399 := (by rw [hw, Ny399.out]; exact HP39.1); clear HP39; have n0_ := Q0_ (hp_); have n1_ := Q0_ (IsS79.grown (by repeat (first | (with_reducible first | exact HI0.out | apply IsS79.alloc | apply IsS79.drewN | apply IsS79.drew | apply IsS79.set_1) | exact HI0.out)) hg (IsS79.own_ne HI0.out HO_5.out (by decide))); have n2_ := Q0_ (Kd.R_over' (v := (.slice (some ⟨go33, 0, none⟩) x5_1.length co33)) (upR HO395) (Kd.R_typed HO_5.out) (by decide) hg); have n3_ := Q0_ ((by rw [hw]; exact below_set (HB.out) (Nat.le_trans HL.out GB33.out) : Below w0.heap.size w0 w40)); have n4_ := Q0_ (KeepBut.trans (by repeat (first | (with_reducible first | exact HK.out | apply KeepBut.set_ | apply keep_drewN | apply keep_drew | apply keep_alloc) | exact HK.out)) (KeepBut.of_grown hg g) (Kd.R_base2 HO_5.out)); clear HO_5 HI0 HO395 HB HK; revert n0_ n1_ n2_ n3_ n4_; intro HO_5 HI0 HO395 HB HK; clear hg hw hp_))
    go_ret
    exact ⟨_, by first | rfl | (simp [errW_none, errW_some] <;> rfl) | (simp [*, errW_none, errW_some] <;> rfl), by (with_reducible repeat (first | apply Kd.R_alloc | apply Kd.R_drewN | apply Kd.R_drew)); exact HO_5.out, by repeat (first | (with_reducible first | exact HI0.out | apply IsS79.alloc | apply IsS79.drewN | apply IsS79.drew | apply IsS79.set_1) | exact HI0.out), by repeat (first | (with_reducible first | exact HB.out | apply below_alloc | apply pw_below_drewN | apply below_drew1 | refine below_set ?_ (IsS79.ge HI0.out)) | exact HB.out), by repeat (first | (with_reducible first | exact HK.out | apply KeepBut.set_ | apply keep_drewN | apply keep_drew | apply keep_alloc) | exact HK.out)⟩
   rw [if_neg c28] at H
   have c28b0 : (t391 == 0) = false := beq_eq_false_iff_ne.mpr c28
   have c28b1 : (t391 != 0) = true := bne_iff_ne.mpr c28
   by_cases c41 : t391 = 1
   rotate_left
   ·rw [if_neg c41] at H
    have c41b0 : (t391 == 1) = false := beq_eq_false_iff_ne.mpr c41
    have c41b1 : (t391 != 1) = true := bne_iff_ne.mpr c41
    simp only [Option.some.injEq, Prod.mk.injEq] at H
    obtain ⟨rfl, rfl⟩ := H
    go_wp2_with (first | ((with_reducible refine gate_callee (f := 51) rfl ?_); refine goesL_ (some 45) rfl rfl Try.func51 (by kernel_rfl) rfl #[.pointer (some ⟨g, 0, none⟩), .int .i64 50] rfl hM ?_; (with_reducible refine (spec_l6Rd_pick.calls k1 g s0_0 x1001_1 50 t391 t392 w0 _ ?side1 ?side2 A27.out).mono ?_); (case side1 => repeat (first | (with_reducible first | exact HI0.out | apply IsS79.alloc | apply IsS79.drewN | apply IsS79.drew | apply IsS79.set_1) | exact HI0.out)); (case side2 => repeat (first | (with_reducible first | exact HB.out | apply below_alloc | apply pw_below_drewN | apply below_drew1 | refine below_set ?_ (IsS79.ge HI0.out)) | exact HB.out)); rintro e w49 ⟨rfl, hi, hb, hk⟩; refine ⟨_, rfl, ?_⟩; have n0_ := Q0_ (Kd.R_mono (Kd.R_keep (IsS79.apart (show IsS79 w0 _ g s0_0 x1001_1 from by repeat (first | (with_reducible first | exact HI0.out | apply IsS79.alloc | apply IsS79.drewN | apply IsS79.drew | apply IsS79.set_1) | exact HI0.out)) (upR HO_5) (by decide)) hk (fun _ h => h.2)) (fun _ h => h.1)); have n1_ := Q0_ (KeepBut.trans (by repeat (first | (with_reducible first | exact HK.out | apply KeepBut.set_ | apply keep_drewN | apply keep_drew | apply keep_alloc) | exact HK.out)) hk (.inl rfl)); have n2_ := Q0_ (hb); have n3_ := Q0_ (hi); clear HO_5 HK HB HI0; revert n0_ n1_ n2_ n3_; intro HO_5 HK HB HI0; (try clear hb); (try clear hb2); (try clear hk); (try clear hi)))
    go_ret
    exact ⟨_, by first | rfl | (simp [errW_none, errW_some] <;> rfl) | (simp [*, errW_none, errW_some] <;> rfl), by (with_reducible repeat (first | apply Kd.R_alloc | apply Kd.R_drewN | apply Kd.R_drew)); exact HO_5.out, by repeat (first | (with_reducible first | exact HI0.out | apply IsS79.alloc | apply IsS79.drewN | apply IsS79.drew | apply IsS79.set_1) | exact HI0.out), by repeat (first | (with_reducible first | exact HB.out | apply below_alloc | apply pw_below_drewN | apply below_drew1 | refine below_set ?_ (IsS79.ge HI0.out)) | exact HB.out), by repeat (first | (with_reducible first | exact HK.out | apply KeepBut.set_ | apply keep_drewN | apply keep_drew | apply keep_alloc) | exact HK.out)⟩
   rw [if_pos c41] at H
   have c41b0 : (t391 == 1) = true := beq_iff_eq.mpr c41
   have c41b1 : (t391 != 1) = false := bne_eq_false_iff_eq.mpr c41
   clear c41
   obtain ⟨ji42, hji42⟩ : ∃ j_ : Int, (wrap64 (t374 - 1)) = j_ := ⟨_, rfl⟩
   replace H : (if 0 ≤ (ji42) then (if (ji42) < (x5_1.length : Int) then (some ((x5_1.set ((ji42) : Int).toNat (⟨(rd_T36 x5_1 (ji42)).f0, true⟩ : S36)), t392)) else (none)) else (none)) = some (r1, r2) := by first | (rw [hji42] at H; exact H) | (simp only [hji42] at H ⊢; exact H)
   (try rw [hji42] at A27)
   have hji42w : (IntKind.i64.wrap (t374 - 1)) = ji42 := (i64_w _).trans hji42
   by_cases c43 : 0 ≤ (ji42)
   rotate_left
   ·rw [if_neg c43] at H
    exact absurd H (by simp)
   rw [if_pos c43] at H
   have c43b0 : decide (0 ≤ (ji42)) = true := decide_eq_true c43
   clear c43
   by_cases c44 : (ji42) < (x5_1.length : Int)
   rotate_left
   ·rw [if_neg c44] at H
    exact absurd H (by simp)
   rw [if_pos c44] at H
   have c44b0 : decide ((ji42) < (x5_1.length : Int)) = true := decide_eq_true c44
   clear c44
   obtain ⟨y400, hy400⟩ : ∃ y_ : List (S36), y_ = (x5_1.set ((ji42) : Int).toNat (⟨(rd_T36 x5_1 (ji42)).f0, true⟩ : S36)) := ⟨_, rfl⟩
   replace H : (some (y400, t392)) = some (r1, r2) := by first | (rw [hy400]; with_reducible exact H) | (have H2_ := (Option.bind_some _ _).symm.trans H; rw [hy400]; with_reducible exact H2_) | (have H2_ := (Option.bind_some _ _).symm.trans H; with_reducible exact H2_) | with_reducible exact H | (rw [hy400]; exact H) | exact H
   have Ny400 := Aside0.mk hy400
   clear hy400
   simp only [Option.some.injEq, Prod.mk.injEq] at H
   obtain ⟨rfl, rfl⟩ := H
   go_wp2_with (first | ((with_reducible refine gate_callee (f := 51) rfl ?_); refine goesL_ (some 45) rfl rfl Try.func51 (by kernel_rfl) rfl #[.pointer (some ⟨g, 0, none⟩), .int .i64 50] rfl hM ?_; (with_reducible refine (spec_l6Rd_pick.calls k1 g s0_0 x1001_1 50 t391 t392 w0 _ ?side1 ?side2 A27.out).mono ?_); (case side1 => repeat (first | (with_reducible first | exact HI0.out | apply IsS79.alloc | apply IsS79.drewN | apply IsS79.drew | apply IsS79.set_1) | exact HI0.out)); (case side2 => repeat (first | (with_reducible first | exact HB.out | apply below_alloc | apply pw_below_drewN | apply below_drew1 | refine below_set ?_ (IsS79.ge HI0.out)) | exact HB.out)); rintro e w46 ⟨rfl, hi, hb, hk⟩; refine ⟨_, rfl, ?_⟩; have n0_ := Q0_ (Kd.R_mono (Kd.R_keep (IsS79.apart (show IsS79 w0 _ g s0_0 x1001_1 from by repeat (first | (with_reducible first | exact HI0.out | apply IsS79.alloc | apply IsS79.drewN | apply IsS79.drew | apply IsS79.set_1) | exact HI0.out)) (upR HO_5) (by decide)) hk (fun _ h => h.2)) (fun _ h => h.1)); have n1_ := Q0_ (KeepBut.trans (by repeat (first | (with_reducible first | exact HK.out | apply KeepBut.set_ | apply keep_drewN | apply keep_drew | apply keep_alloc) | exact HK.out)) hk (.inl rfl)); have n2_ := Q0_ (hb); have n3_ := Q0_ (hi); clear HO_5 HK HB HI0; revert n0_ n1_ n2_ n3_; intro HO_5 HK HB HI0; (try clear hb); (try clear hb2); (try clear hk); (try clear hi); have p45 : 0 ≤ ((ji42) : Int) := of_decide_eq_true aS; have q45 : ((ji42) : Int) < ((x5_1.length : Int) : Int) := of_decide_eq_true aS; obtain ⟨go45, co45, eo45, gb45, gl45, cl45, HG45⟩ := Kd.R_form HO_5.out (by omega); (first | cases eo45 | (injection eo45 with ea_ en_ ec_; (first | subst ea_ | (injection ea_ with ea_; subst ea_)); subst ec_; clear en_)); have GB45 := Aside0.mk gb45; have GG45 := Aside0.mk HG45; clear gb45 gl45 HG45; obtain ⟨ce45, hcl45, hM45, hcc45, hfr45⟩ := Kd.R_elem HO_5.out z36 ((ji42) : Int) p45 q45; obtain rfl := k36_openM hM45; have hx45_0 : w46.cell? ⟨go45, ((ji42) : Int).toNat * 2, none⟩ = some (.int .i64 ((rd_T36 x5_1 (ji42)).f0)) := hcc45 0 _ rfl; have hx45_1 : w46.cell? ⟨go45, ((ji42) : Int).toNat * 2 + 1, none⟩ = some (.bool ((rd_T36 x5_1 (ji42)).f1)) := hcc45 1 _ rfl; have hf45_0 : w46.frozen? ⟨go45, ((ji42) : Int).toNat * 2, none⟩ = false := hfr45 0; have hf45_1 : w46.frozen? ⟨go45, ((ji42) : Int).toNat * 2 + 1, none⟩ = false := hfr45 1; (try clear hM45); clear hcl45 hcc45 hfr45; replace p45 := eq_true p45; replace q45 := eq_true q45; have HX47 := Q0_ (show Kd.R k36 36 w46 w.heap.size (fun _ => True) (.slice (some ⟨go45, 0, none⟩) x5_1.length co45) x5_1 from (upR HO_5)); obtain ⟨ce47, hcl47, hM47, hcc47, hfr47⟩ := Kd.R_elem HX47.out z36 ((ji42) : Int) (of_decide_eq_true aS) (by have h_ : ((ji42) : Int) < ((x5_1.length : Int) : Int) := of_decide_eq_true aS; first | exact h_ | (have e_ := (Kd.R_reads' HO_5.out).1; omega) | simpa using h_); obtain rfl := k36_openM hM47; have HP47 := Kd.R_seg HX47.out ((ji42) : Int) (of_decide_eq_true aS) (by have h_ : ((ji42) : Int) < ((x5_1.length : Int) : Int) := of_decide_eq_true aS; first | exact h_ | (have e_ := (Kd.R_reads' HO_5.out).1; omega) | simpa using h_) (seg := [.bool true]) (j := 1) hcl47 hcc47 (show 2 ≤ 2 from by decide) (x' := (⟨(rd_T36 x5_1 (ji42)).f0, true⟩ : S36)) (k36_mkM _ _ _ (⟨(rd_T36 x5_1 (ji42)).f0, true⟩ : S36) ) (fun _ hk => hk); have hx47_1 := hcc47 1 _ rfl; (try simp only [show (k36).sz = 2 from rfl, Nat.mul_one, Nat.add_zero] at hx47_1); have hf47_1 := hfr47 1; (try simp only [show (k36).sz = 2 from rfl, Nat.mul_one, Nat.add_zero] at hf47_1); (try clear hM47); clear hcl47 hcc47 hfr47) | ((with_reducible refine gate_store (t := 4) (p := 62) rfl ?_); refine store_event (t := 4) (p := 62) (v := ?vo_w48) (w1 := (w46.setCell ⟨go45, ((ji42) : Int).toNat * 2 + 1, none⟩ (.bool true))) ?hg ?ho ?hn ?hr ?_; (case ho => rfl); (case hg => rfl); (case hn => rfl); (case hr => first | (go_simp; done) | (go_simp; rfl)); intro w48 hw; have hg : w46.grownBy w48 (some go45) := (by rw [hw]; exact HP47.2); have hp_ : Kd.R k36 36 w48 w.heap.size (fun _ => True) (.slice (some ⟨go45, 0, none⟩) x5_1.length co45) y400 := (by rw [hw, Ny400.out]; exact HP47.1); clear HP47; have n0_ := Q0_ (hp_); have n1_ := Q0_ (IsS79.grown (by repeat (first | (with_reducible first | exact HI0.out | apply IsS79.alloc | apply IsS79.drewN | apply IsS79.drew | apply IsS79.set_1) | exact HI0.out)) hg (IsS79.own_ne HI0.out HO_5.out (by decide))); have n2_ := Q0_ ((by rw [hw]; exact below_set (HB.out) (Nat.le_trans HL.out GB45.out) : Below w0.heap.size w0 w48)); have n3_ := Q0_ (KeepBut.trans (by repeat (first | (with_reducible first | exact HK.out | apply KeepBut.set_ | apply keep_drewN | apply keep_drew | apply keep_alloc) | exact HK.out)) (KeepBut.of_grown hg g) (Kd.R_base2 HO_5.out)); clear HO_5 HI0 HB HK; revert n0_ n1_ n2_ n3_; intro HO_5 HI0 HB HK; clear hg hw hp_))
   go_ret
   exact ⟨_, by first | rfl | (simp [errW_none, errW_some] <;> rfl) | (simp only [← hji42]; first | rfl | (simp [errW_none, errW_some] <;> rfl)) | (simp [*, errW_none, errW_some] <;> rfl), by (with_reducible repeat (first | apply Kd.R_alloc | apply Kd.R_drewN | apply Kd.R_drew)); exact HO_5.out, by repeat (first | (with_reducible first | exact HI0.out | apply IsS79.alloc | apply IsS79.drewN | apply IsS79.drew | apply IsS79.set_1) | exact HI0.out), by repeat (first | (with_reducible first | exact HB.out | apply below_alloc | apply pw_below_drewN | apply below_drew1 | refine below_set ?_ (IsS79.ge HI0.out)) | exact HB.out), by repeat (first | (with_reducible first | exact HK.out | apply KeepBut.set_ | apply keep_drewN | apply keep_drew | apply keep_alloc) | exact HK.out)⟩
end Go.Proofs.Ythpeiboobnnfgaa.E
end
