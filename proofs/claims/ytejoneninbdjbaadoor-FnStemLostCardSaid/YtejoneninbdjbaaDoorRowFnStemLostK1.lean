/- Texts of this claim, joined by a program of this session's (wip/tools/pack.py). -/
import Derived.Test.YtejoneninbdjbaaDoorRowFnStemLostK0
section
namespace Go.Proofs.YtejoneninbdjbaaDoor.E
open Go.RowKit Go.Proofs.YtejoneninbdjbaaDoorW.PrintWords Go.Proofs.YtejoneninbdjbaaDoorW.PrintLast Go.Proofs.YtejoneninbdjbaaDoorW.PrintMore
attribute [local go_sem] max2_int min2_int max_two min_two max_three min_three max_four min_four
set_option linter.unusedVariables false
set_option linter.unusedSimpArgs false
attribute [local go_sem] str_leq_ str_gtr_ str_geq_
def impl_BooksFar.f (k : Nat) (l0 : List ByteArray) (a1 : Int) (a2 : Int) : Option (Int) := (impl_BooksValid.f k l0).bind fun t148 => (if t148 = true then (if (mn a1 a2) < 0 then (some (-1)) else (if (mx a1 a2) ≥ (l0.length : Int) then (some (-1)) else (if 0 ≤ a1 then (if a1 < (l0.length : Int) then (if 0 ≤ a2 then (if a2 < (l0.length : Int) then ((impl_farBetween.f k (rdOf ByteArray.empty l0 a1) (rdOf ByteArray.empty l0 a2)).bind fun t151 => (some t151)) else (none)) else (none)) else (none)) else (none)))) else (some (-1)))
set_option maxHeartbeats 8000000 in
set_option maxRecDepth 100000 in
theorem impl_BooksFar.calls (k : Nat) (A0 : Option Addr) (c0 : Nat) (l0 : List ByteArray) (a1 : Int) (a2 : Int) (r : Int) (w : World) (hr0 : Kd.C Kd.string w A0 l0.length l0) (hc0 : l0.length ≤ c0) (h : impl_BooksFar.f k l0 a1 a2 = some r) :
  Calls Tryd.prog 27 #[.slice A0 l0.length c0, .int .i64 a1, .int .i64 a2] w fun e w' => e = .returned (.int .i64 r) ∧ Below w.heap.size w w' := by
 have HR0 := Aside0.mk hr0
 have HC0 := Aside0.mk hc0
 clear hr0 hc0
 have HB := Aside0.mk (Below.refl w.heap.size w)
 have H : ((impl_BooksValid.f k l0).bind fun t148 => (if t148 = true then (if (mn a1 a2) < 0 then (some (-1)) else (if (mx a1 a2) ≥ (l0.length : Int) then (some (-1)) else (if 0 ≤ a1 then (if a1 < (l0.length : Int) then (if 0 ≤ a2 then (if a2 < (l0.length : Int) then ((impl_farBetween.f k (rdOf ByteArray.empty l0 a1) (rdOf ByteArray.empty l0 a2)).bind fun t151 => (some t151)) else (none)) else (none)) else (none)) else (none)))) else (some (-1)))) = some r := h
 clear h
 replace H := Option.bind_eq_some_iff.mp H
 obtain ⟨t148, A40, H⟩ := H
 replace H : (if t148 = true then (if (mn a1 a2) < 0 then (some (-1)) else (if (mx a1 a2) ≥ (l0.length : Int) then (some (-1)) else (if 0 ≤ a1 then (if a1 < (l0.length : Int) then (if 0 ≤ a2 then (if a2 < (l0.length : Int) then ((impl_farBetween.f k (rdOf ByteArray.empty l0 a1) (rdOf ByteArray.empty l0 a2)).bind fun t151 => (some t151)) else (none)) else (none)) else (none)) else (none)))) else (some (-1))) = some r := H
 have A4 := Aside0.mk A40
 clear A40
 by_cases c5 : t148 = true
 rotate_left
 ·replace c5 := Bool.eq_false_iff.mpr c5
  subst c5
  have H1 : (some (-1)) = some r := by rw [if_neg (show ¬ (false = true) by decide)] at H; exact H
  clear H
  have H := H1
  clear H1
  obtain rfl := Option.some.inj H
  go_enter Tryd.func27, Tryd.ntmps27
  go_wp2_with (first | (go_at_call 24; (with_reducible refine (impl_BooksValid.calls k _ _ l0 false _ ?side1 ?side2 A4.out).mono ?_); (case side1 => repeat (first | exact HR0.out | (with_reducible refine Kd.C_alloc ?_ _) | (with_reducible refine Kd.C_drewN ?_ _) | (with_reducible refine Kd.C_drew ?_))); (case side2 => exact HC0.out); rintro e w18 ⟨rfl, hb⟩; have n0_ := Aside0.mk (below_step (by repeat (first | (with_reducible first | exact HB.out | apply below_alloc | apply pw_below_drewN | apply below_drew1) | exact HB.out)) hb); clear HB; have HB := n0_; clear n0_; (try clear hb); (try clear hb2); (try clear hk); (try clear hi)))
  repeat (go_quiet (first | (go_at_call 24; (with_reducible refine (impl_BooksValid.calls k _ _ l0 false _ ?side1 ?side2 A4.out).mono ?_); (case side1 => repeat (first | exact HR0.out | (with_reducible refine Kd.C_alloc ?_ _) | (with_reducible refine Kd.C_drewN ?_ _) | (with_reducible refine Kd.C_drew ?_))); (case side2 => exact HC0.out); rintro e w18 ⟨rfl, hb⟩; have n0_ := Aside0.mk (below_step (by repeat (first | (with_reducible first | exact HB.out | apply below_alloc | apply pw_below_drewN | apply below_drew1) | exact HB.out)) hb); clear HB; have HB := n0_; clear n0_; (try clear hb); (try clear hb2); (try clear hk); (try clear hi))); try go_wp2_with (first | (go_at_call 24; (with_reducible refine (impl_BooksValid.calls k _ _ l0 false _ ?side1 ?side2 A4.out).mono ?_); (case side1 => repeat (first | exact HR0.out | (with_reducible refine Kd.C_alloc ?_ _) | (with_reducible refine Kd.C_drewN ?_ _) | (with_reducible refine Kd.C_drew ?_))); (case side2 => exact HC0.out); rintro e w18 ⟨rfl, hb⟩; have n0_ := Aside0.mk (below_step (by repeat (first | (with_reducible first | exact HB.out | apply below_alloc | apply pw_below_drewN | apply below_drew1) | exact HB.out)) hb); clear HB; have HB := n0_; clear n0_; (try clear hb); (try clear hb2); (try clear hk); (try clear hi))))
  go_ret
  exact ⟨by first | rfl | (simp [errW_none, errW_some] <;> rfl) | (simp [*, errW_none, errW_some] <;> rfl), by repeat (first | (with_reducible first | exact HB.out | apply below_alloc | apply pw_below_drewN | apply below_drew1) | exact HB.out)⟩
 subst c5
 have H1 : (if (mn a1 a2) < 0 then (some (-1)) else (if (mx a1 a2) ≥ (l0.length : Int) then (some (-1)) else (if 0 ≤ a1 then (if a1 < (l0.length : Int) then (if 0 ≤ a2 then (if a2 < (l0.length : Int) then ((impl_farBetween.f k (rdOf ByteArray.empty l0 a1) (rdOf ByteArray.empty l0 a2)).bind fun t151 => (some t151)) else (none)) else (none)) else (none)) else (none)))) = some r := by rw [if_pos rfl] at H; exact H
 clear H
 have H := H1
 clear H1
 obtain ⟨ji6, hji6⟩ : ∃ j_ : Int, (mn a1 a2) = j_ := ⟨_, rfl⟩
 replace H : (if (ji6) < 0 then (some (-1)) else (if (mx a1 a2) ≥ (l0.length : Int) then (some (-1)) else (if 0 ≤ a1 then (if a1 < (l0.length : Int) then (if 0 ≤ a2 then (if a2 < (l0.length : Int) then ((impl_farBetween.f k (rdOf ByteArray.empty l0 a1) (rdOf ByteArray.empty l0 a2)).bind fun t151 => (some t151)) else (none)) else (none)) else (none)) else (none)))) = some r := by first | (rw [hji6] at H; exact H) | (simp only [hji6] at H ⊢; exact H)
 (try rw [hji6] at A4)
 have hji6_ : (if a2 < a1 then a2 else a1) = ji6 := hji6
 by_cases c7 : (ji6) < 0
 ·rw [if_pos c7] at H
  have c7b0 : decide ((ji6) < 0) = true := decide_eq_true c7
  clear c7
  obtain rfl := Option.some.inj H
  go_enter Tryd.func27, Tryd.ntmps27
  go_wp2_with (first | (go_at_call 24; (with_reducible refine (impl_BooksValid.calls k _ _ l0 true _ ?side1 ?side2 A4.out).mono ?_); (case side1 => repeat (first | exact HR0.out | (with_reducible refine Kd.C_alloc ?_ _) | (with_reducible refine Kd.C_drewN ?_ _) | (with_reducible refine Kd.C_drew ?_))); (case side2 => exact HC0.out); rintro e w8 ⟨rfl, hb⟩; have n0_ := Aside0.mk (below_step (by repeat (first | (with_reducible first | exact HB.out | apply below_alloc | apply pw_below_drewN | apply below_drew1) | exact HB.out)) hb); clear HB; have HB := n0_; clear n0_; (try clear hb); (try clear hb2); (try clear hk); (try clear hi)))
  repeat (go_quiet (first | (go_at_call 24; (with_reducible refine (impl_BooksValid.calls k _ _ l0 true _ ?side1 ?side2 A4.out).mono ?_); (case side1 => repeat (first | exact HR0.out | (with_reducible refine Kd.C_alloc ?_ _) | (with_reducible refine Kd.C_drewN ?_ _) | (with_reducible refine Kd.C_drew ?_))); (case side2 => exact HC0.out); rintro e w8 ⟨rfl, hb⟩; have n0_ := Aside0.mk (below_step (by repeat (first | (with_reducible first | exact HB.out | apply below_alloc | apply pw_below_drewN | apply below_drew1) | exact HB.out)) hb); clear HB; have HB := n0_; clear n0_; (try clear hb); (try clear hb2); (try clear hk); (try clear hi))); try go_wp2_with (first | (go_at_call 24; (with_reducible refine (impl_BooksValid.calls k _ _ l0 true _ ?side1 ?side2 A4.out).mono ?_); (case side1 => repeat (first | exact HR0.out | (with_reducible refine Kd.C_alloc ?_ _) | (with_reducible refine Kd.C_drewN ?_ _) | (with_reducible refine Kd.C_drew ?_))); (case side2 => exact HC0.out); rintro e w8 ⟨rfl, hb⟩; have n0_ := Aside0.mk (below_step (by repeat (first | (with_reducible first | exact HB.out | apply below_alloc | apply pw_below_drewN | apply below_drew1) | exact HB.out)) hb); clear HB; have HB := n0_; clear n0_; (try clear hb); (try clear hb2); (try clear hk); (try clear hi))))
  go_ret
  exact ⟨by first | rfl | (simp [errW_none, errW_some] <;> rfl) | (simp only [← hji6]; first | rfl | (simp [errW_none, errW_some] <;> rfl)) | (simp [*, errW_none, errW_some] <;> rfl), by repeat (first | (with_reducible first | exact HB.out | apply below_alloc | apply pw_below_drewN | apply below_drew1) | exact HB.out)⟩
 rw [if_neg c7] at H
 have c7b0 : decide ((ji6) < 0) = false := decide_eq_false c7
 clear c7
 obtain ⟨ji9, hji9⟩ : ∃ j_ : Int, (mx a1 a2) = j_ := ⟨_, rfl⟩
 replace H : (if (ji9) ≥ (l0.length : Int) then (some (-1)) else (if 0 ≤ a1 then (if a1 < (l0.length : Int) then (if 0 ≤ a2 then (if a2 < (l0.length : Int) then ((impl_farBetween.f k (rdOf ByteArray.empty l0 a1) (rdOf ByteArray.empty l0 a2)).bind fun t151 => (some t151)) else (none)) else (none)) else (none)) else (none))) = some r := by first | (rw [hji9] at H; exact H) | (simp only [hji9] at H ⊢; exact H)
 (try rw [hji9] at A4)
 have hji9_ : (if a1 < a2 then a2 else a1) = ji9 := hji9
 by_cases c10 : (ji9) ≥ (l0.length : Int)
 ·rw [if_pos c10] at H
  have c10b0 : decide ((l0.length : Int) ≤ (ji9)) = true := decide_eq_true c10
  clear c10
  obtain rfl := Option.some.inj H
  go_enter Tryd.func27, Tryd.ntmps27
  go_wp2_with (first | (go_at_call 24; (with_reducible refine (impl_BooksValid.calls k _ _ l0 true _ ?side1 ?side2 A4.out).mono ?_); (case side1 => repeat (first | exact HR0.out | (with_reducible refine Kd.C_alloc ?_ _) | (with_reducible refine Kd.C_drewN ?_ _) | (with_reducible refine Kd.C_drew ?_))); (case side2 => exact HC0.out); rintro e w11 ⟨rfl, hb⟩; have n0_ := Aside0.mk (below_step (by repeat (first | (with_reducible first | exact HB.out | apply below_alloc | apply pw_below_drewN | apply below_drew1) | exact HB.out)) hb); clear HB; have HB := n0_; clear n0_; (try clear hb); (try clear hb2); (try clear hk); (try clear hi)))
  repeat (go_quiet (first | (go_at_call 24; (with_reducible refine (impl_BooksValid.calls k _ _ l0 true _ ?side1 ?side2 A4.out).mono ?_); (case side1 => repeat (first | exact HR0.out | (with_reducible refine Kd.C_alloc ?_ _) | (with_reducible refine Kd.C_drewN ?_ _) | (with_reducible refine Kd.C_drew ?_))); (case side2 => exact HC0.out); rintro e w11 ⟨rfl, hb⟩; have n0_ := Aside0.mk (below_step (by repeat (first | (with_reducible first | exact HB.out | apply below_alloc | apply pw_below_drewN | apply below_drew1) | exact HB.out)) hb); clear HB; have HB := n0_; clear n0_; (try clear hb); (try clear hb2); (try clear hk); (try clear hi))); try go_wp2_with (first | (go_at_call 24; (with_reducible refine (impl_BooksValid.calls k _ _ l0 true _ ?side1 ?side2 A4.out).mono ?_); (case side1 => repeat (first | exact HR0.out | (with_reducible refine Kd.C_alloc ?_ _) | (with_reducible refine Kd.C_drewN ?_ _) | (with_reducible refine Kd.C_drew ?_))); (case side2 => exact HC0.out); rintro e w11 ⟨rfl, hb⟩; have n0_ := Aside0.mk (below_step (by repeat (first | (with_reducible first | exact HB.out | apply below_alloc | apply pw_below_drewN | apply below_drew1) | exact HB.out)) hb); clear HB; have HB := n0_; clear n0_; (try clear hb); (try clear hb2); (try clear hk); (try clear hi))))
  go_ret
  exact ⟨by first | rfl | (simp [errW_none, errW_some] <;> rfl) | (simp only [← hji6, ← hji9]; first | rfl | (simp [errW_none, errW_some] <;> rfl)) | (simp [*, errW_none, errW_some] <;> rfl), by repeat (first | (with_reducible first | exact HB.out | apply below_alloc | apply pw_below_drewN | apply below_drew1) | exact HB.out)⟩
 rw [if_neg c10] at H
 have c10b0 : decide ((l0.length : Int) ≤ (ji9)) = false := decide_eq_false c10
 clear c10
 by_cases c12 : 0 ≤ a1
 rotate_left
 ·rw [if_neg c12] at H
  exact absurd H (by simp)
 rw [if_pos c12] at H
 have c12b0 : decide (0 ≤ a1) = true := decide_eq_true c12
 clear c12
 by_cases c13 : a1 < (l0.length : Int)
 rotate_left
 ·rw [if_neg c13] at H
  exact absurd H (by simp)
 rw [if_pos c13] at H
 have c13b0 : decide (a1 < (l0.length : Int)) = true := decide_eq_true c13
 clear c13
 by_cases c14 : 0 ≤ a2
 rotate_left
 ·rw [if_neg c14] at H
  exact absurd H (by simp)
 rw [if_pos c14] at H
 have c14b0 : decide (0 ≤ a2) = true := decide_eq_true c14
 clear c14
 by_cases c15 : a2 < (l0.length : Int)
 rotate_left
 ·rw [if_neg c15] at H
  exact absurd H (by simp)
 rw [if_pos c15] at H
 have c15b0 : decide (a2 < (l0.length : Int)) = true := decide_eq_true c15
 clear c15
 replace H := Option.bind_eq_some_iff.mp H
 obtain ⟨t151, A160, H⟩ := H
 replace H : (some t151) = some r := H
 have A16 := Aside0.mk A160
 clear A160
 obtain rfl := Option.some.inj H
 go_enter Tryd.func27, Tryd.ntmps27
 go_wp2_with (first | (go_at_call 24; (with_reducible refine (impl_BooksValid.calls k _ _ l0 true _ ?side1 ?side2 A4.out).mono ?_); (case side1 => repeat (first | exact HR0.out | (with_reducible refine Kd.C_alloc ?_ _) | (with_reducible refine Kd.C_drewN ?_ _) | (with_reducible refine Kd.C_drew ?_))); (case side2 => exact HC0.out); rintro e w17 ⟨rfl, hb⟩; have n0_ := Aside0.mk (below_step (by repeat (first | (with_reducible first | exact HB.out | apply below_alloc | apply pw_below_drewN | apply below_drew1) | exact HB.out)) hb); clear HB; have HB := n0_; clear n0_; (try clear hb); (try clear hb2); (try clear hk); (try clear hi); have p149 : 0 ≤ (a1 : Int) := of_decide_eq_true (by first | (with_reducible assumption) | assumption); have q149 : a1 < (l0.length : Int) := of_decide_eq_true (by first | (with_reducible assumption) | assumption); obtain ⟨ad149, e149, hx149_0⟩ := Kd.at_string HR0.out a1 p149 q149; cases e149; replace hx149_0 := (HB.out.cell (World.block_lt_of_cell? w _ hx149_0)).trans hx149_0; replace p149 := eq_true p149; replace q149 := eq_true q149; have p150 : 0 ≤ (a2 : Int) := of_decide_eq_true (by first | (with_reducible assumption) | assumption); have q150 : a2 < (l0.length : Int) := of_decide_eq_true (by first | (with_reducible assumption) | assumption); obtain ⟨ad150, e150, hx150_0⟩ := Kd.at_string HR0.out a2 p150 q150; obtain rfl : ad149 = ad150 := (by injection e150); replace hx150_0 := (HB.out.cell (World.block_lt_of_cell? w _ hx150_0)).trans hx150_0; replace p150 := eq_true p150; replace q150 := eq_true q150) | (go_at_call 64; (with_reducible refine (impl_farBetween.calls k (rdOf ByteArray.empty l0 a1) (rdOf ByteArray.empty l0 a2) t151 _ A16.out).mono ?_); rintro e w' ⟨rfl, ⟨nd, rfl⟩⟩; (try first | exact ⟨rfl, _, World.drewN_drewN _ _ _⟩ | exact ⟨rfl, _, Eq.trans (World.drewN_drewN _ _ _) (congrArg (World.drewN _) (Nat.add_assoc _ _ _))⟩)))
 repeat (go_quiet (first | (go_at_call 24; (with_reducible refine (impl_BooksValid.calls k _ _ l0 true _ ?side1 ?side2 A4.out).mono ?_); (case side1 => repeat (first | exact HR0.out | (with_reducible refine Kd.C_alloc ?_ _) | (with_reducible refine Kd.C_drewN ?_ _) | (with_reducible refine Kd.C_drew ?_))); (case side2 => exact HC0.out); rintro e w17 ⟨rfl, hb⟩; have n0_ := Aside0.mk (below_step (by repeat (first | (with_reducible first | exact HB.out | apply below_alloc | apply pw_below_drewN | apply below_drew1) | exact HB.out)) hb); clear HB; have HB := n0_; clear n0_; (try clear hb); (try clear hb2); (try clear hk); (try clear hi); have p149 : 0 ≤ (a1 : Int) := of_decide_eq_true (by first | (with_reducible assumption) | assumption); have q149 : a1 < (l0.length : Int) := of_decide_eq_true (by first | (with_reducible assumption) | assumption); obtain ⟨ad149, e149, hx149_0⟩ := Kd.at_string HR0.out a1 p149 q149; cases e149; replace hx149_0 := (HB.out.cell (World.block_lt_of_cell? w _ hx149_0)).trans hx149_0; replace p149 := eq_true p149; replace q149 := eq_true q149; have p150 : 0 ≤ (a2 : Int) := of_decide_eq_true (by first | (with_reducible assumption) | assumption); have q150 : a2 < (l0.length : Int) := of_decide_eq_true (by first | (with_reducible assumption) | assumption); obtain ⟨ad150, e150, hx150_0⟩ := Kd.at_string HR0.out a2 p150 q150; obtain rfl : ad149 = ad150 := (by injection e150); replace hx150_0 := (HB.out.cell (World.block_lt_of_cell? w _ hx150_0)).trans hx150_0; replace p150 := eq_true p150; replace q150 := eq_true q150) | (go_at_call 64; (with_reducible refine (impl_farBetween.calls k (rdOf ByteArray.empty l0 a1) (rdOf ByteArray.empty l0 a2) t151 _ A16.out).mono ?_); rintro e w' ⟨rfl, ⟨nd, rfl⟩⟩; (try first | exact ⟨rfl, _, World.drewN_drewN _ _ _⟩ | exact ⟨rfl, _, Eq.trans (World.drewN_drewN _ _ _) (congrArg (World.drewN _) (Nat.add_assoc _ _ _))⟩))); try go_wp2_with (first | (go_at_call 24; (with_reducible refine (impl_BooksValid.calls k _ _ l0 true _ ?side1 ?side2 A4.out).mono ?_); (case side1 => repeat (first | exact HR0.out | (with_reducible refine Kd.C_alloc ?_ _) | (with_reducible refine Kd.C_drewN ?_ _) | (with_reducible refine Kd.C_drew ?_))); (case side2 => exact HC0.out); rintro e w17 ⟨rfl, hb⟩; have n0_ := Aside0.mk (below_step (by repeat (first | (with_reducible first | exact HB.out | apply below_alloc | apply pw_below_drewN | apply below_drew1) | exact HB.out)) hb); clear HB; have HB := n0_; clear n0_; (try clear hb); (try clear hb2); (try clear hk); (try clear hi); have p149 : 0 ≤ (a1 : Int) := of_decide_eq_true (by first | (with_reducible assumption) | assumption); have q149 : a1 < (l0.length : Int) := of_decide_eq_true (by first | (with_reducible assumption) | assumption); obtain ⟨ad149, e149, hx149_0⟩ := Kd.at_string HR0.out a1 p149 q149; cases e149; replace hx149_0 := (HB.out.cell (World.block_lt_of_cell? w _ hx149_0)).trans hx149_0; replace p149 := eq_true p149; replace q149 := eq_true q149; have p150 : 0 ≤ (a2 : Int) := of_decide_eq_true (by first | (with_reducible assumption) | assumption); have q150 : a2 < (l0.length : Int) := of_decide_eq_true (by first | (with_reducible assumption) | assumption); obtain ⟨ad150, e150, hx150_0⟩ := Kd.at_string HR0.out a2 p150 q150; obtain rfl : ad149 = ad150 := (by injection e150); replace hx150_0 := (HB.out.cell (World.block_lt_of_cell? w _ hx150_0)).trans hx150_0; replace p150 := eq_true p150; replace q150 := eq_true q150) | (go_at_call 64; (with_reducible refine (impl_farBetween.calls k (rdOf ByteArray.empty l0 a1) (rdOf ByteArray.empty l0 a2) t151 _ A16.out).mono ?_); rintro e w' ⟨rfl, ⟨nd, rfl⟩⟩; (try first | exact ⟨rfl, _, World.drewN_drewN _ _ _⟩ | exact ⟨rfl, _, Eq.trans (World.drewN_drewN _ _ _) (congrArg (World.drewN _) (Nat.add_assoc _ _ _))⟩))))
 go_ret
 exact ⟨by first | rfl | (simp [errW_none, errW_some] <;> rfl) | (simp only [← hji6, ← hji9]; first | rfl | (simp [errW_none, errW_some] <;> rfl)) | (simp [*, errW_none, errW_some] <;> rfl), by repeat (first | (with_reducible first | exact HB.out | apply below_alloc | apply pw_below_drewN | apply below_drew1) | exact HB.out)⟩
end Go.Proofs.YtejoneninbdjbaaDoor.E
end
section
namespace Go.Proofs.YtejoneninbdjbaaDoor.E
open Go.RowKit Go.Proofs.YtejoneninbdjbaaDoorW.PrintWords Go.Proofs.YtejoneninbdjbaaDoorW.PrintLast Go.Proofs.YtejoneninbdjbaaDoorW.PrintMore
attribute [local go_sem] max2_int min2_int max_two min_two max_three min_three max_four min_four
set_option linter.unusedVariables false
set_option linter.unusedSimpArgs false
attribute [local go_sem] str_leq_ str_gtr_ str_geq_
def spec_l6In.f (a0 : Int) (a1 : Int) (a2 : Int) : Option (Bool) := if a0 ≥ a1 then (some (decide (a0 ≤ a2))) else (some false)
set_option maxHeartbeats 8000000 in
set_option maxRecDepth 100000 in
theorem spec_l6In.calls (a0 : Int) (a1 : Int) (a2 : Int) (r : Bool) (w : World) (h : spec_l6In.f a0 a1 a2 = some r) :
  Calls Tryd.prog 62 #[.int .i64 a0, .int .i64 a1, .int .i64 a2] w fun e w' => e = .returned (.bool r) ∧ Drawn0 w w' := by
 have H : (if a0 ≥ a1 then (some (decide (a0 ≤ a2))) else (some false)) = some r := h
 clear h
 by_cases c4 : a0 ≥ a1
 ·rw [if_pos c4] at H
  have c4b0 : decide (a1 ≤ a0) = true := decide_eq_true c4
  clear c4
  obtain rfl := Option.some.inj H
  go_enter Tryd.func62, Tryd.ntmps62
  go_wp2
  go_ret
  exact ⟨by first | rfl | (simp; done) | (simp [*]; done), by repeat (first | exact Drawn0.refl _ | apply Drawn0.step)⟩
 rw [if_neg c4] at H
 have c4b0 : decide (a1 ≤ a0) = false := decide_eq_false c4
 clear c4
 obtain rfl := Option.some.inj H
 go_enter Tryd.func62, Tryd.ntmps62
 go_wp2
 go_ret
 exact ⟨by first | rfl | (simp; done) | (simp [*]; done), by repeat (first | exact Drawn0.refl _ | apply Drawn0.step)⟩
end Go.Proofs.YtejoneninbdjbaaDoor.E
end
section
namespace Go.Proofs.YtejoneninbdjbaaDoor.E
open Go.RowKit Go.Proofs.YtejoneninbdjbaaDoorW.PrintWords Go.Proofs.YtejoneninbdjbaaDoorW.PrintLast Go.Proofs.YtejoneninbdjbaaDoorW.PrintMore
attribute [local go_sem] max2_int min2_int max_two min_two max_three min_three max_four min_four
set_option linter.unusedVariables false
set_option linter.unusedSimpArgs false
attribute [local go_sem] str_leq_ str_gtr_ str_geq_
def spec_l7Reading.l0 : Nat → ByteArray → Int → Option (Bool)
 | 0, _, _ => none
 | k + 1, x0, x3 => if x3 < (x0.size : Int) then (if 0 ≤ x3 then (if (bt x0 x3) < 97 then (some false) else (if (bt x0 x3) > 100 then (some false) else (spec_l7Reading.l0 k x0 (wrap64 (x3 + 1))))) else (none)) else (some true)
def spec_l7Reading.f (k : Nat) (a0 : ByteArray) : Option (Bool) := spec_l7Reading.l0 k a0 0
set_option maxHeartbeats 8000000 in
set_option maxRecDepth 100000 in
theorem spec_l7Reading.calls (k : Nat) (a0 : ByteArray) (r : Bool) (w : World) (h : spec_l7Reading.f k a0 = some r) :
  Calls Tryd.prog 77 #[.string a0] w fun e w' => e = .returned (.bool r) ∧ Drawn0 w w' := by
 have H : (spec_l7Reading.l0 k a0 0) = some r := h
 clear h
 have H' := Aside0.mk H
 clear H
 go_enter Tryd.func77, Tryd.ntmps77
 go_wp2
 go_loopg [3] k (fun kq v3 w' => ∃ (x3_1 : Int), v3 = .int .i64 x3_1 ∧ Aside0 (spec_l7Reading.l0 kq a0 x3_1 = some r) ∧ Aside0 (kq ≤ k) ∧ Drawn0 w w')
 case atStart => exact ⟨(0), (by first | rfl | (simp; done) | (simp [*]; done)), H', ⟨Nat.le_refl _⟩, by repeat (first | exact Drawn0.refl _ | apply Drawn0.step)⟩
 case round =>
  clear H'
  obtain ⟨x3_1, rfl, HA, HK1, ⟨m1, rfl⟩⟩ := hrel
  cases gk with
  | zero => exact absurd HA.out (by simp [spec_l7Reading.l0])
  | succ k1 =>
   have H := HA.out
   clear HA
   simp only [spec_l7Reading.l0] at H
   by_cases c2 : x3_1 < (a0.size : Int)
   rotate_left
   ·rw [if_neg c2] at H
    have c2b0 : decide (x3_1 < (a0.size : Int)) = false := decide_eq_false c2
    clear c2
    obtain rfl := Option.some.inj H
    go_wp2
    go_ret
    exact ⟨by first | rfl | (simp; done) | (simp [*]; done), by repeat (first | exact Drawn0.refl _ | apply Drawn0.step)⟩
   rw [if_pos c2] at H
   have c2b0 : decide (x3_1 < (a0.size : Int)) = true := decide_eq_true c2
   clear c2
   by_cases c3 : 0 ≤ x3_1
   rotate_left
   ·rw [if_neg c3] at H
    exact absurd H (by simp)
   rw [if_pos c3] at H
   have c3b0 : decide (0 ≤ x3_1) = true := decide_eq_true c3
   clear c3
   by_cases c5 : (bt a0 x3_1) < 97
   ·rw [if_pos c5] at H
    have c5b0 : decide ((bt a0 x3_1) < 97) = true := decide_eq_true c5
    clear c5
    obtain rfl := Option.some.inj H
    have p4 : 0 ≤ (x3_1 : Int) := of_decide_eq_true (by first | (with_reducible assumption) | assumption)
    have q4 : x3_1 < (a0.size : Int) := of_decide_eq_true (by first | (with_reducible assumption) | assumption)
    have hx4 := bt_at a0 x3_1
    replace p4 := eq_true p4
    replace q4 := eq_true q4
    go_wp2
    go_ret
    exact ⟨by first | rfl | (simp; done) | (simp [*]; done), by repeat (first | exact Drawn0.refl _ | apply Drawn0.step)⟩
   rw [if_neg c5] at H
   have c5b0 : decide ((bt a0 x3_1) < 97) = false := decide_eq_false c5
   clear c5
   by_cases c7 : (bt a0 x3_1) > 100
   ·rw [if_pos c7] at H
    have c7b0 : decide (100 < (bt a0 x3_1)) = true := decide_eq_true c7
    clear c7
    obtain rfl := Option.some.inj H
    have p4 : 0 ≤ (x3_1 : Int) := of_decide_eq_true (by first | (with_reducible assumption) | assumption)
    have q4 : x3_1 < (a0.size : Int) := of_decide_eq_true (by first | (with_reducible assumption) | assumption)
    have hx4 := bt_at a0 x3_1
    replace p4 := eq_true p4
    replace q4 := eq_true q4
    have p6 : 0 ≤ (x3_1 : Int) := of_decide_eq_true (by first | (with_reducible assumption) | assumption)
    have q6 : x3_1 < (a0.size : Int) := of_decide_eq_true (by first | (with_reducible assumption) | assumption)
    have hx6 := bt_at a0 x3_1
    replace p6 := eq_true p6
    replace q6 := eq_true q6
    go_wp2
    go_ret
    exact ⟨by first | rfl | (simp; done) | (simp [*]; done), by repeat (first | exact Drawn0.refl _ | apply Drawn0.step)⟩
   rw [if_neg c7] at H
   have c7b0 : decide (100 < (bt a0 x3_1)) = false := decide_eq_false c7
   clear c7
   have H' := Aside0.mk H
   clear H
   have p4 : 0 ≤ (x3_1 : Int) := of_decide_eq_true (by first | (with_reducible assumption) | assumption)
   have q4 : x3_1 < (a0.size : Int) := of_decide_eq_true (by first | (with_reducible assumption) | assumption)
   have hx4 := bt_at a0 x3_1
   replace p4 := eq_true p4
   replace q4 := eq_true q4
   have p6 : 0 ≤ (x3_1 : Int) := of_decide_eq_true (by first | (with_reducible assumption) | assumption)
   have q6 : x3_1 < (a0.size : Int) := of_decide_eq_true (by first | (with_reducible assumption) | assumption)
   have hx6 := bt_at a0 x3_1
   replace p6 := eq_true p6
   replace q6 := eq_true q6
   go_wp2
   go_roundg k1
   case measure => have := HK1.out; omega
   case rel => exact ⟨(wrap64 (x3_1 + 1)), (by first | rfl | (simp; done) | (simp [*]; done)), H', ⟨by have := HK1.out; omega⟩, by repeat (first | exact Drawn0.refl _ | apply Drawn0.step)⟩
end Go.Proofs.YtejoneninbdjbaaDoor.E
end
section
namespace Go.Proofs.YtejoneninbdjbaaDoor.E
open Go.RowKit Go.Proofs.YtejoneninbdjbaaDoorW.PrintWords Go.Proofs.YtejoneninbdjbaaDoorW.PrintLast Go.Proofs.YtejoneninbdjbaaDoorW.PrintMore
attribute [local go_sem] max2_int min2_int max_two min_two max_three min_three max_four min_four
set_option linter.unusedVariables false
set_option linter.unusedSimpArgs false
attribute [local go_sem] str_leq_ str_gtr_ str_geq_
def spec_l7Lost.l0 : Nat → ByteArray → Int → Option (Bool)
 | 0, _, _ => none
 | k + 1, x0, x3 => if x3 < (x0.size : Int) then (if 0 ≤ x3 then (if (bt x0 x3) = 63 then (spec_l7Lost.l0 k x0 (wrap64 (x3 + 1))) else (some false)) else (none)) else (some true)
def spec_l7Lost.f (k : Nat) (a0 : ByteArray) : Option (Bool) := spec_l7Lost.l0 k a0 0
set_option maxHeartbeats 8000000 in
set_option maxRecDepth 100000 in
theorem spec_l7Lost.calls (k : Nat) (a0 : ByteArray) (r : Bool) (w : World) (h : spec_l7Lost.f k a0 = some r) :
  Calls Tryd.prog 78 #[.string a0] w fun e w' => e = .returned (.bool r) ∧ Drawn0 w w' := by
 have H : (spec_l7Lost.l0 k a0 0) = some r := h
 clear h
 have H' := Aside0.mk H
 clear H
 go_enter Tryd.func78, Tryd.ntmps78
 go_wp2
 go_loopg [3] k (fun kq v3 w' => ∃ (x3_1 : Int), v3 = .int .i64 x3_1 ∧ Aside0 (spec_l7Lost.l0 kq a0 x3_1 = some r) ∧ Aside0 (kq ≤ k) ∧ Drawn0 w w')
 case atStart => exact ⟨(0), (by first | rfl | (simp; done) | (simp [*]; done)), H', ⟨Nat.le_refl _⟩, by repeat (first | exact Drawn0.refl _ | apply Drawn0.step)⟩
 case round =>
  clear H'
  obtain ⟨x3_1, rfl, HA, HK1, ⟨m1, rfl⟩⟩ := hrel
  cases gk with
  | zero => exact absurd HA.out (by simp [spec_l7Lost.l0])
  | succ k1 =>
   have H := HA.out
   clear HA
   simp only [spec_l7Lost.l0] at H
   by_cases c2 : x3_1 < (a0.size : Int)
   rotate_left
   ·rw [if_neg c2] at H
    have c2b0 : decide (x3_1 < (a0.size : Int)) = false := decide_eq_false c2
    clear c2
    obtain rfl := Option.some.inj H
    go_wp2
    go_ret
    exact ⟨by first | rfl | (simp; done) | (simp [*]; done), by repeat (first | exact Drawn0.refl _ | apply Drawn0.step)⟩
   rw [if_pos c2] at H
   have c2b0 : decide (x3_1 < (a0.size : Int)) = true := decide_eq_true c2
   clear c2
   by_cases c3 : 0 ≤ x3_1
   rotate_left
   ·rw [if_neg c3] at H
    exact absurd H (by simp)
   rw [if_pos c3] at H
   have c3b0 : decide (0 ≤ x3_1) = true := decide_eq_true c3
   clear c3
   by_cases c5 : (bt a0 x3_1) = 63
   rotate_left
   ·rw [if_neg c5] at H
    have c5b0 : ((bt a0 x3_1) == 63) = false := beq_eq_false_iff_ne.mpr c5
    have c5b1 : ((bt a0 x3_1) != 63) = true := bne_iff_ne.mpr c5
    obtain rfl := Option.some.inj H
    have p4 : 0 ≤ (x3_1 : Int) := of_decide_eq_true (by first | (with_reducible assumption) | assumption)
    have q4 : x3_1 < (a0.size : Int) := of_decide_eq_true (by first | (with_reducible assumption) | assumption)
    have hx4 := bt_at a0 x3_1
    replace p4 := eq_true p4
    replace q4 := eq_true q4
    go_wp2
    go_ret
    exact ⟨by first | rfl | (simp; done) | (simp [*]; done), by repeat (first | exact Drawn0.refl _ | apply Drawn0.step)⟩
   rw [if_pos c5] at H
   have c5b0 : ((bt a0 x3_1) == 63) = true := beq_iff_eq.mpr c5
   have c5b1 : ((bt a0 x3_1) != 63) = false := bne_eq_false_iff_eq.mpr c5
   clear c5
   have H' := Aside0.mk H
   clear H
   have p4 : 0 ≤ (x3_1 : Int) := of_decide_eq_true (by first | (with_reducible assumption) | assumption)
   have q4 : x3_1 < (a0.size : Int) := of_decide_eq_true (by first | (with_reducible assumption) | assumption)
   have hx4 := bt_at a0 x3_1
   replace p4 := eq_true p4
   replace q4 := eq_true q4
   go_wp2
   go_roundg k1
   case measure => have := HK1.out; omega
   case rel => exact ⟨(wrap64 (x3_1 + 1)), (by first | rfl | (simp; done) | (simp [*]; done)), H', ⟨by have := HK1.out; omega⟩, by repeat (first | exact Drawn0.refl _ | apply Drawn0.step)⟩
end Go.Proofs.YtejoneninbdjbaaDoor.E
end
section
namespace Go.Proofs.YtejoneninbdjbaaDoor.E
open Go.RowKit Go.Proofs.YtejoneninbdjbaaDoorW.PrintWords Go.Proofs.YtejoneninbdjbaaDoorW.PrintLast Go.Proofs.YtejoneninbdjbaaDoorW.PrintMore
attribute [local go_sem] max2_int min2_int max_two min_two max_three min_three max_four min_four
set_option linter.unusedVariables false
set_option linter.unusedSimpArgs false
attribute [local go_sem] str_leq_ str_gtr_ str_geq_
mutual
def spec_l7Books.j0 : Nat → List ByteArray → Int → Bool → Option (Int × Bool)
 | 0, _, _, _ => none
 | k + 1, x0, x4, x17 => if x17 = true then (some (0, false)) else (spec_l7Books.l0 k x0 x4 0)
def spec_l7Books.l0 : Nat → List ByteArray → Int → Int → Option (Int × Bool)
 | 0, _, _, _ => none
 | k + 1, x0, x4, x5 => if x5 < (x0.length : Int) then (if 0 ≤ x5 then (if 0 < (x0.length : Int) then (if ((rdOf ByteArray.empty x0 x5).size : Int) = ((rdOf ByteArray.empty x0 0).size : Int) then ((spec_l7Reading.f k (rdOf ByteArray.empty x0 x5)).bind fun t108 => (if t108 = true then (spec_l7Books.j2 k x0 x4 x5 false) else ((spec_l7Lost.f k (rdOf ByteArray.empty x0 x5)).bind fun t110 => (spec_l7Books.j2 k x0 x4 x5 (!t110))))) else (spec_l7Books.j2 k x0 x4 x5 true)) else (none)) else (none)) else (some (x4, true))
def spec_l7Books.j2 : Nat → List ByteArray → Int → Int → Bool → Option (Int × Bool)
 | 0, _, _, _, _ => none
 | k + 1, x0, x4, x5, x49 => if x49 = true then (some (0, false)) else (if 0 ≤ x5 then (if x5 < (x0.length : Int) then ((spec_l7Lost.f k (rdOf ByteArray.empty x0 x5)).bind fun t112 => (if t112 = true then (spec_l7Books.l0 k x0 (wrap64 (x4 + 1)) (wrap64 (x5 + 1))) else (spec_l7Books.l0 k x0 x4 (wrap64 (x5 + 1))))) else (none)) else (none))
end
def spec_l7Books.f (k : Nat) (l0 : List ByteArray) : Option (Int × Bool) := (spec_l6In.f (l0.length : Int) 1 6).bind fun t102 => (if t102 = true then (if 0 < (l0.length : Int) then ((spec_l6In.f ((rdOf ByteArray.empty l0 0).size : Int) 1 8).bind fun t104 => (spec_l7Books.j0 k l0 0 (!t104))) else (none)) else (spec_l7Books.j0 k l0 0 true))
set_option maxHeartbeats 8000000 in
set_option maxRecDepth 100000 in
theorem spec_l7Books.calls (k : Nat) (A0 : Option Addr) (c0 : Nat) (l0 : List ByteArray) (r1 : Int) (r2 : Bool) (w : World) (hr0 : Kd.C Kd.string w A0 l0.length l0) (hc0 : l0.length ≤ c0) (h : spec_l7Books.f k l0 = some (r1, r2)) :
  Calls Tryd.prog 60 #[.slice A0 l0.length c0] w fun e w' => e = .returned (.tuple #[.int .i64 r1, .bool r2]) ∧ Drawn0 w w' := by
 have HR0 := Aside0.mk hr0
 have HC0 := Aside0.mk hc0
 clear hr0 hc0
 have H : ((spec_l6In.f (l0.length : Int) 1 6).bind fun t102 => (if t102 = true then (if 0 < (l0.length : Int) then ((spec_l6In.f ((rdOf ByteArray.empty l0 0).size : Int) 1 8).bind fun t104 => (spec_l7Books.j0 k l0 0 (!t104))) else (none)) else (spec_l7Books.j0 k l0 0 true))) = some (r1, r2) := h
 clear h
 have HC2 := Aside0.mk H
 clear H
 go_enter Tryd.func60, Tryd.ntmps60
 go_upto_region 2 with (fail)
 repeat (go_quiet (fail); go_upto_region 2 with (fail))
 go_cut [17] (fun v17 wc => ∃ (kq : Nat) (x17_1 : Bool), v17 = .bool x17_1 ∧ Aside0 (spec_l7Books.j0 kq l0 0 x17_1 = some (r1, r2)) ∧ Aside0 (kq ≤ k) ∧ Drawn0 w wc)
 case first =>
  have H := HC2.out
  clear HC2
  replace H := Option.bind_eq_some_iff.mp H
  obtain ⟨t102, A30, H⟩ := H
  replace H : (if t102 = true then (if 0 < (l0.length : Int) then ((spec_l6In.f ((rdOf ByteArray.empty l0 0).size : Int) 1 8).bind fun t104 => (spec_l7Books.j0 k l0 0 (!t104))) else (none)) else (spec_l7Books.j0 k l0 0 true)) = some (r1, r2) := H
  have A3 := Aside0.mk A30
  clear A30
  by_cases c4 : t102 = true
  rotate_left
  ·replace c4 := Bool.eq_false_iff.mpr c4
   subst c4
   have H1 : (spec_l7Books.j0 k l0 0 true) = some (r1, r2) := by rw [if_neg (show ¬ (false = true) by decide)] at H; exact H
   clear H
   have H := H1
   clear H1
   have H' := Aside0.mk H
   clear H
   go_wp2_with (first | (go_at_call 62; (with_reducible refine (spec_l6In.calls (l0.length : Int) 1 6 false _ A3.out).mono ?_); rintro e w' ⟨rfl, ⟨nd, rfl⟩⟩; (try first | exact ⟨rfl, _, World.drewN_drewN _ _ _⟩ | exact ⟨rfl, _, Eq.trans (World.drewN_drewN _ _ _) (congrArg (World.drewN _) (Nat.add_assoc _ _ _))⟩)))
   repeat (go_quiet (first | (go_at_call 62; (with_reducible refine (spec_l6In.calls (l0.length : Int) 1 6 false _ A3.out).mono ?_); rintro e w' ⟨rfl, ⟨nd, rfl⟩⟩; (try first | exact ⟨rfl, _, World.drewN_drewN _ _ _⟩ | exact ⟨rfl, _, Eq.trans (World.drewN_drewN _ _ _) (congrArg (World.drewN _) (Nat.add_assoc _ _ _))⟩))); try go_wp2_with (first | (go_at_call 62; (with_reducible refine (spec_l6In.calls (l0.length : Int) 1 6 false _ A3.out).mono ?_); rintro e w' ⟨rfl, ⟨nd, rfl⟩⟩; (try first | exact ⟨rfl, _, World.drewN_drewN _ _ _⟩ | exact ⟨rfl, _, Eq.trans (World.drewN_drewN _ _ _) (congrArg (World.drewN _) (Nat.add_assoc _ _ _))⟩))))
   go_meet
   case rel => exact ⟨_, (true), (by first | rfl | (simp; done) | (simp [*]; done)), H', ⟨by first | omega | exact Nat.le_refl _⟩, by repeat (first | exact Drawn0.refl _ | apply Drawn0.step)⟩
  subst c4
  have H1 : (if 0 < (l0.length : Int) then ((spec_l6In.f ((rdOf ByteArray.empty l0 0).size : Int) 1 8).bind fun t104 => (spec_l7Books.j0 k l0 0 (!t104))) else (none)) = some (r1, r2) := by rw [if_pos rfl] at H; exact H
  clear H
  have H := H1
  clear H1
  by_cases c5 : 0 < (l0.length : Int)
  rotate_left
  ·rw [if_neg c5] at H
   exact absurd H (by simp)
  rw [if_pos c5] at H
  have c5b0 : decide (0 < (l0.length : Int)) = true := decide_eq_true c5
  have c5b1 : decide (0 < l0.length) = true := decide_eq_true (by omega)
  clear c5
  (first | rw [c5b0] | (simp only [i64_w, i32_w]; rw [c5b0]) | skip)
  replace H := Option.bind_eq_some_iff.mp H
  obtain ⟨t104, A60, H⟩ := H
  replace H : (spec_l7Books.j0 k l0 0 (!t104)) = some (r1, r2) := H
  have A6 := Aside0.mk A60
  clear A60
  have H' := Aside0.mk H
  clear H
  go_wp2_with (first | (go_at_call 62; (with_reducible refine (spec_l6In.calls (l0.length : Int) 1 6 true _ A3.out).mono ?_); rintro e w' ⟨rfl, ⟨nd, rfl⟩⟩; (try first | exact ⟨rfl, _, World.drewN_drewN _ _ _⟩ | exact ⟨rfl, _, Eq.trans (World.drewN_drewN _ _ _) (congrArg (World.drewN _) (Nat.add_assoc _ _ _))⟩); have p103 : 0 ≤ (0 : Int) := (by omega); have q103 : 0 < (l0.length : Int) := of_decide_eq_true (by first | (with_reducible assumption) | assumption); obtain ⟨ad103, e103, hx103_0⟩ := Kd.at_string HR0.out 0 p103 q103; cases e103; have qi103 : (0 < l0.length) = True := eq_true (by omega); (try rw [show ((0 : Int)).toNat = 0 from rfl] at hx103_0); (try rw [Addr.add_zero'] at hx103_0); replace p103 := eq_true p103; replace q103 := eq_true q103) | (go_at_call 62; (with_reducible refine (spec_l6In.calls ((rdOf ByteArray.empty l0 0).size : Int) 1 8 t104 _ A6.out).mono ?_); rintro e w' ⟨rfl, ⟨nd, rfl⟩⟩; (try first | exact ⟨rfl, _, World.drewN_drewN _ _ _⟩ | exact ⟨rfl, _, Eq.trans (World.drewN_drewN _ _ _) (congrArg (World.drewN _) (Nat.add_assoc _ _ _))⟩)))
  repeat (go_quiet (first | (go_at_call 62; (with_reducible refine (spec_l6In.calls (l0.length : Int) 1 6 true _ A3.out).mono ?_); rintro e w' ⟨rfl, ⟨nd, rfl⟩⟩; (try first | exact ⟨rfl, _, World.drewN_drewN _ _ _⟩ | exact ⟨rfl, _, Eq.trans (World.drewN_drewN _ _ _) (congrArg (World.drewN _) (Nat.add_assoc _ _ _))⟩); have p103 : 0 ≤ (0 : Int) := (by omega); have q103 : 0 < (l0.length : Int) := of_decide_eq_true (by first | (with_reducible assumption) | assumption); obtain ⟨ad103, e103, hx103_0⟩ := Kd.at_string HR0.out 0 p103 q103; cases e103; have qi103 : (0 < l0.length) = True := eq_true (by omega); (try rw [show ((0 : Int)).toNat = 0 from rfl] at hx103_0); (try rw [Addr.add_zero'] at hx103_0); replace p103 := eq_true p103; replace q103 := eq_true q103) | (go_at_call 62; (with_reducible refine (spec_l6In.calls ((rdOf ByteArray.empty l0 0).size : Int) 1 8 t104 _ A6.out).mono ?_); rintro e w' ⟨rfl, ⟨nd, rfl⟩⟩; (try first | exact ⟨rfl, _, World.drewN_drewN _ _ _⟩ | exact ⟨rfl, _, Eq.trans (World.drewN_drewN _ _ _) (congrArg (World.drewN _) (Nat.add_assoc _ _ _))⟩))); try go_wp2_with (first | (go_at_call 62; (with_reducible refine (spec_l6In.calls (l0.length : Int) 1 6 true _ A3.out).mono ?_); rintro e w' ⟨rfl, ⟨nd, rfl⟩⟩; (try first | exact ⟨rfl, _, World.drewN_drewN _ _ _⟩ | exact ⟨rfl, _, Eq.trans (World.drewN_drewN _ _ _) (congrArg (World.drewN _) (Nat.add_assoc _ _ _))⟩); have p103 : 0 ≤ (0 : Int) := (by omega); have q103 : 0 < (l0.length : Int) := of_decide_eq_true (by first | (with_reducible assumption) | assumption); obtain ⟨ad103, e103, hx103_0⟩ := Kd.at_string HR0.out 0 p103 q103; cases e103; have qi103 : (0 < l0.length) = True := eq_true (by omega); (try rw [show ((0 : Int)).toNat = 0 from rfl] at hx103_0); (try rw [Addr.add_zero'] at hx103_0); replace p103 := eq_true p103; replace q103 := eq_true q103) | (go_at_call 62; (with_reducible refine (spec_l6In.calls ((rdOf ByteArray.empty l0 0).size : Int) 1 8 t104 _ A6.out).mono ?_); rintro e w' ⟨rfl, ⟨nd, rfl⟩⟩; (try first | exact ⟨rfl, _, World.drewN_drewN _ _ _⟩ | exact ⟨rfl, _, Eq.trans (World.drewN_drewN _ _ _) (congrArg (World.drewN _) (Nat.add_assoc _ _ _))⟩))))
  go_meet
  case rel => exact ⟨_, (!t104), (by first | rfl | (simp; done) | (simp [*]; done)), H', ⟨by first | omega | exact Nat.le_refl _⟩, by repeat (first | exact Drawn0.refl _ | apply Drawn0.step)⟩
 case rest =>
  clear HC2
  try clear p1
  try clear q1
  try clear hx1
  try clear qi1
  try clear p2
  try clear c4
  try clear c5
  try clear c5b0
  try clear c5b1
  try clear c6
  try clear hx103_0
  try clear p103
  try clear q103
  obtain ⟨kq, x17_1, rfl, HA, HJ1, ⟨mc1, rfl⟩⟩ := hcut
  cases kq with
  | zero => exact absurd HA.out (by simp [spec_l7Books.j0])
  | succ kj1 =>
   have H := HA.out
   clear HA
   simp only [spec_l7Books.j0] at H
   by_cases c7 : x17_1 = true
   ·subst c7
    have H1 : (some (0, false)) = some (r1, r2) := by rw [if_pos rfl] at H; exact H
    clear H
    have H := H1
    clear H1
    simp only [Option.some.injEq, Prod.mk.injEq] at H
    obtain ⟨rfl, rfl⟩ := H
    go_wp2
    repeat (go_quiet (fail); try go_wp2)
    go_ret2
    exact ⟨by first | rfl | (simp; done) | (simp [*]; done), by repeat (first | exact Drawn0.refl _ | apply Drawn0.step)⟩
   replace c7 := Bool.eq_false_iff.mpr c7
   subst c7
   have H1 : (spec_l7Books.l0 kj1 l0 0 0) = some (r1, r2) := by rw [if_neg (show ¬ (false = true) by decide)] at H; exact H
   clear H
   have H := H1
   clear H1
   have H' := Aside0.mk H
   clear H
   go_wp2
   repeat (go_quiet (fail); try go_wp2)
   go_loopg [4, 5] kj1 (fun kq v4 v5 w' => ∃ (x4_2 : Int) (x5_2 : Int), v4 = .int .i64 x4_2 ∧ v5 = .int .i64 x5_2 ∧ Aside0 (spec_l7Books.l0 kq l0 x4_2 x5_2 = some (r1, r2)) ∧ Aside0 (kq ≤ kj1) ∧ Drawn0 w w')
   case atStart => exact ⟨(0), (0), (by first | rfl | (simp; done) | (simp [*]; done)), (by first | rfl | (simp; done) | (simp [*]; done)), H', ⟨Nat.le_refl _⟩, by repeat (first | exact Drawn0.refl _ | apply Drawn0.step)⟩
   case round =>
    clear H'
    try clear c1
    try clear p1
    try clear q1
    try clear hx1
    try clear qi1
    try clear p2
    try clear c4
    try clear c5
    try clear c5b0
    try clear c5b1
    try clear c6
    try clear c7
    try clear hx103_0
    try clear p1
    try clear p103
    try clear p2
    try clear q1
    try clear q103
    obtain ⟨x4_2, x5_2, rfl, rfl, HA, HK2, ⟨m2, rfl⟩⟩ := hrel
    cases gk with
    | zero => exact absurd HA.out (by simp [spec_l7Books.l0])
    | succ k2 =>
     have H := HA.out
     clear HA
     simp only [spec_l7Books.l0] at H
     by_cases c8 : x5_2 < (l0.length : Int)
     rotate_left
     ·rw [if_neg c8] at H
      have c8b0 : decide (x5_2 < (l0.length : Int)) = false := decide_eq_false c8
      clear c8
      simp only [Option.some.injEq, Prod.mk.injEq] at H
      obtain ⟨rfl, rfl⟩ := H
      go_wp2
      repeat (go_quiet (fail); try go_wp2)
      go_ret2
      exact ⟨by first | rfl | (simp; done) | (simp [*]; done), by repeat (first | exact Drawn0.refl _ | apply Drawn0.step)⟩
     rw [if_pos c8] at H
     have c8b0 : decide (x5_2 < (l0.length : Int)) = true := decide_eq_true c8
     clear c8
     have HC9 := Aside0.mk H
     clear H
     go_upto_region 7 with (fail)
     repeat (go_quiet (fail); go_upto_region 7 with (fail))
     go_cut [49] (fun v49 wc => ∃ (kq : Nat) (x49_8 : Bool), v49 = .bool x49_8 ∧ Aside0 (spec_l7Books.j2 kq l0 x4_2 x5_2 x49_8 = some (r1, r2)) ∧ Aside0 (kq ≤ k2) ∧ Drawn0 w wc)
     case first =>
      have H := HC9.out
      clear HC9
      by_cases c10 : 0 ≤ x5_2
      rotate_left
      ·rw [if_neg c10] at H
       exact absurd H (by simp)
      rw [if_pos c10] at H
      have c10b0 : decide (0 ≤ x5_2) = true := decide_eq_true c10
      clear c10
      (first | rw [c10b0] | (simp only [i64_w, i32_w]; rw [c10b0]) | skip)
      by_cases c11 : 0 < (l0.length : Int)
      rotate_left
      ·rw [if_neg c11] at H
       exact absurd H (by simp)
      rw [if_pos c11] at H
      have c11b0 : decide (0 < (l0.length : Int)) = true := decide_eq_true c11
      have c11b1 : decide (0 < l0.length) = true := decide_eq_true (by omega)
      clear c11
      by_cases c12 : ((rdOf ByteArray.empty l0 x5_2).size : Int) = ((rdOf ByteArray.empty l0 0).size : Int)
      rotate_left
      ·rw [if_neg c12] at H
       have c12b0 : (((rdOf ByteArray.empty l0 x5_2).size : Int) == ((rdOf ByteArray.empty l0 0).size : Int)) = false := beq_eq_false_iff_ne.mpr c12
       have c12b1 : (((rdOf ByteArray.empty l0 x5_2).size : Int) != ((rdOf ByteArray.empty l0 0).size : Int)) = true := bne_iff_ne.mpr c12
       have c12b2 : ((rdOf ByteArray.empty l0 x5_2).size == (rdOf ByteArray.empty l0 0).size) = false := by first | simpa using c12 | (simp at c12 ⊢; omega)
       have H' := Aside0.mk H
       clear H
       have p105 : 0 ≤ (x5_2 : Int) := of_decide_eq_true (by first | (with_reducible assumption) | assumption)
       have q105 : x5_2 < (l0.length : Int) := of_decide_eq_true (by first | (with_reducible assumption) | assumption)
       obtain ⟨ad105, e105, hx105_0⟩ := Kd.at_string HR0.out x5_2 p105 q105
       cases e105
       replace p105 := eq_true p105
       replace q105 := eq_true q105
       have p106 : 0 ≤ (0 : Int) := (by omega)
       have q106 : 0 < (l0.length : Int) := of_decide_eq_true (by first | (with_reducible assumption) | assumption)
       obtain ⟨ad106, e106, hx106_0⟩ := Kd.at_string HR0.out 0 p106 q106
       obtain rfl : ad105 = ad106 := (by injection e106)
       have qi106 : (0 < l0.length) = True := eq_true (by omega)
       (try rw [show ((0 : Int)).toNat = 0 from rfl] at hx106_0)
       (try rw [Addr.add_zero'] at hx106_0)
       replace p106 := eq_true p106
       replace q106 := eq_true q106
       go_wp2
       repeat (go_quiet (fail); try go_wp2)
       go_meet
       case rel => exact ⟨_, (true), (by first | rfl | (simp; done) | (simp [*]; done)), H', ⟨by have := HJ1.out; have := HK2.out; first | omega | exact Nat.le_refl _⟩, by repeat (first | exact Drawn0.refl _ | apply Drawn0.step)⟩
      rw [if_pos c12] at H
      have c12b0 : (((rdOf ByteArray.empty l0 x5_2).size : Int) == ((rdOf ByteArray.empty l0 0).size : Int)) = true := beq_iff_eq.mpr c12
      have c12b1 : (((rdOf ByteArray.empty l0 x5_2).size : Int) != ((rdOf ByteArray.empty l0 0).size : Int)) = false := bne_eq_false_iff_eq.mpr c12
      have c12b2 : ((rdOf ByteArray.empty l0 x5_2).size == (rdOf ByteArray.empty l0 0).size) = true := by first | simpa using c12 | (simp at c12 ⊢; omega)
      clear c12
      replace H := Option.bind_eq_some_iff.mp H
      obtain ⟨t108, A130, H⟩ := H
      replace H : (if t108 = true then (spec_l7Books.j2 k2 l0 x4_2 x5_2 false) else ((spec_l7Lost.f k2 (rdOf ByteArray.empty l0 x5_2)).bind fun t110 => (spec_l7Books.j2 k2 l0 x4_2 x5_2 (!t110)))) = some (r1, r2) := H
      have A13 := Aside0.mk A130
      clear A130
      by_cases c14 : t108 = true
      ·subst c14
       have H1 : (spec_l7Books.j2 k2 l0 x4_2 x5_2 false) = some (r1, r2) := by rw [if_pos rfl] at H; exact H
       clear H
       have H := H1
       clear H1
       have H' := Aside0.mk H
       clear H
       have p105 : 0 ≤ (x5_2 : Int) := of_decide_eq_true (by first | (with_reducible assumption) | assumption)
       have q105 : x5_2 < (l0.length : Int) := of_decide_eq_true (by first | (with_reducible assumption) | assumption)
       obtain ⟨ad105, e105, hx105_0⟩ := Kd.at_string HR0.out x5_2 p105 q105
       cases e105
       replace p105 := eq_true p105
       replace q105 := eq_true q105
       have p106 : 0 ≤ (0 : Int) := (by omega)
       have q106 : 0 < (l0.length : Int) := of_decide_eq_true (by first | (with_reducible assumption) | assumption)
       obtain ⟨ad106, e106, hx106_0⟩ := Kd.at_string HR0.out 0 p106 q106
       obtain rfl : ad105 = ad106 := (by injection e106)
       have qi106 : (0 < l0.length) = True := eq_true (by omega)
       (try rw [show ((0 : Int)).toNat = 0 from rfl] at hx106_0)
       (try rw [Addr.add_zero'] at hx106_0)
       replace p106 := eq_true p106
       replace q106 := eq_true q106
       have p107 : 0 ≤ (x5_2 : Int) := of_decide_eq_true (by first | (with_reducible assumption) | assumption)
       have q107 : x5_2 < (l0.length : Int) := of_decide_eq_true (by first | (with_reducible assumption) | assumption)
       obtain ⟨ad107, e107, hx107_0⟩ := Kd.at_string HR0.out x5_2 p107 q107
       obtain rfl : ad105 = ad107 := (by injection e107)
       replace p107 := eq_true p107
       replace q107 := eq_true q107
       go_wp2_with (first | (go_at_call 77; (with_reducible refine (spec_l7Reading.calls k2 (rdOf ByteArray.empty l0 x5_2) true _ A13.out).mono ?_); rintro e w' ⟨rfl, ⟨nd, rfl⟩⟩; (try first | exact ⟨rfl, _, World.drewN_drewN _ _ _⟩ | exact ⟨rfl, _, Eq.trans (World.drewN_drewN _ _ _) (congrArg (World.drewN _) (Nat.add_assoc _ _ _))⟩)))
       repeat (go_quiet (first | (go_at_call 77; (with_reducible refine (spec_l7Reading.calls k2 (rdOf ByteArray.empty l0 x5_2) true _ A13.out).mono ?_); rintro e w' ⟨rfl, ⟨nd, rfl⟩⟩; (try first | exact ⟨rfl, _, World.drewN_drewN _ _ _⟩ | exact ⟨rfl, _, Eq.trans (World.drewN_drewN _ _ _) (congrArg (World.drewN _) (Nat.add_assoc _ _ _))⟩))); try go_wp2_with (first | (go_at_call 77; (with_reducible refine (spec_l7Reading.calls k2 (rdOf ByteArray.empty l0 x5_2) true _ A13.out).mono ?_); rintro e w' ⟨rfl, ⟨nd, rfl⟩⟩; (try first | exact ⟨rfl, _, World.drewN_drewN _ _ _⟩ | exact ⟨rfl, _, Eq.trans (World.drewN_drewN _ _ _) (congrArg (World.drewN _) (Nat.add_assoc _ _ _))⟩))))
       go_meet
       case rel => exact ⟨_, (false), (by first | rfl | (simp; done) | (simp [*]; done)), H', ⟨by have := HJ1.out; have := HK2.out; first | omega | exact Nat.le_refl _⟩, by repeat (first | exact Drawn0.refl _ | apply Drawn0.step)⟩
      replace c14 := Bool.eq_false_iff.mpr c14
      subst c14
      have H1 : ((spec_l7Lost.f k2 (rdOf ByteArray.empty l0 x5_2)).bind fun t110 => (spec_l7Books.j2 k2 l0 x4_2 x5_2 (!t110))) = some (r1, r2) := by rw [if_neg (show ¬ (false = true) by decide)] at H; exact H
      clear H
      have H := H1
      clear H1
      replace H := Option.bind_eq_some_iff.mp H
      obtain ⟨t110, A150, H⟩ := H
      replace H : (spec_l7Books.j2 k2 l0 x4_2 x5_2 (!t110)) = some (r1, r2) := H
      have A15 := Aside0.mk A150
      clear A150
      have H' := Aside0.mk H
      clear H
      have p105 : 0 ≤ (x5_2 : Int) := of_decide_eq_true (by first | (with_reducible assumption) | assumption)
      have q105 : x5_2 < (l0.length : Int) := of_decide_eq_true (by first | (with_reducible assumption) | assumption)
      obtain ⟨ad105, e105, hx105_0⟩ := Kd.at_string HR0.out x5_2 p105 q105
      cases e105
      replace p105 := eq_true p105
      replace q105 := eq_true q105
      have p106 : 0 ≤ (0 : Int) := (by omega)
      have q106 : 0 < (l0.length : Int) := of_decide_eq_true (by first | (with_reducible assumption) | assumption)
      obtain ⟨ad106, e106, hx106_0⟩ := Kd.at_string HR0.out 0 p106 q106
      obtain rfl : ad105 = ad106 := (by injection e106)
      have qi106 : (0 < l0.length) = True := eq_true (by omega)
      (try rw [show ((0 : Int)).toNat = 0 from rfl] at hx106_0)
      (try rw [Addr.add_zero'] at hx106_0)
      replace p106 := eq_true p106
      replace q106 := eq_true q106
      have p107 : 0 ≤ (x5_2 : Int) := of_decide_eq_true (by first | (with_reducible assumption) | assumption)
      have q107 : x5_2 < (l0.length : Int) := of_decide_eq_true (by first | (with_reducible assumption) | assumption)
      obtain ⟨ad107, e107, hx107_0⟩ := Kd.at_string HR0.out x5_2 p107 q107
      obtain rfl : ad105 = ad107 := (by injection e107)
      replace p107 := eq_true p107
      replace q107 := eq_true q107
      go_wp2_with (first | (go_at_call 77; (with_reducible refine (spec_l7Reading.calls k2 (rdOf ByteArray.empty l0 x5_2) false _ A13.out).mono ?_); rintro e w' ⟨rfl, ⟨nd, rfl⟩⟩; (try first | exact ⟨rfl, _, World.drewN_drewN _ _ _⟩ | exact ⟨rfl, _, Eq.trans (World.drewN_drewN _ _ _) (congrArg (World.drewN _) (Nat.add_assoc _ _ _))⟩); have p109 : 0 ≤ (x5_2 : Int) := of_decide_eq_true (by first | (with_reducible assumption) | assumption); have q109 : x5_2 < (l0.length : Int) := of_decide_eq_true (by first | (with_reducible assumption) | assumption); obtain ⟨ad109, e109, hx109_0⟩ := Kd.at_string HR0.out x5_2 p109 q109; obtain rfl : ad105 = ad109 := (by injection e109); replace p109 := eq_true p109; replace q109 := eq_true q109) | (go_at_call 78; (with_reducible refine (spec_l7Lost.calls k2 (rdOf ByteArray.empty l0 x5_2) t110 _ A15.out).mono ?_); rintro e w' ⟨rfl, ⟨nd, rfl⟩⟩; (try first | exact ⟨rfl, _, World.drewN_drewN _ _ _⟩ | exact ⟨rfl, _, Eq.trans (World.drewN_drewN _ _ _) (congrArg (World.drewN _) (Nat.add_assoc _ _ _))⟩)))
      repeat (go_quiet (first | (go_at_call 77; (with_reducible refine (spec_l7Reading.calls k2 (rdOf ByteArray.empty l0 x5_2) false _ A13.out).mono ?_); rintro e w' ⟨rfl, ⟨nd, rfl⟩⟩; (try first | exact ⟨rfl, _, World.drewN_drewN _ _ _⟩ | exact ⟨rfl, _, Eq.trans (World.drewN_drewN _ _ _) (congrArg (World.drewN _) (Nat.add_assoc _ _ _))⟩); have p109 : 0 ≤ (x5_2 : Int) := of_decide_eq_true (by first | (with_reducible assumption) | assumption); have q109 : x5_2 < (l0.length : Int) := of_decide_eq_true (by first | (with_reducible assumption) | assumption); obtain ⟨ad109, e109, hx109_0⟩ := Kd.at_string HR0.out x5_2 p109 q109; obtain rfl : ad105 = ad109 := (by injection e109); replace p109 := eq_true p109; replace q109 := eq_true q109) | (go_at_call 78; (with_reducible refine (spec_l7Lost.calls k2 (rdOf ByteArray.empty l0 x5_2) t110 _ A15.out).mono ?_); rintro e w' ⟨rfl, ⟨nd, rfl⟩⟩; (try first | exact ⟨rfl, _, World.drewN_drewN _ _ _⟩ | exact ⟨rfl, _, Eq.trans (World.drewN_drewN _ _ _) (congrArg (World.drewN _) (Nat.add_assoc _ _ _))⟩))); try go_wp2_with (first | (go_at_call 77; (with_reducible refine (spec_l7Reading.calls k2 (rdOf ByteArray.empty l0 x5_2) false _ A13.out).mono ?_); rintro e w' ⟨rfl, ⟨nd, rfl⟩⟩; (try first | exact ⟨rfl, _, World.drewN_drewN _ _ _⟩ | exact ⟨rfl, _, Eq.trans (World.drewN_drewN _ _ _) (congrArg (World.drewN _) (Nat.add_assoc _ _ _))⟩); have p109 : 0 ≤ (x5_2 : Int) := of_decide_eq_true (by first | (with_reducible assumption) | assumption); have q109 : x5_2 < (l0.length : Int) := of_decide_eq_true (by first | (with_reducible assumption) | assumption); obtain ⟨ad109, e109, hx109_0⟩ := Kd.at_string HR0.out x5_2 p109 q109; obtain rfl : ad105 = ad109 := (by injection e109); replace p109 := eq_true p109; replace q109 := eq_true q109) | (go_at_call 78; (with_reducible refine (spec_l7Lost.calls k2 (rdOf ByteArray.empty l0 x5_2) t110 _ A15.out).mono ?_); rintro e w' ⟨rfl, ⟨nd, rfl⟩⟩; (try first | exact ⟨rfl, _, World.drewN_drewN _ _ _⟩ | exact ⟨rfl, _, Eq.trans (World.drewN_drewN _ _ _) (congrArg (World.drewN _) (Nat.add_assoc _ _ _))⟩))))
      go_meet
      case rel => exact ⟨_, (!t110), (by first | rfl | (simp; done) | (simp [*]; done)), H', ⟨by have := HJ1.out; have := HK2.out; first | omega | exact Nat.le_refl _⟩, by repeat (first | exact Drawn0.refl _ | apply Drawn0.step)⟩
     case rest =>
      clear HC9
      try clear c1
      try clear p1
      try clear q1
      try clear hx1
      try clear qi1
      try clear p2
      try clear c4
      try clear c5
      try clear c5b0
      try clear c5b1
      try clear c6
      try clear c7
      try clear c8
      try clear c8b0
      try clear c10
      try clear c10b0
      try clear p10
      try clear q10
      try clear hx10
      try clear qi10
      try clear c11
      try clear c11b0
      try clear c11b1
      try clear c12
      try clear c12b0
      try clear c12b1
      try clear c12b2
      try clear c14
      try clear hx103_0
      try clear hx105_0
      try clear hx106_0
      try clear hx107_0
      try clear hx109_0
      try clear p1
      try clear p103
      try clear p105
      try clear p106
      try clear p107
      try clear p109
      try clear p2
      try clear q1
      try clear q103
      try clear q105
      try clear q106
      try clear q107
      try clear q109
      obtain ⟨kq, x49_8, rfl, HA, HJ8, ⟨mc8, rfl⟩⟩ := hcut
      cases kq with
      | zero => exact absurd HA.out (by simp [spec_l7Books.j2])
      | succ kj8 =>
       have H := HA.out
       clear HA
       simp only [spec_l7Books.j2] at H
       by_cases c16 : x49_8 = true
       ·subst c16
        have H1 : (some (0, false)) = some (r1, r2) := by rw [if_pos rfl] at H; exact H
        clear H
        have H := H1
        clear H1
        simp only [Option.some.injEq, Prod.mk.injEq] at H
        obtain ⟨rfl, rfl⟩ := H
        go_wp2
        repeat (go_quiet (fail); try go_wp2)
        go_ret2
        exact ⟨by first | rfl | (simp; done) | (simp [*]; done), by repeat (first | exact Drawn0.refl _ | apply Drawn0.step)⟩
       replace c16 := Bool.eq_false_iff.mpr c16
       subst c16
       have H1 : (if 0 ≤ x5_2 then (if x5_2 < (l0.length : Int) then ((spec_l7Lost.f kj8 (rdOf ByteArray.empty l0 x5_2)).bind fun t112 => (if t112 = true then (spec_l7Books.l0 kj8 l0 (wrap64 (x4_2 + 1)) (wrap64 (x5_2 + 1))) else (spec_l7Books.l0 kj8 l0 x4_2 (wrap64 (x5_2 + 1))))) else (none)) else (none)) = some (r1, r2) := by rw [if_neg (show ¬ (false = true) by decide)] at H; exact H
       clear H
       have H := H1
       clear H1
       by_cases c17 : 0 ≤ x5_2
       rotate_left
       ·rw [if_neg c17] at H
        exact absurd H (by simp)
       rw [if_pos c17] at H
       have c17b0 : decide (0 ≤ x5_2) = true := decide_eq_true c17
       clear c17
       by_cases c18 : x5_2 < (l0.length : Int)
       rotate_left
       ·rw [if_neg c18] at H
        exact absurd H (by simp)
       rw [if_pos c18] at H
       have c18b0 : decide (x5_2 < (l0.length : Int)) = true := decide_eq_true c18
       clear c18
       replace H := Option.bind_eq_some_iff.mp H
       obtain ⟨t112, A190, H⟩ := H
       replace H : (if t112 = true then (spec_l7Books.l0 kj8 l0 (wrap64 (x4_2 + 1)) (wrap64 (x5_2 + 1))) else (spec_l7Books.l0 kj8 l0 x4_2 (wrap64 (x5_2 + 1)))) = some (r1, r2) := H
       have A19 := Aside0.mk A190
       clear A190
       by_cases c20 : t112 = true
       ·subst c20
        have H1 : (spec_l7Books.l0 kj8 l0 (wrap64 (x4_2 + 1)) (wrap64 (x5_2 + 1))) = some (r1, r2) := by rw [if_pos rfl] at H; exact H
        clear H
        have H := H1
        clear H1
        have H' := Aside0.mk H
        clear H
        have p111 : 0 ≤ (x5_2 : Int) := of_decide_eq_true (by first | (with_reducible assumption) | assumption)
        have q111 : x5_2 < (l0.length : Int) := of_decide_eq_true (by first | (with_reducible assumption) | assumption)
        obtain ⟨ad111, e111, hx111_0⟩ := Kd.at_string HR0.out x5_2 p111 q111
        cases e111
        replace p111 := eq_true p111
        replace q111 := eq_true q111
        go_wp2_with (first | (go_at_call 78; (with_reducible refine (spec_l7Lost.calls kj8 (rdOf ByteArray.empty l0 x5_2) true _ A19.out).mono ?_); rintro e w' ⟨rfl, ⟨nd, rfl⟩⟩; (try first | exact ⟨rfl, _, World.drewN_drewN _ _ _⟩ | exact ⟨rfl, _, Eq.trans (World.drewN_drewN _ _ _) (congrArg (World.drewN _) (Nat.add_assoc _ _ _))⟩)))
        repeat (go_quiet (first | (go_at_call 78; (with_reducible refine (spec_l7Lost.calls kj8 (rdOf ByteArray.empty l0 x5_2) true _ A19.out).mono ?_); rintro e w' ⟨rfl, ⟨nd, rfl⟩⟩; (try first | exact ⟨rfl, _, World.drewN_drewN _ _ _⟩ | exact ⟨rfl, _, Eq.trans (World.drewN_drewN _ _ _) (congrArg (World.drewN _) (Nat.add_assoc _ _ _))⟩))); try go_wp2_with (first | (go_at_call 78; (with_reducible refine (spec_l7Lost.calls kj8 (rdOf ByteArray.empty l0 x5_2) true _ A19.out).mono ?_); rintro e w' ⟨rfl, ⟨nd, rfl⟩⟩; (try first | exact ⟨rfl, _, World.drewN_drewN _ _ _⟩ | exact ⟨rfl, _, Eq.trans (World.drewN_drewN _ _ _) (congrArg (World.drewN _) (Nat.add_assoc _ _ _))⟩))))
        go_roundg kj8
        case measure => have := HJ1.out; have := HK2.out; have := HJ8.out; omega
        case rel => exact ⟨(wrap64 (x4_2 + 1)), (wrap64 (x5_2 + 1)), (by first | rfl | (simp; done) | (simp [*]; done)), (by first | rfl | (simp; done) | (simp [*]; done)), H', ⟨by have := HJ1.out; have := HK2.out; have := HJ8.out; omega⟩, by repeat (first | exact Drawn0.refl _ | apply Drawn0.step)⟩
       replace c20 := Bool.eq_false_iff.mpr c20
       subst c20
       have H1 : (spec_l7Books.l0 kj8 l0 x4_2 (wrap64 (x5_2 + 1))) = some (r1, r2) := by rw [if_neg (show ¬ (false = true) by decide)] at H; exact H
       clear H
       have H := H1
       clear H1
       have H' := Aside0.mk H
       clear H
       have p111 : 0 ≤ (x5_2 : Int) := of_decide_eq_true (by first | (with_reducible assumption) | assumption)
       have q111 : x5_2 < (l0.length : Int) := of_decide_eq_true (by first | (with_reducible assumption) | assumption)
       obtain ⟨ad111, e111, hx111_0⟩ := Kd.at_string HR0.out x5_2 p111 q111
       cases e111
       replace p111 := eq_true p111
       replace q111 := eq_true q111
       go_wp2_with (first | (go_at_call 78; (with_reducible refine (spec_l7Lost.calls kj8 (rdOf ByteArray.empty l0 x5_2) false _ A19.out).mono ?_); rintro e w' ⟨rfl, ⟨nd, rfl⟩⟩; (try first | exact ⟨rfl, _, World.drewN_drewN _ _ _⟩ | exact ⟨rfl, _, Eq.trans (World.drewN_drewN _ _ _) (congrArg (World.drewN _) (Nat.add_assoc _ _ _))⟩)))
       repeat (go_quiet (first | (go_at_call 78; (with_reducible refine (spec_l7Lost.calls kj8 (rdOf ByteArray.empty l0 x5_2) false _ A19.out).mono ?_); rintro e w' ⟨rfl, ⟨nd, rfl⟩⟩; (try first | exact ⟨rfl, _, World.drewN_drewN _ _ _⟩ | exact ⟨rfl, _, Eq.trans (World.drewN_drewN _ _ _) (congrArg (World.drewN _) (Nat.add_assoc _ _ _))⟩))); try go_wp2_with (first | (go_at_call 78; (with_reducible refine (spec_l7Lost.calls kj8 (rdOf ByteArray.empty l0 x5_2) false _ A19.out).mono ?_); rintro e w' ⟨rfl, ⟨nd, rfl⟩⟩; (try first | exact ⟨rfl, _, World.drewN_drewN _ _ _⟩ | exact ⟨rfl, _, Eq.trans (World.drewN_drewN _ _ _) (congrArg (World.drewN _) (Nat.add_assoc _ _ _))⟩))))
       go_roundg kj8
       case measure => have := HJ1.out; have := HK2.out; have := HJ8.out; omega
       case rel => exact ⟨(x4_2), (wrap64 (x5_2 + 1)), (by first | rfl | (simp; done) | (simp [*]; done)), (by first | rfl | (simp; done) | (simp [*]; done)), H', ⟨by have := HJ1.out; have := HK2.out; have := HJ8.out; omega⟩, by repeat (first | exact Drawn0.refl _ | apply Drawn0.step)⟩
end Go.Proofs.YtejoneninbdjbaaDoor.E
end
section
namespace Go.Proofs.YtejoneninbdjbaaDoor.E
open Go.RowKit Go.Proofs.YtejoneninbdjbaaDoorW.PrintWords Go.Proofs.YtejoneninbdjbaaDoorW.PrintLast Go.Proofs.YtejoneninbdjbaaDoorW.PrintMore
attribute [local go_sem] max2_int min2_int max_two min_two max_three min_three max_four min_four
set_option linter.unusedVariables false
set_option linter.unusedSimpArgs false
attribute [local go_sem] str_leq_ str_gtr_ str_geq_
mutual
def spec_StemValid.j0 : Nat → List Int → Bool → Option (Bool)
 | 0, _, _ => none
 | k + 1, x1, x33 => if x33 = true then (some false) else (spec_StemValid.l0 k x1 1)
def spec_StemValid.l0 : Nat → List Int → Int → Option (Bool)
 | 0, _, _ => none
 | k + 1, x1, x7 => if x7 < (x1.length : Int) then (if 0 ≤ x7 then ((spec_l6In.f (rd x1 x7) 0 (wrap64 (x7 - 1))).bind fun t169 => (if t169 = true then (spec_StemValid.l0 k x1 (wrap64 (x7 + 1))) else (some false))) else (none)) else (some true)
end
def spec_StemValid.f (k : Nat) (l0 : List ByteArray) (l1 : List Int) : Option (Bool) := (spec_l7Books.f k l0).bind fun bt165 => (if bt165.2 = true then (if bt165.1 = (l0.length : Int) then (spec_StemValid.j0 k l1 true) else (if (l1.length : Int) = (l0.length : Int) then (if 0 < (l1.length : Int) then (spec_StemValid.j0 k l1 ((rd l1 0) != (-1))) else (none)) else (spec_StemValid.j0 k l1 true))) else (spec_StemValid.j0 k l1 true))
set_option maxHeartbeats 8000000 in
set_option maxRecDepth 100000 in
theorem spec_StemValid.calls (k : Nat) (A0 : Option Addr) (c0 : Nat) (l0 : List ByteArray) (A1 : Option Addr) (c1 : Nat) (l1 : List Int) (r : Bool) (w : World) (hr0 : Kd.C Kd.string w A0 l0.length l0) (hc0 : l0.length ≤ c0) (hr1 : Kd.C (Kd.int .i64) w A1 l1.length l1) (hc1 : l1.length ≤ c1) (h : spec_StemValid.f k l0 l1 = some r) :
  Calls Tryd.prog 28 #[.slice A0 l0.length c0, .slice A1 l1.length c1] w fun e w' => e = .returned (.bool r) ∧ Drawn0 w w' := by
 have HR0 := Aside0.mk hr0
 have HC0 := Aside0.mk hc0
 clear hr0 hc0
 have HR1 := Aside0.mk hr1
 have HC1 := Aside0.mk hc1
 clear hr1 hc1
 have H : ((spec_l7Books.f k l0).bind fun bt165 => (if bt165.2 = true then (if bt165.1 = (l0.length : Int) then (spec_StemValid.j0 k l1 true) else (if (l1.length : Int) = (l0.length : Int) then (if 0 < (l1.length : Int) then (spec_StemValid.j0 k l1 ((rd l1 0) != (-1))) else (none)) else (spec_StemValid.j0 k l1 true))) else (spec_StemValid.j0 k l1 true))) = some r := h
 clear h
 replace H := Option.bind_eq_some_iff.mp H
 obtain ⟨⟨t165, t166⟩, A30, H⟩ := H
 replace H : (if t166 = true then (if t165 = (l0.length : Int) then (spec_StemValid.j0 k l1 true) else (if (l1.length : Int) = (l0.length : Int) then (if 0 < (l1.length : Int) then (spec_StemValid.j0 k l1 ((rd l1 0) != (-1))) else (none)) else (spec_StemValid.j0 k l1 true))) else (spec_StemValid.j0 k l1 true)) = some r := H
 have A3 := Aside0.mk A30
 clear A30
 have HC4 := Aside0.mk H
 clear H
 go_enter Tryd.func28, Tryd.ntmps28
 go_upto_region 2 with (first | ((with_reducible refine gate_callee (f := 60) rfl ?_); refine goesL_ (some 10) rfl rfl Tryd.func60 (by kernel_rfl) rfl #[.slice A0 l0.length c0] rfl (by (try simp only [List.map_toArray, List.map_cons, List.map_nil]); first | done | rfl | (simp only [List.length_drop, List.length_take]; rfl)) ?_; (with_reducible refine (spec_l7Books.calls k _ _ l0 t165 t166 _ ?side1 ?side2 A3.out).mono ?_); (case side1 => repeat (first | exact HR0.out | (with_reducible refine Kd.C_alloc ?_ _) | (with_reducible refine Kd.C_drewN ?_ _) | (with_reducible refine Kd.C_drew ?_))); (case side2 => exact HC0.out); rintro e w' ⟨rfl, ⟨nd, rfl⟩⟩; refine ⟨_, rfl, ?_⟩))
 (try simp only [Act.put, List.setIfInBounds_toArray, List.set_cons_zero, List.set_cons_succ])
 go_cut [33] (fun v33 wc => ∃ (kq : Nat) (x33_3 : Bool), v33 = .bool x33_3 ∧ Aside0 (spec_StemValid.j0 kq l1 x33_3 = some r) ∧ Aside0 (kq ≤ k) ∧ Drawn0 w wc)
 case first =>
  have H := HC4.out
  clear HC4
  by_cases c5 : t166 = true
  rotate_left
  ·replace c5 := Bool.eq_false_iff.mpr c5
   subst c5
   have H1 : (spec_StemValid.j0 k l1 true) = some r := by rw [if_neg (show ¬ (false = true) by decide)] at H; exact H
   clear H
   have H := H1
   clear H1
   have H' := Aside0.mk H
   clear H
   go_wp2
   go_meet
   case rel => exact ⟨_, (true), (by first | rfl | (simp; done) | (simp [*]; done)), H', ⟨by first | omega | exact Nat.le_refl _⟩, by repeat (first | exact Drawn0.refl _ | apply Drawn0.step)⟩
  subst c5
  have H1 : (if t165 = (l0.length : Int) then (spec_StemValid.j0 k l1 true) else (if (l1.length : Int) = (l0.length : Int) then (if 0 < (l1.length : Int) then (spec_StemValid.j0 k l1 ((rd l1 0) != (-1))) else (none)) else (spec_StemValid.j0 k l1 true))) = some r := by rw [if_pos rfl] at H; exact H
  clear H
  have H := H1
  clear H1
  by_cases c6 : t165 = (l0.length : Int)
  ·rw [if_pos c6] at H
   have c6b0 : (t165 == (l0.length : Int)) = true := beq_iff_eq.mpr c6
   have c6b1 : (t165 != (l0.length : Int)) = false := bne_eq_false_iff_eq.mpr c6
   clear c6
   (first | rw [c6b0] | (simp only [i64_w, i32_w]; rw [c6b0]) | skip)
   have H' := Aside0.mk H
   clear H
   go_wp2
   go_meet
   case rel => exact ⟨_, (true), (by first | rfl | (simp; done) | (simp [*]; done)), H', ⟨by first | omega | exact Nat.le_refl _⟩, by repeat (first | exact Drawn0.refl _ | apply Drawn0.step)⟩
  rw [if_neg c6] at H
  have c6b0 : (t165 == (l0.length : Int)) = false := beq_eq_false_iff_ne.mpr c6
  have c6b1 : (t165 != (l0.length : Int)) = true := bne_iff_ne.mpr c6
  (first | rw [c6b0] | (simp only [i64_w, i32_w]; rw [c6b0]) | skip)
  by_cases c7 : (l1.length : Int) = (l0.length : Int)
  rotate_left
  ·rw [if_neg c7] at H
   have c7b0 : ((l1.length : Int) == (l0.length : Int)) = false := beq_eq_false_iff_ne.mpr c7
   have c7b1 : ((l1.length : Int) != (l0.length : Int)) = true := bne_iff_ne.mpr c7
   have c7b2 : (l1.length == l0.length) = false := by first | simpa using c7 | (simp at c7 ⊢; omega)
   have H' := Aside0.mk H
   clear H
   go_wp2
   go_meet
   case rel => exact ⟨_, (true), (by first | rfl | (simp; done) | (simp [*]; done)), H', ⟨by first | omega | exact Nat.le_refl _⟩, by repeat (first | exact Drawn0.refl _ | apply Drawn0.step)⟩
  rw [if_pos c7] at H
  have c7b0 : ((l1.length : Int) == (l0.length : Int)) = true := beq_iff_eq.mpr c7
  have c7b1 : ((l1.length : Int) != (l0.length : Int)) = false := bne_eq_false_iff_eq.mpr c7
  have c7b2 : (l1.length == l0.length) = true := by first | simpa using c7 | (simp at c7 ⊢; omega)
  clear c7
  by_cases c8 : 0 < (l1.length : Int)
  rotate_left
  ·rw [if_neg c8] at H
   exact absurd H (by simp)
  rw [if_pos c8] at H
  have c8b0 : decide (0 < (l1.length : Int)) = true := decide_eq_true c8
  have c8b1 : decide (0 < l1.length) = true := decide_eq_true (by omega)
  clear c8
  have H' := Aside0.mk H
  clear H
  have p167 : 0 ≤ (0 : Int) := (by omega)
  have q167 : 0 < (l1.length : Int) := of_decide_eq_true (by first | (with_reducible assumption) | assumption)
  obtain ⟨ad167, e167, hx167_0⟩ := Kd.at_int HR1.out 0 p167 q167
  cases e167
  have qi167 : (0 < l1.length) = True := eq_true (by omega)
  (try rw [show ((0 : Int)).toNat = 0 from rfl] at hx167_0)
  (try rw [Addr.add_zero'] at hx167_0)
  replace p167 := eq_true p167
  replace q167 := eq_true q167
  go_wp2
  go_meet
  case rel => exact ⟨_, (((rd l1 0) != (-1))), (by first | rfl | (simp; done) | (simp [*]; done)), H', ⟨by first | omega | exact Nat.le_refl _⟩, by repeat (first | exact Drawn0.refl _ | apply Drawn0.step)⟩
 case rest =>
  clear HC4
  try clear c1
  try clear p1
  try clear q1
  try clear hx1
  try clear qi1
  try clear c2
  try clear p2
  try clear c5
  try clear c6
  try clear c6b0
  try clear c6b1
  try clear c7
  try clear c7b0
  try clear c7b1
  try clear c7b2
  try clear c8
  try clear c8b0
  try clear c8b1
  try clear hx167_0
  try clear p167
  try clear q167
  obtain ⟨kq, x33_3, rfl, HA, HJ3, ⟨mc3, rfl⟩⟩ := hcut
  cases kq with
  | zero => exact absurd HA.out (by simp [spec_StemValid.j0])
  | succ kj3 =>
   have H := HA.out
   clear HA
   simp only [spec_StemValid.j0] at H
   by_cases c9 : x33_3 = true
   ·subst c9
    have H1 : (some false) = some r := by rw [if_pos rfl] at H; exact H
    clear H
    have H := H1
    clear H1
    obtain rfl := Option.some.inj H
    go_wp2
    go_ret
    exact ⟨by first | rfl | (simp; done) | (simp [*]; done), by repeat (first | exact Drawn0.refl _ | apply Drawn0.step)⟩
   replace c9 := Bool.eq_false_iff.mpr c9
   subst c9
   have H1 : (spec_StemValid.l0 kj3 l1 1) = some r := by rw [if_neg (show ¬ (false = true) by decide)] at H; exact H
   clear H
   have H := H1
   clear H1
   have H' := Aside0.mk H
   clear H
   go_wp2
   go_loopg [7] kj3 (fun kq v7 w' => ∃ (x7_2 : Int), v7 = .int .i64 x7_2 ∧ Aside0 (spec_StemValid.l0 kq l1 x7_2 = some r) ∧ Aside0 (kq ≤ kj3) ∧ Drawn0 w w')
   case atStart => exact ⟨(1), (by first | rfl | (simp; done) | (simp [*]; done)), H', ⟨Nat.le_refl _⟩, by repeat (first | exact Drawn0.refl _ | apply Drawn0.step)⟩
   case round =>
    clear H'
    try clear c1
    try clear p1
    try clear q1
    try clear hx1
    try clear qi1
    try clear c2
    try clear p2
    try clear c3
    try clear c5
    try clear c6
    try clear c6b0
    try clear c6b1
    try clear c7
    try clear c7b0
    try clear c7b1
    try clear c7b2
    try clear c8
    try clear c8b0
    try clear c8b1
    try clear c9
    try clear hx167_0
    try clear p1
    try clear p167
    try clear p2
    try clear q1
    try clear q167
    obtain ⟨x7_2, rfl, HA, HK2, ⟨m2, rfl⟩⟩ := hrel
    cases gk with
    | zero => exact absurd HA.out (by simp [spec_StemValid.l0])
    | succ k2 =>
     have H := HA.out
     clear HA
     simp only [spec_StemValid.l0] at H
     by_cases c10 : x7_2 < (l1.length : Int)
     rotate_left
     ·rw [if_neg c10] at H
      have c10b0 : decide (x7_2 < (l1.length : Int)) = false := decide_eq_false c10
      clear c10
      obtain rfl := Option.some.inj H
      go_wp2
      go_ret
      exact ⟨by first | rfl | (simp; done) | (simp [*]; done), by repeat (first | exact Drawn0.refl _ | apply Drawn0.step)⟩
     rw [if_pos c10] at H
     have c10b0 : decide (x7_2 < (l1.length : Int)) = true := decide_eq_true c10
     clear c10
     by_cases c11 : 0 ≤ x7_2
     rotate_left
     ·rw [if_neg c11] at H
      exact absurd H (by simp)
     rw [if_pos c11] at H
     have c11b0 : decide (0 ≤ x7_2) = true := decide_eq_true c11
     clear c11
     replace H := Option.bind_eq_some_iff.mp H
     obtain ⟨t169, A120, H⟩ := H
     replace H : (if t169 = true then (spec_StemValid.l0 k2 l1 (wrap64 (x7_2 + 1))) else (some false)) = some r := H
     have A12 := Aside0.mk A120
     clear A120
     by_cases c13 : t169 = true
     rotate_left
     ·replace c13 := Bool.eq_false_iff.mpr c13
      subst c13
      have H1 : (some false) = some r := by rw [if_neg (show ¬ (false = true) by decide)] at H; exact H
      clear H
      have H := H1
      clear H1
      obtain rfl := Option.some.inj H
      have p168 : 0 ≤ (x7_2 : Int) := of_decide_eq_true (by first | (with_reducible assumption) | assumption)
      have q168 : x7_2 < (l1.length : Int) := of_decide_eq_true (by first | (with_reducible assumption) | assumption)
      obtain ⟨ad168, e168, hx168_0⟩ := Kd.at_int HR1.out x7_2 p168 q168
      cases e168
      replace p168 := eq_true p168
      replace q168 := eq_true q168
      go_wp2_with (first | ((with_reducible refine gate_callee (f := 62) rfl ?_); refine goesL_ (some 46) rfl rfl Tryd.func62 (by kernel_rfl) rfl #[.int .i64 (rd l1 x7_2), .int .i64 0, .int .i64 (wrap64 (x7_2 - 1))] rfl (by (try simp only [List.map_toArray, List.map_cons, List.map_nil]); first | done | rfl | (simp only [List.length_drop, List.length_take]; rfl)) ?_; (with_reducible refine (spec_l6In.calls (rd l1 x7_2) 0 (wrap64 (x7_2 - 1)) false _ A12.out).mono ?_); rintro e w' ⟨rfl, ⟨nd, rfl⟩⟩; refine ⟨_, rfl, ?_⟩))
      go_ret
      exact ⟨by first | rfl | (simp; done) | (simp [*]; done), by repeat (first | exact Drawn0.refl _ | apply Drawn0.step)⟩
     subst c13
     have H1 : (spec_StemValid.l0 k2 l1 (wrap64 (x7_2 + 1))) = some r := by rw [if_pos rfl] at H; exact H
     clear H
     have H := H1
     clear H1
     have H' := Aside0.mk H
     clear H
     have p168 : 0 ≤ (x7_2 : Int) := of_decide_eq_true (by first | (with_reducible assumption) | assumption)
     have q168 : x7_2 < (l1.length : Int) := of_decide_eq_true (by first | (with_reducible assumption) | assumption)
     obtain ⟨ad168, e168, hx168_0⟩ := Kd.at_int HR1.out x7_2 p168 q168
     cases e168
     replace p168 := eq_true p168
     replace q168 := eq_true q168
     go_wp2_with (first | ((with_reducible refine gate_callee (f := 62) rfl ?_); refine goesL_ (some 46) rfl rfl Tryd.func62 (by kernel_rfl) rfl #[.int .i64 (rd l1 x7_2), .int .i64 0, .int .i64 (wrap64 (x7_2 - 1))] rfl (by (try simp only [List.map_toArray, List.map_cons, List.map_nil]); first | done | rfl | (simp only [List.length_drop, List.length_take]; rfl)) ?_; (with_reducible refine (spec_l6In.calls (rd l1 x7_2) 0 (wrap64 (x7_2 - 1)) true _ A12.out).mono ?_); rintro e w' ⟨rfl, ⟨nd, rfl⟩⟩; refine ⟨_, rfl, ?_⟩))
     go_roundg k2
     case measure => have := HJ3.out; have := HK2.out; omega
     case rel => exact ⟨(wrap64 (x7_2 + 1)), (by first | rfl | (simp; done) | (simp [*]; done)), H', ⟨by have := HJ3.out; have := HK2.out; omega⟩, by repeat (first | exact Drawn0.refl _ | apply Drawn0.step)⟩
end Go.Proofs.YtejoneninbdjbaaDoor.E
end
section
namespace Go.Proofs.YtejoneninbdjbaaDoor.E
open Go.RowKit Go.Proofs.YtejoneninbdjbaaDoorW.PrintWords Go.Proofs.YtejoneninbdjbaaDoorW.PrintLast Go.Proofs.YtejoneninbdjbaaDoorW.PrintMore
attribute [local go_sem] max2_int min2_int max_two min_two max_three min_three max_four min_four
set_option linter.unusedVariables false
set_option linter.unusedSimpArgs false
attribute [local go_sem] str_leq_ str_gtr_ str_geq_
def spec_l7Best.l0 : Nat → List Int → Int → Int → Option (Int)
 | 0, _, _, _ => none
 | k + 1, x0, x5, x6 => if x6 < 4 then (if 0 ≤ x6 then (if x6 < (x0.length : Int) then (spec_l7Best.l0 k x0 (mn x5 (wrap64 ((rd x0 x6) + 1))) (wrap64 (x6 + 1))) else (none)) else (none)) else (some x5)
def spec_l7Best.f (k : Nat) (l0 : List Int) (a1 : Int) : Option (Int) := if 0 ≤ a1 then (if a1 < (l0.length : Int) then (spec_l7Best.l0 k l0 (rd l0 a1) 0) else (none)) else (none)
set_option maxHeartbeats 8000000 in
set_option maxRecDepth 100000 in
theorem spec_l7Best.calls (k : Nat) (A0 : Option Addr) (c0 : Nat) (l0 : List Int) (a1 : Int) (r : Int) (w : World) (hr0 : Kd.C (Kd.int .i64) w A0 l0.length l0) (hc0 : l0.length ≤ c0) (h : spec_l7Best.f k l0 a1 = some r) :
  Calls Tryd.prog 83 #[.slice A0 l0.length c0, .int .i64 a1] w fun e w' => e = .returned (.int .i64 r) ∧ Below w.heap.size w w' := by
 have HR0 := Aside0.mk hr0
 have HC0 := Aside0.mk hc0
 clear hr0 hc0
 have HB := Aside0.mk (Below.refl w.heap.size w)
 have H : (if 0 ≤ a1 then (if a1 < (l0.length : Int) then (spec_l7Best.l0 k l0 (rd l0 a1) 0) else (none)) else (none)) = some r := h
 clear h
 by_cases c3 : 0 ≤ a1
 rotate_left
 ·rw [if_neg c3] at H
  exact absurd H (by simp)
 rw [if_pos c3] at H
 have c3b0 : decide (0 ≤ a1) = true := decide_eq_true c3
 clear c3
 by_cases c4 : a1 < (l0.length : Int)
 rotate_left
 ·rw [if_neg c4] at H
  exact absurd H (by simp)
 rw [if_pos c4] at H
 have c4b0 : decide (a1 < (l0.length : Int)) = true := decide_eq_true c4
 clear c4
 have H' := Aside0.mk H
 clear H
 have p617 : 0 ≤ (a1 : Int) := of_decide_eq_true (by first | (with_reducible assumption) | assumption)
 have q617 : a1 < (l0.length : Int) := of_decide_eq_true (by first | (with_reducible assumption) | assumption)
 obtain ⟨ad617, e617, hx617_0⟩ := Kd.at_int HR0.out a1 p617 q617
 cases e617
 replace p617 := eq_true p617
 replace q617 := eq_true q617
 go_enter Tryd.func83, Tryd.ntmps83
 go_wp2
 go_loopg [5, 6] k (fun kq v5 v6 w' => ∃ (x5_1 : Int) (x6_1 : Int), v5 = .int .i64 x5_1 ∧ v6 = .int .i64 x6_1 ∧ Aside0 (spec_l7Best.l0 kq l0 x5_1 x6_1 = some r) ∧ Aside0 (kq ≤ k) ∧ Aside0 (Below w.heap.size w w'))
 case atStart => exact ⟨(rd l0 a1), (0), (by first | rfl | (simp; done) | (simp [*]; done)), (by first | rfl | (simp; done) | (simp [*]; done)), H', ⟨Nat.le_refl _⟩, ⟨by repeat (first | (with_reducible first | exact HB.out | apply below_alloc | apply pw_below_drewN | apply below_drew1) | exact HB.out)⟩⟩
 case round =>
  clear H'
  try clear p2
  try clear c3
  try clear c3b0
  try clear c4
  try clear c4b0
  try clear hx617_0
  try clear p617
  try clear q617
  obtain ⟨x5_1, x6_1, rfl, rfl, HA, HK1, HB⟩ := hrel
  cases gk with
  | zero => exact absurd HA.out (by simp [spec_l7Best.l0])
  | succ k1 =>
   have H := HA.out
   clear HA
   simp only [spec_l7Best.l0] at H
   by_cases c5 : x6_1 < 4
   rotate_left
   ·rw [if_neg c5] at H
    have c5b0 : decide (x6_1 < 4) = false := decide_eq_false c5
    clear c5
    obtain rfl := Option.some.inj H
    go_wp2
    go_ret
    exact ⟨by first | rfl | (simp [errW_none, errW_some] <;> rfl) | (simp [*, errW_none, errW_some] <;> rfl), by repeat (first | (with_reducible first | exact HB.out | apply below_alloc | apply pw_below_drewN | apply below_drew1) | exact HB.out)⟩
   rw [if_pos c5] at H
   have c5b0 : decide (x6_1 < 4) = true := decide_eq_true c5
   clear c5
   by_cases c6 : 0 ≤ x6_1
   rotate_left
   ·rw [if_neg c6] at H
    exact absurd H (by simp)
   rw [if_pos c6] at H
   have c6b0 : decide (0 ≤ x6_1) = true := decide_eq_true c6
   clear c6
   by_cases c7 : x6_1 < (l0.length : Int)
   rotate_left
   ·rw [if_neg c7] at H
    exact absurd H (by simp)
   rw [if_pos c7] at H
   have c7b0 : decide (x6_1 < (l0.length : Int)) = true := decide_eq_true c7
   clear c7
   obtain ⟨ji8, hji8⟩ : ∃ j_ : Int, (mn x5_1 (wrap64 ((rd l0 x6_1) + 1))) = j_ := ⟨_, rfl⟩
   replace H : (spec_l7Best.l0 k1 l0 ji8 (wrap64 (x6_1 + 1))) = some r := by first | (rw [hji8] at H; exact H) | (simp only [hji8] at H ⊢; exact H)
   have hji8_ : (if (wrap64 ((rd l0 x6_1) + 1)) < x5_1 then (wrap64 ((rd l0 x6_1) + 1)) else x5_1) = ji8 := hji8
   have H' := Aside0.mk H
   clear H
   have p618 : 0 ≤ (x6_1 : Int) := of_decide_eq_true (by first | (with_reducible assumption) | assumption)
   have q618 : x6_1 < (l0.length : Int) := of_decide_eq_true (by first | (with_reducible assumption) | assumption)
   obtain ⟨ad618, e618, hx618_0⟩ := Kd.at_int HR0.out x6_1 p618 q618
   obtain rfl : ad617 = ad618 := (by injection e618)
   replace hx618_0 := (HB.out.cell (World.block_lt_of_cell? w _ hx618_0)).trans hx618_0
   replace p618 := eq_true p618
   replace q618 := eq_true q618
   go_wp2
   first | go_roundg k1 | ((try simp only [← hji8] at H' ⊢); go_roundg k1)
   case measure => have := HK1.out; omega
   case rel => exact ⟨(ji8), (wrap64 (x6_1 + 1)), (by first | rfl | (simp; done) | (simp only [← hji8] <;> (first | rfl | simp)) | (simp [*]; done)), (by first | rfl | (simp; done) | (simp [*]; done)), H', ⟨by have := HK1.out; omega⟩, ⟨by repeat (first | (with_reducible first | exact HB.out | apply below_alloc | apply pw_below_drewN | apply below_drew1) | exact HB.out)⟩⟩
end Go.Proofs.YtejoneninbdjbaaDoor.E
end
section
namespace Go.Proofs.YtejoneninbdjbaaDoor.E
open Go.RowKit Go.Proofs.YtejoneninbdjbaaDoorW.PrintWords Go.Proofs.YtejoneninbdjbaaDoorW.PrintLast Go.Proofs.YtejoneninbdjbaaDoorW.PrintMore
attribute [local go_sem] max2_int min2_int max_two min_two max_three min_three max_four min_four
set_option linter.unusedVariables false
set_option linter.unusedSimpArgs false
attribute [local go_sem] str_leq_ str_gtr_ str_geq_
mutual
def spec_l7Below.l0 : Nat → List ByteArray → List Int → Int → List (List Int) → Int → Option ((List (List Int)))
 | 0, _, _, _, _, _ => none
 | k + 1, x0, x1, x2, x7, x8 => if x8 ≥ 0 then (if 4 ≤ 35184372088832 then (if 0 ≤ x8 then (if x8 < (x7.length : Int) then (spec_l7Below.l1 k x0 x1 x2 (x7.set (x8 : Int).toNat (List.replicate 4 0)) x8 0) else (none)) else (none)) else (none)) else (some x7)
def spec_l7Below.l1 : Nat → List ByteArray → List Int → Int → List (List Int) → Int → Int → Option ((List (List Int)))
 | 0, _, _, _, _, _, _ => none
 | k + 1, x0, x1, x2, x7, x8, x9 => if x9 < 4 then (if 0 ≤ x8 then (if x8 < (x0.length : Int) then (if 0 ≤ x2 then (if x2 < ((rdOf ByteArray.empty x0 x8).size : Int) then (if (bt (rdOf ByteArray.empty x0 x8) x2) = 63 then (spec_l7Below.j2 k x0 x1 x2 x7 x8 x9 false) else (spec_l7Below.j2 k x0 x1 x2 x7 x8 x9 ((wrap64 (bt (rdOf ByteArray.empty x0 x8) x2)) != (wrap64 (97 + x9))))) else (none)) else (none)) else (none)) else (none)) else (spec_l7Below.l0 k x0 x1 x2 x7 (wrap64 (x8 - 1)))
def spec_l7Below.j2 : Nat → List ByteArray → List Int → Int → List (List Int) → Int → Int → Bool → Option ((List (List Int)))
 | 0, _, _, _, _, _, _, _ => none
 | k + 1, x0, x1, x2, x7, x8, x9, x47 => if x47 = true then (if 0 ≤ x8 then (if x8 < (x7.length : Int) then (if 0 ≤ x9 then (if x9 < ((rd_L4 x7 x8).length : Int) then (spec_l7Below.j3 k x0 x1 x2 (x7.set (x8 : Int).toNat ((rd_L4 x7 x8).set (x9 : Int).toNat 1000)) x8 x9) else (none)) else (none)) else (none)) else (none)) else (spec_l7Below.j3 k x0 x1 x2 x7 x8 x9)
def spec_l7Below.j3 : Nat → List ByteArray → List Int → Int → List (List Int) → Int → Int → Option ((List (List Int)))
 | 0, _, _, _, _, _, _ => none
 | k + 1, x0, x1, x2, x7, x8, x9 => spec_l7Below.l2 k x0 x1 x2 x7 x8 x9 (wrap64 (x8 + 1))
def spec_l7Below.l2 : Nat → List ByteArray → List Int → Int → List (List Int) → Int → Int → Int → Option ((List (List Int)))
 | 0, _, _, _, _, _, _, _ => none
 | k + 1, x0, x1, x2, x7, x8, x9, x10 => if x10 < (x0.length : Int) then (if 0 ≤ x10 then (if x10 < (x1.length : Int) then (if (rd x1 x10) = x8 then (if 0 ≤ x8 then (if x8 < (x7.length : Int) then (if 0 ≤ x9 then (if x9 < ((rd_L4 x7 x8).length : Int) then (if x10 < (x7.length : Int) then ((spec_l7Best.f k (rd_L4 x7 x10) x9).bind fun t637 => (spec_l7Below.l2 k x0 x1 x2 (x7.set (x8 : Int).toNat ((rd_L4 x7 x8).set (x9 : Int).toNat (wrap64 ((rd (rd_L4 x7 x8) x9) + t637)))) x8 x9 (wrap64 (x10 + 1)))) else (none)) else (none)) else (none)) else (none)) else (none)) else (spec_l7Below.l2 k x0 x1 x2 x7 x8 x9 (wrap64 (x10 + 1)))) else (none)) else (none)) else (spec_l7Below.l1 k x0 x1 x2 x7 x8 (wrap64 (x9 + 1)))
end
def spec_l7Below.f (k : Nat) (l0 : List ByteArray) (l1 : List Int) (a2 : Int) : Option ((List (List Int))) := if 0 ≤ (l0.length : Int) then (if ((l0.length : Int) : Int).toNat ≤ 11728124029610 then (spec_l7Below.l0 k l0 l1 a2 (List.replicate ((l0.length : Int) : Int).toNat []) (wrap64 ((l0.length : Int) - 1))) else (none)) else (none)
def spec_l7Below.T15 : Bool × List (List Nat × List Nat) := (true, [([], []), ([], []), ([0, 1], [0, 1]), ([2], [2]), ([], []), ([], []), ([], []), ([5, 6], [5, 6]), ([7], [7]), ([], []), ([8, 9], [8, 9]), ([10], [10]), ([], []), ([], []), ([12, 13], [12, 13]), ([14], [14]), ([], []), ([15, 16], [15, 16]), ([11, 17], [11, 17]), ([3, 4, 0, 1, 2, 3, 4, 5, 6, 7, 8, 9, 10, 11, 12, 13, 14, 15, 16, 17, 18], [3, 4]), ([19, 18, 17, 0, 1, 2, 3, 4, 5, 6, 7, 8, 9, 10, 11, 12, 13, 14, 15, 16, 17, 18], [18, 19])])
def spec_l7Below.B15 : List Nat := [0, 0, 3, 7, 0, 0, 0, 96, 224, 0, 992, 2016, 0, 0, 12288, 28672, 0, 126976, 262112, 524287, 1048575]
theorem spec_l7Below.tab15 : rtab .any (opsOf Tryd.f73 15) = spec_l7Below.T15 := by kernel_rfl
theorem spec_l7Below.bits15 : waitsOk spec_l7Below.T15.2 spec_l7Below.B15 = true := by kernel_rfl
set_option maxHeartbeats 8000000 in
set_option maxRecDepth 100000 in
theorem spec_l7Below.calls (k : Nat) (A0 : Option Addr) (c0 : Nat) (l0 : List ByteArray) (A1 : Option Addr) (c1 : Nat) (l1 : List Int) (a2 : Int) (r : List (List Int)) (w : World) (hr0 : Kd.C Kd.string w A0 l0.length l0) (hc0 : l0.length ≤ c0) (hr1 : Kd.C (Kd.int .i64) w A1 l1.length l1) (hc1 : l1.length ≤ c1) (h : spec_l7Below.f k l0 l1 a2 = some r) :
  Calls Tryd.prog 73 #[.slice A0 l0.length c0, .slice A1 l1.length c1, .int .i64 a2] w fun e w' => ∃ v0_ : Value, e = .returned (v0_) ∧ Kd.S (Kd.slice 3 (Kd.int .i64)) 29 w' w.heap.size (fun _ => True) v0_ r ∧ Below w.heap.size w w' := by
 have HR0 := Aside0.mk hr0
 have HC0 := Aside0.mk hc0
 clear hr0 hc0
 have HR1 := Aside0.mk hr1
 have HC1 := Aside0.mk hc1
 clear hr1 hc1
 have HB := Aside0.mk (Below.refl w.heap.size w)
 have H : (if 0 ≤ (l0.length : Int) then (if ((l0.length : Int) : Int).toNat ≤ 11728124029610 then (spec_l7Below.l0 k l0 l1 a2 (List.replicate ((l0.length : Int) : Int).toNat []) (wrap64 ((l0.length : Int) - 1))) else (none)) else (none)) = some r := h
 clear h
 by_cases c4 : 0 ≤ (l0.length : Int)
 rotate_left
 ·rw [if_neg c4] at H
  exact absurd H (by simp)
 rw [if_pos c4] at H
 have c4b0 := eq_true c4
 have c4b1 : decide (0 ≤ (l0.length : Int)) = true := decide_eq_true c4
 clear c4
 by_cases c5 : ((l0.length : Int) : Int).toNat ≤ 11728124029610
 rotate_left
 ·rw [if_neg c5] at H
  exact absurd H (by simp)
 rw [if_pos c5] at H
 have c5b0 := eq_true c5
 have c5b1 : decide (((l0.length : Int) : Int).toNat ≤ 11728124029610) = true := decide_eq_true c5
 clear c5
 obtain ⟨y619, hy619⟩ : ∃ y_ : List (List Int), y_ = (List.replicate ((l0.length : Int) : Int).toNat []) := ⟨_, rfl⟩
 replace H : (spec_l7Below.l0 k l0 l1 a2 y619 (wrap64 ((l0.length : Int) - 1))) = some r := by first | (rw [hy619]; with_reducible exact H) | (have H2_ := (Option.bind_some _ _).symm.trans H; rw [hy619]; with_reducible exact H2_) | (have H2_ := (Option.bind_some _ _).symm.trans H; with_reducible exact H2_) | with_reducible exact H | (rw [hy619]; exact H) | exact H
 have Ny619 := Aside0.mk hy619
 clear hy619
 have H' := Aside0.mk H
 clear H
 go_enter Tryd.func73, Tryd.ntmps73
 go_wp2_with (first | ((with_reducible refine gate_dst (N := 13) rfl ?_); refine Kd.S_make (Kd.slice 3 (Kd.int .i64)) _ 29 rfl (N := 13) rfl 74 _ _ rfl (l0.length : Int) rfl rfl Tryd.underlying74 (.slice none 0 0) 24 info29 rfl (by decide) (by omega) [] (ok := fun _ => True) (okp := fun _ => True) ⟨_, rfl, Kd.R_nil _ _ _ _ _⟩ (fun _ hk => hk) trivial (of_decide_eq_true (by first | (with_reducible assumption) | assumption)) (Nat.le_trans (Nat.mul_le_mul_right _ (of_decide_eq_true (by first | (with_reducible assumption) | assumption) : (l0.length : Int).toNat ≤ 11728124029610)) (by omega)) (Below.refl _ _) (Nat.le_refl _) ?_; intro v620 w6 ho7 hb hg_ hnew_; clear hg_ hnew_; (first | rw [← Ny619.out] at ho7 | (simp only [Int.reduceToNat] at ho7; rw [← Ny619.out] at ho7)); have n0_ := Aside0.mk (Kd.S_lower ho7 (below_size (by repeat (first | (with_reducible first | exact HB.out | apply below_alloc | apply pw_below_drewN | apply below_drew1) | exact HB.out)))); have n1_ := Aside0.mk (below_step (by repeat (first | (with_reducible first | exact HB.out | apply below_alloc | apply pw_below_drewN | apply below_drew1) | exact HB.out)) hb); clear HB; have HO621 := n0_; have HB := n1_; clear n0_ n1_; clear hb ho7))
 go_loopg [8] k (fun kq v8 w' => ∃ (x7_1 : List (List Int)) (x8_1 : Int), v8 = .int .i64 x8_1 ∧ Aside0 (spec_l7Below.l0 kq l0 l1 a2 x7_1 x8_1 = some r) ∧ Aside0 (kq ≤ k) ∧ Aside0 (Kd.S (Kd.slice 3 (Kd.int .i64)) 29 w' w.heap.size (fun _ => True) v620 x7_1) ∧ Aside0 (Below w.heap.size w w'))
 case atStart => exact ⟨(y619), (wrap64 ((l0.length : Int) - 1)), (by first | rfl | (simp; done) | (simp [*]; done)), H', ⟨Nat.le_refl _⟩, ⟨by (with_reducible repeat (first | apply Kd.S_alloc | apply Kd.S_drewN | apply Kd.S_drew)); exact HO621.out⟩, ⟨by repeat (first | (with_reducible first | exact HB.out | apply below_alloc | apply pw_below_drewN | apply below_drew1) | exact HB.out)⟩⟩
 case round =>
  clear H'
  try clear c1
  try clear p2
  try clear c4
  try clear c4b0
  try clear c4b1
  try clear c5
  try clear c5b0
  try clear c5b1
  try clear p6
  try clear c7
  obtain ⟨x7_1, x8_1, rfl, HA, HK1, HO_7, HB⟩ := hrel
  cases gk with
  | zero => exact absurd HA.out (by simp [spec_l7Below.l0])
  | succ k1 =>
   have H := HA.out
   clear HA
   simp only [spec_l7Below.l0] at H
   by_cases c8 : x8_1 ≥ 0
   rotate_left
   ·rw [if_neg c8] at H
    have c8b0 : decide (0 ≤ x8_1) = false := decide_eq_false c8
    clear c8
    obtain rfl := Option.some.inj H
    go_wp2
    go_ret
    exact ⟨_, by first | rfl | (simp [errW_none, errW_some] <;> rfl) | (simp [*, errW_none, errW_some] <;> rfl), by (with_reducible repeat (first | apply Kd.S_alloc | apply Kd.S_drewN | apply Kd.S_drew)); exact HO_7.out, by repeat (first | (with_reducible first | exact HB.out | apply below_alloc | apply pw_below_drewN | apply below_drew1) | exact HB.out)⟩
   rw [if_pos c8] at H
   have c8b0 : decide (0 ≤ x8_1) = true := decide_eq_true c8
   clear c8
   by_cases c9 : 4 ≤ 35184372088832
   rotate_left
   ·rw [if_neg c9] at H
    exact absurd H (by simp)
   rw [if_pos c9] at H
   have c9b0 := eq_true c9
   have c9b1 : decide (4 ≤ 35184372088832) = true := decide_eq_true c9
   clear c9
   obtain ⟨y622, hy622⟩ : ∃ y_ : List Int, y_ = (List.replicate 4 0) := ⟨_, rfl⟩
   replace H : (if 0 ≤ x8_1 then (if x8_1 < (x7_1.length : Int) then (spec_l7Below.l1 k1 l0 l1 a2 (x7_1.set (x8_1 : Int).toNat y622) x8_1 0) else (none)) else (none)) = some r := by first | (rw [hy622]; with_reducible exact H) | (have H2_ := (Option.bind_some _ _).symm.trans H; rw [hy622]; with_reducible exact H2_) | (have H2_ := (Option.bind_some _ _).symm.trans H; with_reducible exact H2_) | with_reducible exact H | (rw [hy622]; exact H) | exact H
   have Ny622 := Aside0.mk hy622
   clear hy622
   by_cases c10 : 0 ≤ x8_1
   rotate_left
   ·rw [if_neg c10] at H
    exact absurd H (by simp)
   rw [if_pos c10] at H
   have c10b0 : decide (0 ≤ x8_1) = true := decide_eq_true c10
   clear c10
   by_cases c11 : x8_1 < (x7_1.length : Int)
   rotate_left
   ·rw [if_neg c11] at H
    exact absurd H (by simp)
   rw [if_pos c11] at H
   have c11b0 : decide (x8_1 < (x7_1.length : Int)) = true := decide_eq_true c11
   clear c11
   obtain ⟨y625, hy625⟩ : ∃ y_ : List (List Int), y_ = (x7_1.set (x8_1 : Int).toNat y622) := ⟨_, rfl⟩
   replace H : (spec_l7Below.l1 k1 l0 l1 a2 y625 x8_1 0) = some r := by first | (rw [hy625]; with_reducible exact H) | (have H2_ := (Option.bind_some _ _).symm.trans H; rw [hy625]; with_reducible exact H2_) | (have H2_ := (Option.bind_some _ _).symm.trans H; with_reducible exact H2_) | with_reducible exact H | (rw [hy625]; exact H) | exact H
   have Ny625 := Aside0.mk hy625
   clear hy625
   have H' := Aside0.mk H
   clear H
   go_wp2_with (first | ((with_reducible refine gate_dst (N := 23) rfl ?_); refine Kd.R_make (Kd.int .i64) _ 3 rfl (N := 23) rfl 29 _ _ rfl 4 rfl rfl Tryd.underlying29 (.int .i64 0) 8 info3 rfl (by decide) (by omega) 0 (ok := fun _ => True) (okp := fun _ => True) rfl (fun _ hk => hk) trivial (by omega) (by omega) (Below.refl _ _) (Nat.le_refl _) ?_; intro v623 w13 ho14 hb hg_ hnew_; clear hg_ hnew_; (first | rw [← Ny622.out] at ho14 | (simp only [Int.reduceToNat] at ho14; rw [← Ny622.out] at ho14)); have n0_ := Aside0.mk (Kd.S_elder' (by (with_reducible repeat (first | apply Kd.S_alloc | apply Kd.S_drewN | apply Kd.S_drew)); exact HO_7.out) (Kd.R_base ho14) hb); have n1_ := Aside0.mk (Kd.R_lower ho14 (below_size (by repeat (first | (with_reducible first | exact HB.out | apply below_alloc | apply pw_below_drewN | apply below_drew1) | exact HB.out)))); have n2_ := Aside0.mk (below_step (by repeat (first | (with_reducible first | exact HB.out | apply below_alloc | apply pw_below_drewN | apply below_drew1) | exact HB.out)) hb); clear HO_7; clear HB; have HO_7 := n0_; have HO624 := n1_; have HB := n2_; clear n0_ n1_ n2_; clear hb ho14; have p12 : 0 ≤ (x8_1 : Int) := of_decide_eq_true (by first | (with_reducible assumption) | assumption); have q12 : (x8_1 : Int) < ((x7_1.length : Int) : Int) := of_decide_eq_true (by first | (with_reducible assumption) | assumption); obtain ⟨go12, co12, eo12, gb12, gl12, cl12, HG12⟩ := Kd.S_form HO_7.out (by omega); (first | cases eo12 | (injection eo12 with ea_ en_ ec_; (first | subst ea_ | (injection ea_ with ea_; subst ea_)); subst ec_; clear en_)); have GB12 := Aside0.mk gb12; have GG12 := Aside0.mk HG12; clear gb12 gl12 HG12; obtain ⟨_, ce12, hcl12, hM12, hcc12, hfr12, _, _⟩ := Kd.S_elem HO_7.out [] (x8_1 : Int) p12 q12; obtain ⟨ve12_0, rfl, ge12_0⟩ := hM12; have hx12_0 := hcc12 0 _ rfl; have hf12_0 := hfr12 0; (try simp only [show ((Kd.slice 3 (Kd.int .i64))).sz = 1 from rfl, Nat.mul_one, Nat.add_zero] at hx12_0); (try simp only [show ((Kd.slice 3 (Kd.int .i64))).sz = 1 from rfl, Nat.mul_one, Nat.add_zero] at hf12_0); (try clear hM12); clear hcl12 hcc12 hfr12; replace p12 := eq_true p12; replace q12 := eq_true q12; obtain ⟨Ao15, co15, eo15⟩ := Kd.R_slice HO624.out; subst eo15; have n_ := Aside0.mk (Kd.S_mono (ok' := (fun k_ => some k_ ≠ (.slice Ao15 y622.length co15 : Value).ownBlock)) HO_7.out (fun k_ hk => hk.2)); clear HO_7; have HO_7 := n_; clear n_; have HX16 := Aside0.mk (show Kd.S (Kd.slice 3 (Kd.int .i64)) 29 w13 w.heap.size (fun k_ => ((fun _ => True)) k_ ∧ ¬ ((fun k_ => some k_ = (.slice Ao15 y622.length co15 : Value).ownBlock)) k_) (.slice (some ⟨go12, 0, none⟩) x7_1.length co12) x7_1 from (by (with_reducible repeat (first | apply Kd.S_alloc | apply Kd.S_drewN | apply Kd.S_drew)); exact Kd.S_mono HO_7.out (fun k_ hk => ⟨trivial, fun e_ => hk e_⟩))); obtain ⟨oki16, ce16, hcl16, hM16, hcc16, hfr16, hoki16, hH16⟩ := Kd.S_elem HX16.out [] (x8_1 : Int) (of_decide_eq_true (by first | (with_reducible assumption) | assumption)) (by have h_ : (x8_1 : Int) < ((x7_1.length : Int) : Int) := of_decide_eq_true (by first | (with_reducible assumption) | assumption); first | exact h_ | (have e_ := (Kd.S_reads' HO_7.out).1; omega) | simpa using h_); obtain ⟨ve16_0, rfl, ge16_0⟩ := hM16; have HP16 := Kd.S_seg hH16 (of_decide_eq_true (by first | (with_reducible assumption) | assumption)) (by have h_ : (x8_1 : Int) < ((x7_1.length : Int) : Int) := of_decide_eq_true (by first | (with_reducible assumption) | assumption); first | exact h_ | (have e_ := (Kd.S_reads' HO_7.out).1; omega) | simpa using h_) (seg := [.slice Ao15 y622.length co15]) (j := 0) (show 1 ≤ 1 from by decide) (x' := y622) (Kd.M_row (Kd.R_mono (Kd.R_tight rfl (Kd.R_mono (ok' := fun k_ => ((fun _ => True)) k_ ∧ k_ ≠ go12) (Kd.R_apart' (HO624.out) (Kd.S_typed HO_7.out) (by decide)) (fun k_ hk => ⟨trivial, fun e_ => (hk.2) (by rw [e_]; rfl)⟩))) (fun _ h_ => Or.inr (h_)))) (fun _ hk => hk) (fun k_ hk_ => ((Kd.R_mono (ok' := fun k_ => ((fun _ => True)) k_ ∧ k_ ≠ go12) (Kd.R_apart' (HO624.out) (Kd.S_typed HO_7.out) (by decide)) (fun k_ hk => ⟨trivial, fun e_ => (hk.2) (by rw [e_]; rfl)⟩))).1 k_ hk_.symm); have hx16_0 := hcc16 0 _ rfl; (try simp only [show ((Kd.slice 3 (Kd.int .i64))).sz = 1 from rfl, Nat.mul_one, Nat.add_zero] at hx16_0); have hf16_0 := hfr16 0; (try simp only [show ((Kd.slice 3 (Kd.int .i64))).sz = 1 from rfl, Nat.mul_one, Nat.add_zero] at hf16_0); (try clear hM16); clear hcl16 hcc16 hfr16 hoki16 hH16; (try simp only [show ((Kd.slice 3 (Kd.int .i64))).sz = 1 from rfl, Nat.mul_one, Nat.add_zero] at HP16)) | ((with_reducible refine gate_store (t := 29) (p := 24) rfl ?_); refine store_event (t := 29) (p := 24) (v := ?vo_w17) (w1 := (w13.setCell ⟨go12, (x8_1 : Int).toNat, none⟩ (.slice Ao15 y622.length co15))) ?hg ?ho ?hn ?hr ?_; (case ho => rfl); (case hg => rfl); (case hn => rfl); (case hr => first | (go_simp; done) | (go_simp; rfl)); intro w17 hw; have hg : w13.grownBy w17 (some go12) := (by rw [hw]; exact HP16.2); have hp_ : Kd.S (Kd.slice 3 (Kd.int .i64)) 29 w17 w.heap.size (fun _ => True) (.slice (some ⟨go12, 0, none⟩) x7_1.length co12) y625 := (by rw [hw, Ny625.out]; exact HP16.1); clear HP16; have n0_ := Aside0.mk (hp_); have n1_ := Aside0.mk ((by rw [hw]; exact below_set (HB.out) GB12.out : Below w.heap.size w w17)); clear HO_7; clear HB; clear HO624; have HO_7 := n0_; have HB := n1_; clear n0_ n1_; clear hg hw hp_))
   go_loopg [9] k1 (fun kq v9 w' => ∃ (x7_2 : List (List Int)) (x9_2 : Int), v9 = .int .i64 x9_2 ∧ Aside0 (spec_l7Below.l1 kq l0 l1 a2 x7_2 x8_1 x9_2 = some r) ∧ Aside0 (kq ≤ k1) ∧ Aside0 (Kd.S (Kd.slice 3 (Kd.int .i64)) 29 w' w.heap.size (fun _ => True) (.slice (some ⟨go12, 0, none⟩) x7_1.length co12) x7_2) ∧ Aside0 (Below w.heap.size w w'))
   case atStart => exact ⟨(y625), (0), (by first | rfl | (simp; done) | (simp [*]; done)), H', ⟨Nat.le_refl _⟩, ⟨by (with_reducible repeat (first | apply Kd.S_alloc | apply Kd.S_drewN | apply Kd.S_drew)); exact HO_7.out⟩, ⟨by repeat (first | (with_reducible first | exact HB.out | apply below_alloc | apply pw_below_drewN | apply below_drew1) | exact HB.out)⟩⟩
   case round =>
    clear H'
    try clear c1
    try clear p1
    try clear q1
    try clear hx1
    try clear p2
    try clear c4
    try clear c4b0
    try clear c4b1
    try clear c5
    try clear c5b0
    try clear c5b1
    try clear p6
    try clear c7
    try clear c8
    try clear c8b0
    try clear c9
    try clear c9b0
    try clear c9b1
    try clear c10
    try clear c10b0
    try clear c11
    try clear c11b0
    try clear c12
    try clear p12
    try clear q12
    try clear hx12
    try clear hf12
    try clear c16
    try clear hx16
    try clear hf16
    try clear hx12_0
    try clear hx16_0
    try clear p12
    try clear p2
    try clear p6
    try clear q12
    obtain ⟨x7_2, x9_2, rfl, HA, HK2, HO_7, HB⟩ := hrel
    have hl7_2 := (Kd.S_reads' HO_7.out).1
    rw [hl7_2] at HO_7
    (try simp only [hl7_2])
    cases gk with
    | zero => exact absurd HA.out (by simp [spec_l7Below.l1])
    | succ k2 =>
     have H := HA.out
     clear HA
     simp only [spec_l7Below.l1] at H
     by_cases c18 : x9_2 < 4
     rotate_left
     ·rw [if_neg c18] at H
      have c18b0 : decide (x9_2 < 4) = false := decide_eq_false c18
      clear c18
      have H' := Aside0.mk H
      clear H
      go_wp2
      (try simp only [← hl7_2])
      go_roundg k2
      case measure => have := HK1.out; have := HK2.out; omega
      case rel => exact ⟨(x7_2), (wrap64 (x8_1 - 1)), (by first | rfl | (simp; done) | (simp [*]; done)), H', ⟨by have := HK1.out; have := HK2.out; omega⟩, ⟨by (try simp only [hl7_2]); (with_reducible repeat (first | apply Kd.S_alloc | apply Kd.S_drewN | apply Kd.S_drew)); exact HO_7.out⟩, ⟨by repeat (first | (with_reducible first | exact HB.out | apply below_alloc | apply pw_below_drewN | apply below_drew1) | exact HB.out)⟩⟩
     rw [if_pos c18] at H
     have c18b0 : decide (x9_2 < 4) = true := decide_eq_true c18
     clear c18
     have HC19 := Aside0.mk H
     clear H
     go_upto_region 9 with (fail)
     go_cut [47] (fun v47 wc => ∃ (kq : Nat) (x47_18 : Bool), v47 = .bool x47_18 ∧ Aside0 (spec_l7Below.j2 kq l0 l1 a2 x7_2 x8_1 x9_2 x47_18 = some r) ∧ Aside0 (kq ≤ k2) ∧ Aside0 (Kd.S (Kd.slice 3 (Kd.int .i64)) 29 wc w.heap.size (fun _ => True) (.slice (some ⟨go12, 0, none⟩) x7_2.length co12) x7_2) ∧ Aside0 (Below w.heap.size w wc))
     case first =>
      have H := HC19.out
      clear HC19
      by_cases c20 : 0 ≤ x8_1
      rotate_left
      ·rw [if_neg c20] at H
       exact absurd H (by simp)
      rw [if_pos c20] at H
      have c20b0 : decide (0 ≤ x8_1) = true := decide_eq_true c20
      clear c20
      (first | rw [c20b0] | (simp only [i64_w, i32_w]; rw [c20b0]) | skip)
      by_cases c21 : x8_1 < (l0.length : Int)
      rotate_left
      ·rw [if_neg c21] at H
       exact absurd H (by simp)
      rw [if_pos c21] at H
      have c21b0 : decide (x8_1 < (l0.length : Int)) = true := decide_eq_true c21
      clear c21
      by_cases c22 : 0 ≤ a2
      rotate_left
      ·rw [if_neg c22] at H
       exact absurd H (by simp)
      rw [if_pos c22] at H
      have c22b0 : decide (0 ≤ a2) = true := decide_eq_true c22
      clear c22
      by_cases c23 : a2 < ((rdOf ByteArray.empty l0 x8_1).size : Int)
      rotate_left
      ·rw [if_neg c23] at H
       exact absurd H (by simp)
      rw [if_pos c23] at H
      have c23b0 : decide (a2 < ((rdOf ByteArray.empty l0 x8_1).size : Int)) = true := decide_eq_true c23
      clear c23
      by_cases c25 : (bt (rdOf ByteArray.empty l0 x8_1) a2) = 63
      ·rw [if_pos c25] at H
       have c25b0 : ((bt (rdOf ByteArray.empty l0 x8_1) a2) == 63) = true := beq_iff_eq.mpr c25
       have c25b1 : ((bt (rdOf ByteArray.empty l0 x8_1) a2) != 63) = false := bne_eq_false_iff_eq.mpr c25
       clear c25
       have H' := Aside0.mk H
       clear H
       have p626 : 0 ≤ (x8_1 : Int) := of_decide_eq_true (by first | (with_reducible assumption) | assumption)
       have q626 : x8_1 < (l0.length : Int) := of_decide_eq_true (by first | (with_reducible assumption) | assumption)
       obtain ⟨ad626, e626, hx626_0⟩ := Kd.at_string HR0.out x8_1 p626 q626
       cases e626
       replace hx626_0 := (HB.out.cell (World.block_lt_of_cell? w _ hx626_0)).trans hx626_0
       replace p626 := eq_true p626
       replace q626 := eq_true q626
       have p24 : 0 ≤ (a2 : Int) := of_decide_eq_true (by first | (with_reducible assumption) | assumption)
       have q24 : a2 < ((rdOf ByteArray.empty l0 x8_1).size : Int) := of_decide_eq_true (by first | (with_reducible assumption) | assumption)
       have hx24 := bt_at (rdOf ByteArray.empty l0 x8_1) a2
       replace p24 := eq_true p24
       replace q24 := eq_true q24
       go_wp2
       go_meet
       case rel => exact ⟨_, (false), (by first | rfl | (simp; done) | (simp [*]; done)), H', ⟨by have := HK1.out; have := HK2.out; first | omega | exact Nat.le_refl _⟩, ⟨by (try simp only [hl7_2]); (with_reducible repeat (first | apply Kd.S_alloc | apply Kd.S_drewN | apply Kd.S_drew)); exact HO_7.out⟩, ⟨by repeat (first | (with_reducible first | exact HB.out | apply below_alloc | apply pw_below_drewN | apply below_drew1) | exact HB.out)⟩⟩
      rw [if_neg c25] at H
      have c25b0 : ((bt (rdOf ByteArray.empty l0 x8_1) a2) == 63) = false := beq_eq_false_iff_ne.mpr c25
      have c25b1 : ((bt (rdOf ByteArray.empty l0 x8_1) a2) != 63) = true := bne_iff_ne.mpr c25
      have H' := Aside0.mk H
      clear H
      have p626 : 0 ≤ (x8_1 : Int) := of_decide_eq_true (by first | (with_reducible assumption) | assumption)
      have q626 : x8_1 < (l0.length : Int) := of_decide_eq_true (by first | (with_reducible assumption) | assumption)
      obtain ⟨ad626, e626, hx626_0⟩ := Kd.at_string HR0.out x8_1 p626 q626
      cases e626
      replace hx626_0 := (HB.out.cell (World.block_lt_of_cell? w _ hx626_0)).trans hx626_0
      replace p626 := eq_true p626
      replace q626 := eq_true q626
      have p24 : 0 ≤ (a2 : Int) := of_decide_eq_true (by first | (with_reducible assumption) | assumption)
      have q24 : a2 < ((rdOf ByteArray.empty l0 x8_1).size : Int) := of_decide_eq_true (by first | (with_reducible assumption) | assumption)
      have hx24 := bt_at (rdOf ByteArray.empty l0 x8_1) a2
      replace p24 := eq_true p24
      replace q24 := eq_true q24
      have p627 : 0 ≤ (x8_1 : Int) := of_decide_eq_true (by first | (with_reducible assumption) | assumption)
      have q627 : x8_1 < (l0.length : Int) := of_decide_eq_true (by first | (with_reducible assumption) | assumption)
      obtain ⟨ad627, e627, hx627_0⟩ := Kd.at_string HR0.out x8_1 p627 q627
      obtain rfl : ad626 = ad627 := (by injection e627)
      replace hx627_0 := (HB.out.cell (World.block_lt_of_cell? w _ hx627_0)).trans hx627_0
      replace p627 := eq_true p627
      replace q627 := eq_true q627
      have p26 : 0 ≤ (a2 : Int) := of_decide_eq_true (by first | (with_reducible assumption) | assumption)
      have q26 : a2 < ((rdOf ByteArray.empty l0 x8_1).size : Int) := of_decide_eq_true (by first | (with_reducible assumption) | assumption)
      have hx26 := bt_at (rdOf ByteArray.empty l0 x8_1) a2
      replace p26 := eq_true p26
      replace q26 := eq_true q26
      go_wp2
      go_meet
      case rel => exact ⟨_, (((wrap64 (bt (rdOf ByteArray.empty l0 x8_1) a2)) != (wrap64 (97 + x9_2)))), (by first | rfl | (simp; done) | (simp [*]; done)), H', ⟨by have := HK1.out; have := HK2.out; first | omega | exact Nat.le_refl _⟩, ⟨by (try simp only [hl7_2]); (with_reducible repeat (first | apply Kd.S_alloc | apply Kd.S_drewN | apply Kd.S_drew)); exact HO_7.out⟩, ⟨by repeat (first | (with_reducible first | exact HB.out | apply below_alloc | apply pw_below_drewN | apply below_drew1) | exact HB.out)⟩⟩
     case rest =>
      clear HC19
      try clear c1
      try clear p1
      try clear q1
      try clear hx1
      try clear c2
      try clear p2
      try clear q2
      try clear hx2
      try clear c4
      try clear c4b0
      try clear c4b1
      try clear c5
      try clear c5b0
      try clear c5b1
      try clear p6
      try clear q6
      try clear hx6
      try clear c7
      try clear c8
      try clear c8b0
      try clear c9
      try clear c9b0
      try clear c9b1
      try clear c10
      try clear c10b0
      try clear c11
      try clear c11b0
      try clear c12
      try clear p12
      try clear q12
      try clear hx12
      try clear hf12
      try clear c16
      try clear hx16
      try clear hf16
      try clear c18
      try clear c18b0
      try clear c20
      try clear c20b0
      try clear c21
      try clear c21b0
      try clear c22
      try clear c22b0
      try clear c23
      try clear c23b0
      try clear p24
      try clear q24
      try clear hx24
      try clear c25
      try clear c25b0
      try clear c25b1
      try clear p26
      try clear q26
      try clear hx26
      try clear hx12_0
      try clear hx16_0
      try clear hx626_0
      try clear hx627_0
      try clear p1
      try clear p12
      try clear p2
      try clear p24
      try clear p26
      try clear p6
      try clear p626
      try clear p627
      try clear q1
      try clear q12
      try clear q24
      try clear q26
      try clear q626
      try clear q627
      obtain ⟨kq, x47_18, rfl, HA, HJ18, HO_7, HB⟩ := hcut
      cases kq with
      | zero => exact absurd HA.out (by simp [spec_l7Below.j2])
      | succ kj18 =>
       have H := HA.out
       clear HA
       simp only [spec_l7Below.j2] at H
       have HC27 := Aside0.mk H
       clear H
       go_upto_if 47 with (fail)
       go_cut [] (fun wc => ∃ (kq : Nat) (x7_26 : List (List Int)), Aside0 (spec_l7Below.j3 kq l0 l1 a2 x7_26 x8_1 x9_2 = some r) ∧ Aside0 (kq ≤ kj18) ∧ Aside0 (Kd.S (Kd.slice 3 (Kd.int .i64)) 29 wc w.heap.size (fun _ => True) (.slice (some ⟨go12, 0, none⟩) x7_2.length co12) x7_26) ∧ Aside0 (Below w.heap.size w wc))
       case first =>
        have H := HC27.out
        clear HC27
        by_cases c28 : x47_18 = true
        rotate_left
        ·replace c28 := Bool.eq_false_iff.mpr c28
         subst c28
         have H1 : (spec_l7Below.j3 kj18 l0 l1 a2 x7_2 x8_1 x9_2) = some r := by rw [if_neg (show ¬ (false = true) by decide)] at H; exact H
         clear H
         have H := H1
         clear H1
         have H' := Aside0.mk H
         clear H
         go_wp2
         go_meet
         case rel => exact ⟨_, (x7_2), H', ⟨by have := HK1.out; have := HK2.out; have := HJ18.out; first | omega | exact Nat.le_refl _⟩, ⟨by (try simp only [hl7_2]); (with_reducible repeat (first | apply Kd.S_alloc | apply Kd.S_drewN | apply Kd.S_drew)); exact HO_7.out⟩, ⟨by repeat (first | (with_reducible first | exact HB.out | apply below_alloc | apply pw_below_drewN | apply below_drew1) | exact HB.out)⟩⟩
        subst c28
        have H1 : (if 0 ≤ x8_1 then (if x8_1 < (x7_2.length : Int) then (if 0 ≤ x9_2 then (if x9_2 < ((rd_L4 x7_2 x8_1).length : Int) then (spec_l7Below.j3 kj18 l0 l1 a2 (x7_2.set (x8_1 : Int).toNat ((rd_L4 x7_2 x8_1).set (x9_2 : Int).toNat 1000)) x8_1 x9_2) else (none)) else (none)) else (none)) else (none)) = some r := by rw [if_pos rfl] at H; exact H
        clear H
        have H := H1
        clear H1
        by_cases c29 : 0 ≤ x8_1
        rotate_left
        ·rw [if_neg c29] at H
         exact absurd H (by simp)
        rw [if_pos c29] at H
        have c29b0 : decide (0 ≤ x8_1) = true := decide_eq_true c29
        clear c29
        (first | rw [c29b0] | (simp only [i64_w, i32_w]; rw [c29b0]) | skip)
        by_cases c30 : x8_1 < (x7_2.length : Int)
        rotate_left
        ·rw [if_neg c30] at H
         exact absurd H (by simp)
        rw [if_pos c30] at H
        have c30b0 : decide (x8_1 < (x7_2.length : Int)) = true := decide_eq_true c30
        clear c30
        by_cases c31 : 0 ≤ x9_2
        rotate_left
        ·rw [if_neg c31] at H
         exact absurd H (by simp)
        rw [if_pos c31] at H
        have c31b0 : decide (0 ≤ x9_2) = true := decide_eq_true c31
        clear c31
        by_cases c32 : x9_2 < ((rd_L4 x7_2 x8_1).length : Int)
        rotate_left
        ·rw [if_neg c32] at H
         exact absurd H (by simp)
        rw [if_pos c32] at H
        have c32b0 : decide (x9_2 < ((rd_L4 x7_2 x8_1).length : Int)) = true := decide_eq_true c32
        clear c32
        obtain ⟨y629, hy629⟩ : ∃ y_ : List Int, y_ = ((rd_L4 x7_2 x8_1).set (x9_2 : Int).toNat 1000) := ⟨_, rfl⟩
        replace H : (spec_l7Below.j3 kj18 l0 l1 a2 (x7_2.set (x8_1 : Int).toNat y629) x8_1 x9_2) = some r := by first | (rw [hy629]; with_reducible exact H) | (have H2_ := (Option.bind_some _ _).symm.trans H; rw [hy629]; with_reducible exact H2_) | (have H2_ := (Option.bind_some _ _).symm.trans H; with_reducible exact H2_) | with_reducible exact H | (rw [hy629]; exact H) | exact H
        have Ny629 := Aside0.mk hy629
        clear hy629
        obtain ⟨y631, hy631⟩ : ∃ y_ : List (List Int), y_ = (x7_2.set (x8_1 : Int).toNat y629) := ⟨_, rfl⟩
        replace H : (spec_l7Below.j3 kj18 l0 l1 a2 y631 x8_1 x9_2) = some r := by first | (rw [hy631]; with_reducible exact H) | (have H2_ := (Option.bind_some _ _).symm.trans H; rw [hy631]; with_reducible exact H2_) | (have H2_ := (Option.bind_some _ _).symm.trans H; with_reducible exact H2_) | with_reducible exact H | (rw [hy631]; exact H) | exact H
        have Ny631 := Aside0.mk hy631
        clear hy631
        have H' := Aside0.mk H
        clear H
        have p628 : 0 ≤ (x8_1 : Int) := of_decide_eq_true (by first | (with_reducible assumption) | assumption)
        have q628 : x8_1 < (x7_2.length : Int) := of_decide_eq_true (by first | (with_reducible assumption) | assumption)
        obtain ⟨ad628, A628_0, c628_0, e628, hx628_0, hl628_0, hi628_0⟩ := at_L4 (Kd.S_reads' HO_7.out).2.2 x8_1 p628 q628
        obtain rfl : (⟨go12, 0, none⟩ : Addr) = ad628 := (by injection e628)
        obtain ⟨ce628, hce628, hMe628, hcc628⟩ := Kd.S_get HO_7.out [] x8_1 p628 (by first | exact q628 | exact of_decide_eq_true (by first | (with_reducible assumption) | assumption) | (have e_ := (Kd.S_reads' HO_7.out).1; omega))
        obtain ⟨ve628_0, rfl, ge628_0⟩ := hMe628
        have hv628_0 := hcc628 0 _ rfl
        rw [Nat.add_zero, show ((Kd.slice 3 (Kd.int .i64))).sz = 1 from rfl, Nat.mul_one] at hv628_0
        replace hv628_0 := Option.some.inj (hv628_0.symm.trans hx628_0)
        rw [hv628_0] at ge628_0
        have HL628_0 := Aside0.mk (show Kd.R (Kd.int .i64) 3 _ _ _ _ (rd_L4 x7_2 x8_1) from ge628_0)
        clear hv628_0 ge628_0
        have HX628_0 := Aside0.mk hx628_0
        clear hcc628 hce628
        (first | simp only [add_plain] at hx628_0 | simp only [add_at] at hx628_0 | simp only [Addr.add, Nat.zero_add] at hx628_0 | skip)
        have HR628_0 := Aside0.mk hi628_0
        have HC628_0 := Aside0.mk hl628_0
        clear hi628_0 hl628_0
        replace p628 := eq_true p628
        replace q628 := eq_true q628
        have p33 : 0 ≤ (x9_2 : Int) := of_decide_eq_true (by first | (with_reducible assumption) | assumption)
        have q33 : (x9_2 : Int) < (((rd_L4 x7_2 x8_1).length : Int) : Int) := of_decide_eq_true (by first | (with_reducible assumption) | assumption)
        obtain ⟨go33, co33, eo33, gb33, gl33, cl33, HG33⟩ := Kd.R_form HL628_0.out (by omega)
        (first | cases eo33 | (injection eo33 with ea_ en_ ec_; (first | subst ea_ | (injection ea_ with ea_; subst ea_)); subst ec_; clear en_))
        have GB33 := Aside0.mk gb33
        have GG33 := Aside0.mk HG33
        clear gb33 gl33 HG33
        obtain ⟨hx33_0, hf33_0⟩ := Kd.R_celln 0 HL628_0.out (x9_2 : Int) p33 q33
        replace p33 := eq_true p33
        replace q33 := eq_true q33
        have hq34 : (x8_1 : Int) < (x7_2.length : Int) := (by have h_ : (x8_1 : Int) < ((x7_2.length : Int) : Int) := of_decide_eq_true (by first | (with_reducible assumption) | assumption); first | exact h_ | (have e_ := (Kd.S_reads' HO_7.out).1; omega) | simpa only [List.length_set, List.length_set] using h_)
        obtain ⟨oki34, ce34, hcl34, hM34, hcc34, hok34, hbk34⟩ := Kd.S_borrow HO_7.out [] (x8_1 : Int) (of_decide_eq_true (by first | (with_reducible assumption) | assumption)) hq34
        obtain ⟨ve34_0, rfl, ge34_0⟩ := hM34
        have hv34 := hcc34 0 _ rfl
        rw [Nat.add_zero, show ((Kd.slice 3 (Kd.int .i64))).sz = 1 from rfl, Nat.mul_one] at hv34
        replace hv34 := Option.some.inj (hv34.symm.trans HX628_0.out)
        subst hv34
        clear hcc34 hcl34
        replace ge34_0 := (show Kd.R (Kd.int .i64) 3 _ _ _ _ (rd_L4 x7_2 x8_1) from ge34_0)
        have HP34 := Kd.R_putg ge34_0 (x9_2 : Int) 1000
        go_wp2_with (first | ((with_reducible refine gate_store (t := 3) (p := 53) rfl ?_); refine store_event (t := 3) (p := 53) (v := ?vo_w35) (w1 := (wc.setCell ⟨go33, (x9_2 : Int).toNat, none⟩ (.int .i64 1000))) ?hg ?ho ?hn ?hr ?_; (case ho => rfl); (case hg => rfl); (case hn => rfl); (case hr => first | (go_simp; done) | (go_simp; rfl)); intro w35 hw; have hg : wc.grownBy w35 (some go33) := (by rw [hw]; exact HP34.2); have hz_ : Kd.R (Kd.int .i64) 3 w35 w.heap.size oki34 (.slice (some ⟨go33, 0, none⟩) (rd_L4 x7_2 x8_1).length c628_0) y629 := (by rw [hw, Ny629.out]; exact HP34.1); have hp_ : Kd.S (Kd.slice 3 (Kd.int .i64)) 29 w35 w.heap.size (fun _ => True) (.slice (some ⟨go12, 0, none⟩) x7_2.length co12) y631 := (by rw [Ny631.out]; exact hbk34 hg (fun k_ e_ => by injection e_ with e_; subst e_; exact ge34_0.1 _ rfl) (Kd.M_row hz_)); have hm_ := Kd.R_mono hz_ hok34; clear HP34 hbk34; have n0_ := Aside0.mk (hp_); have n1_ := Aside0.mk ((by rw [hw]; exact below_set (HB.out) GB33.out : Below w.heap.size w w35)); have n2_ := Aside0.mk (hm_); have n3_ := Aside0.mk ((Kd.R_reads' hm_).2.1); clear HO_7; clear HB; clear HL628_0; have HO_7 := n0_; have HB := n1_; have HL641 := n2_; have HC630 := n3_; clear n0_ n1_ n2_ n3_; clear hg hw hp_ hz_ hm_ hok34))
        go_meet
        case rel => exact ⟨_, (y631), H', ⟨by have := HK1.out; have := HK2.out; have := HJ18.out; first | omega | exact Nat.le_refl _⟩, ⟨by (try simp only [hl7_2]); (with_reducible repeat (first | apply Kd.S_alloc | apply Kd.S_drewN | apply Kd.S_drew)); exact HO_7.out⟩, ⟨by repeat (first | (with_reducible first | exact HB.out | apply below_alloc | apply pw_below_drewN | apply below_drew1) | exact HB.out)⟩⟩
       case rest =>
        clear HC27
        try clear c1
        try clear p1
        try clear q1
        try clear hx1
        try clear c2
        try clear p2
        try clear q2
        try clear hx2
        try clear c3
        try clear p3
        try clear q3
        try clear hx3
        try clear hf3
        try clear c4
        try clear c4b0
        try clear c4b1
        try clear c5
        try clear c5b0
        try clear c5b1
        try clear c6
        try clear p6
        try clear q6
        try clear hx6
        try clear c7
        try clear c8
        try clear c8b0
        try clear c9
        try clear c9b0
        try clear c9b1
        try clear c10
        try clear c10b0
        try clear c11
        try clear c11b0
        try clear c12
        try clear p12
        try clear q12
        try clear hx12
        try clear hf12
        try clear c16
        try clear hx16
        try clear hf16
        try clear c18
        try clear c18b0
        try clear c20
        try clear c20b0
        try clear c21
        try clear c21b0
        try clear c22
        try clear c22b0
        try clear c23
        try clear c23b0
        try clear p24
        try clear q24
        try clear hx24
        try clear c25
        try clear c25b0
        try clear c25b1
        try clear p26
        try clear q26
        try clear hx26
        try clear c28
        try clear c29
        try clear c29b0
        try clear c30
        try clear c30b0
        try clear c31
        try clear c31b0
        try clear c32
        try clear c32b0
        try clear p33
        try clear q33
        try clear hx33
        try clear hf33
        try clear c34
        try clear q34
        try clear hx12_0
        try clear hx16_0
        try clear hx33_0
        try clear hx626_0
        try clear hx627_0
        try clear hx628_0
        try clear p1
        try clear p12
        try clear p2
        try clear p24
        try clear p26
        try clear p33
        try clear p6
        try clear p626
        try clear p627
        try clear p628
        try clear q1
        try clear q12
        try clear q2
        try clear q24
        try clear q26
        try clear q33
        try clear q6
        try clear q626
        try clear q627
        try clear q628
        obtain ⟨kq, x7_26, HA, HJ26, HO_7, HB⟩ := hcut
        have hl7_26 := (Kd.S_reads' HO_7.out).1
        rw [hl7_26] at HO_7
        (try simp only [hl7_26])
        cases kq with
        | zero => exact absurd HA.out (by simp [spec_l7Below.j3])
        | succ kj26 =>
         have H := HA.out
         clear HA
         simp only [spec_l7Below.j3] at H
         have H' := Aside0.mk H
         clear H
         go_wp2
         go_loopg [10] kj26 (fun kq v10 w' => ∃ (x7_5 : List (List Int)) (x10_5 : Int), v10 = .int .i64 x10_5 ∧ Aside0 (spec_l7Below.l2 kq l0 l1 a2 x7_5 x8_1 x9_2 x10_5 = some r) ∧ Aside0 (kq ≤ kj26) ∧ Aside0 (Kd.S (Kd.slice 3 (Kd.int .i64)) 29 w' w.heap.size (fun _ => True) (.slice (some ⟨go12, 0, none⟩) x7_26.length co12) x7_5) ∧ Aside0 (Below w.heap.size w w'))
         case atStart => exact ⟨(x7_26), (wrap64 (x8_1 + 1)), (by first | rfl | (simp; done) | (simp [*]; done)), H', ⟨Nat.le_refl _⟩, ⟨by (try simp only [hl7_2]); (try simp only [hl7_26]); (with_reducible repeat (first | apply Kd.S_alloc | apply Kd.S_drewN | apply Kd.S_drew)); exact HO_7.out⟩, ⟨by repeat (first | (with_reducible first | exact HB.out | apply below_alloc | apply pw_below_drewN | apply below_drew1) | exact HB.out)⟩⟩
         case round =>
          clear H'
          try clear c1
          try clear p1
          try clear q1
          try clear hx1
          try clear c2
          try clear p2
          try clear q2
          try clear hx2
          try clear c3
          try clear p3
          try clear q3
          try clear hx3
          try clear hf3
          try clear c4
          try clear c4b0
          try clear c4b1
          try clear c5
          try clear c5b0
          try clear c5b1
          try clear c6
          try clear p6
          try clear q6
          try clear hx6
          try clear c7
          try clear c8
          try clear c8b0
          try clear c9
          try clear c9b0
          try clear c9b1
          try clear c10
          try clear c10b0
          try clear c11
          try clear c11b0
          try clear c12
          try clear p12
          try clear q12
          try clear hx12
          try clear hf12
          try clear c16
          try clear hx16
          try clear hf16
          try clear c18
          try clear c18b0
          try clear c20
          try clear c20b0
          try clear c21
          try clear c21b0
          try clear c22
          try clear c22b0
          try clear c23
          try clear c23b0
          try clear p24
          try clear q24
          try clear hx24
          try clear c25
          try clear c25b0
          try clear c25b1
          try clear p26
          try clear q26
          try clear hx26
          try clear c28
          try clear c29
          try clear c29b0
          try clear c30
          try clear c30b0
          try clear c31
          try clear c31b0
          try clear c32
          try clear c32b0
          try clear p33
          try clear q33
          try clear hx33
          try clear hf33
          try clear c34
          try clear q34
          try clear hx12_0
          try clear hx16_0
          try clear hx33_0
          try clear hx626_0
          try clear hx627_0
          try clear hx628_0
          try clear p1
          try clear p12
          try clear p2
          try clear p24
          try clear p26
          try clear p3
          try clear p33
          try clear p6
          try clear p626
          try clear p627
          try clear p628
          try clear q1
          try clear q12
          try clear q2
          try clear q24
          try clear q26
          try clear q3
          try clear q33
          try clear q34
          try clear q6
          try clear q626
          try clear q627
          try clear q628
          obtain ⟨x7_5, x10_5, rfl, HA, HK5, HO_7, HB⟩ := hrel
          have hl7_5 := (Kd.S_reads' HO_7.out).1
          rw [hl7_5] at HO_7
          (try simp only [hl7_5])
          cases gk with
          | zero => exact absurd HA.out (by simp [spec_l7Below.l2])
          | succ k5 =>
           have H := HA.out
           clear HA
           simp only [spec_l7Below.l2] at H
           by_cases c36 : x10_5 < (l0.length : Int)
           rotate_left
           ·rw [if_neg c36] at H
            have c36b0 : decide (x10_5 < (l0.length : Int)) = false := decide_eq_false c36
            clear c36
            have H' := Aside0.mk H
            clear H
            go_wp2
            (try simp only [← hl7_2, ← hl7_26, ← hl7_5])
            go_roundg k5
            case measure => have := HK1.out; have := HK2.out; have := HJ18.out; have := HJ26.out; have := HK5.out; omega
            case rel => exact ⟨(x7_5), (wrap64 (x9_2 + 1)), (by first | rfl | (simp; done) | (simp [*]; done)), H', ⟨by have := HK1.out; have := HK2.out; have := HJ18.out; have := HJ26.out; have := HK5.out; omega⟩, ⟨by (try simp only [hl7_2]); (try simp only [hl7_26]); (try simp only [hl7_5]); (with_reducible repeat (first | apply Kd.S_alloc | apply Kd.S_drewN | apply Kd.S_drew)); exact HO_7.out⟩, ⟨by repeat (first | (with_reducible first | exact HB.out | apply below_alloc | apply pw_below_drewN | apply below_drew1) | exact HB.out)⟩⟩
           rw [if_pos c36] at H
           have c36b0 : decide (x10_5 < (l0.length : Int)) = true := decide_eq_true c36
           clear c36
           by_cases c37 : 0 ≤ x10_5
           rotate_left
           ·rw [if_neg c37] at H
            exact absurd H (by simp)
           rw [if_pos c37] at H
           have c37b0 : decide (0 ≤ x10_5) = true := decide_eq_true c37
           clear c37
           by_cases c38 : x10_5 < (l1.length : Int)
           rotate_left
           ·rw [if_neg c38] at H
            exact absurd H (by simp)
           rw [if_pos c38] at H
           have c38b0 : decide (x10_5 < (l1.length : Int)) = true := decide_eq_true c38
           clear c38
           by_cases c39 : (rd l1 x10_5) = x8_1
           rotate_left
           ·rw [if_neg c39] at H
            have c39b0 : ((rd l1 x10_5) == x8_1) = false := beq_eq_false_iff_ne.mpr c39
            have c39b1 : ((rd l1 x10_5) != x8_1) = true := bne_iff_ne.mpr c39
            have H' := Aside0.mk H
            clear H
            have p632 : 0 ≤ (x10_5 : Int) := of_decide_eq_true (by first | (with_reducible assumption) | assumption)
            have q632 : x10_5 < (l1.length : Int) := of_decide_eq_true (by first | (with_reducible assumption) | assumption)
            obtain ⟨ad632, e632, hx632_0⟩ := Kd.at_int HR1.out x10_5 p632 q632
            cases e632
            replace hx632_0 := (HB.out.cell (World.block_lt_of_cell? w _ hx632_0)).trans hx632_0
            replace p632 := eq_true p632
            replace q632 := eq_true q632
            go_wp2
            (try simp only [← hl7_5])
            go_roundg k5
            case measure => have := HK1.out; have := HK2.out; have := HJ18.out; have := HJ26.out; have := HK5.out; omega
            case rel => exact ⟨(x7_5), (wrap64 (x10_5 + 1)), (by first | rfl | (simp; done) | (simp [*]; done)), H', ⟨by have := HK1.out; have := HK2.out; have := HJ18.out; have := HJ26.out; have := HK5.out; omega⟩, ⟨by (try simp only [hl7_2]); (try simp only [hl7_26]); (try simp only [hl7_5]); (with_reducible repeat (first | apply Kd.S_alloc | apply Kd.S_drewN | apply Kd.S_drew)); exact HO_7.out⟩, ⟨by repeat (first | (with_reducible first | exact HB.out | apply below_alloc | apply pw_below_drewN | apply below_drew1) | exact HB.out)⟩⟩
           rw [if_pos c39] at H
           have c39b0 : ((rd l1 x10_5) == x8_1) = true := beq_iff_eq.mpr c39
           have c39b1 : ((rd l1 x10_5) != x8_1) = false := bne_eq_false_iff_eq.mpr c39
           clear c39
           by_cases c40 : 0 ≤ x8_1
           rotate_left
           ·rw [if_neg c40] at H
            exact absurd H (by simp)
           rw [if_pos c40] at H
           have c40b0 : decide (0 ≤ x8_1) = true := decide_eq_true c40
           clear c40
           by_cases c41 : x8_1 < (x7_5.length : Int)
           rotate_left
           ·rw [if_neg c41] at H
            exact absurd H (by simp)
           rw [if_pos c41] at H
           have c41b0 : decide (x8_1 < (x7_5.length : Int)) = true := decide_eq_true c41
           clear c41
           by_cases c42 : 0 ≤ x9_2
           rotate_left
           ·rw [if_neg c42] at H
            exact absurd H (by simp)
           rw [if_pos c42] at H
           have c42b0 : decide (0 ≤ x9_2) = true := decide_eq_true c42
           clear c42
           by_cases c43 : x9_2 < ((rd_L4 x7_5 x8_1).length : Int)
           rotate_left
           ·rw [if_neg c43] at H
            exact absurd H (by simp)
           rw [if_pos c43] at H
           have c43b0 : decide (x9_2 < ((rd_L4 x7_5 x8_1).length : Int)) = true := decide_eq_true c43
           clear c43
           by_cases c44 : x10_5 < (x7_5.length : Int)
           rotate_left
           ·rw [if_neg c44] at H
            exact absurd H (by simp)
           rw [if_pos c44] at H
           have c44b0 : decide (x10_5 < (x7_5.length : Int)) = true := decide_eq_true c44
           clear c44
           replace H := Option.bind_eq_some_iff.mp H
           obtain ⟨t637, A450, H⟩ := H
           replace H : (spec_l7Below.l2 k5 l0 l1 a2 (x7_5.set (x8_1 : Int).toNat ((rd_L4 x7_5 x8_1).set (x9_2 : Int).toNat (wrap64 ((rd (rd_L4 x7_5 x8_1) x9_2) + t637)))) x8_1 x9_2 (wrap64 (x10_5 + 1))) = some r := H
           have A45 := Aside0.mk A450
           clear A450
           obtain ⟨y638, hy638⟩ : ∃ y_ : List Int, y_ = ((rd_L4 x7_5 x8_1).set (x9_2 : Int).toNat (wrap64 ((rd (rd_L4 x7_5 x8_1) x9_2) + t637))) := ⟨_, rfl⟩
           replace H : (spec_l7Below.l2 k5 l0 l1 a2 (x7_5.set (x8_1 : Int).toNat y638) x8_1 x9_2 (wrap64 (x10_5 + 1))) = some r := by first | (rw [hy638]; with_reducible exact H) | (have H2_ := (Option.bind_some _ _).symm.trans H; rw [hy638]; with_reducible exact H2_) | (have H2_ := (Option.bind_some _ _).symm.trans H; with_reducible exact H2_) | with_reducible exact H | (rw [hy638]; exact H) | exact H
           have Ny638 := Aside0.mk hy638
           clear hy638
           obtain ⟨y640, hy640⟩ : ∃ y_ : List (List Int), y_ = (x7_5.set (x8_1 : Int).toNat y638) := ⟨_, rfl⟩
           replace H : (spec_l7Below.l2 k5 l0 l1 a2 y640 x8_1 x9_2 (wrap64 (x10_5 + 1))) = some r := by first | (rw [hy640]; with_reducible exact H) | (have H2_ := (Option.bind_some _ _).symm.trans H; rw [hy640]; with_reducible exact H2_) | (have H2_ := (Option.bind_some _ _).symm.trans H; with_reducible exact H2_) | with_reducible exact H | (rw [hy640]; exact H) | exact H
           have Ny640 := Aside0.mk hy640
           clear hy640
           have H' := Aside0.mk H
           clear H
           have p632 : 0 ≤ (x10_5 : Int) := of_decide_eq_true (by first | (with_reducible assumption) | assumption)
           have q632 : x10_5 < (l1.length : Int) := of_decide_eq_true (by first | (with_reducible assumption) | assumption)
           obtain ⟨ad632, e632, hx632_0⟩ := Kd.at_int HR1.out x10_5 p632 q632
           cases e632
           replace hx632_0 := (HB.out.cell (World.block_lt_of_cell? w _ hx632_0)).trans hx632_0
           replace p632 := eq_true p632
           replace q632 := eq_true q632
           try go_wp2
           have n0_ := Aside0.mk (Kd.S_drew HO_7.out)
           have n1_ := Aside0.mk (below_drew1 HB.out)
           clear HO_7
           clear HB
           have HO_7 := n0_
           have HB := n1_
           clear n0_ n1_
           have p633 : 0 ≤ (x8_1 : Int) := of_decide_eq_true (by first | (with_reducible assumption) | assumption)
           have q633 : x8_1 < (x7_5.length : Int) := of_decide_eq_true (by first | (with_reducible assumption) | assumption)
           obtain ⟨ad633, A633_0, c633_0, e633, hx633_0, hl633_0, hi633_0⟩ := at_L4 (Kd.S_reads' HO_7.out).2.2 x8_1 p633 q633
           obtain rfl : (⟨go12, 0, none⟩ : Addr) = ad633 := (by injection e633)
           obtain ⟨ce633, hce633, hMe633, hcc633⟩ := Kd.S_get HO_7.out [] x8_1 p633 (by first | exact q633 | exact of_decide_eq_true (by first | (with_reducible assumption) | assumption) | (have e_ := (Kd.S_reads' HO_7.out).1; omega))
           obtain ⟨ve633_0, rfl, ge633_0⟩ := hMe633
           have hv633_0 := hcc633 0 _ rfl
           rw [Nat.add_zero, show ((Kd.slice 3 (Kd.int .i64))).sz = 1 from rfl, Nat.mul_one] at hv633_0
           replace hv633_0 := Option.some.inj (hv633_0.symm.trans hx633_0)
           rw [hv633_0] at ge633_0
           have HL633_0 := Aside0.mk (show Kd.R (Kd.int .i64) 3 _ _ _ _ (rd_L4 x7_5 x8_1) from ge633_0)
           clear hv633_0 ge633_0
           have HX633_0 := Aside0.mk hx633_0
           clear hcc633 hce633
           (first | simp only [add_plain] at hx633_0 | simp only [add_at] at hx633_0 | simp only [Addr.add, Nat.zero_add] at hx633_0 | skip)
           have HR633_0 := Aside0.mk hi633_0
           have HC633_0 := Aside0.mk hl633_0
           clear hi633_0 hl633_0
           replace p633 := eq_true p633
           replace q633 := eq_true q633
           have p634 : 0 ≤ (x8_1 : Int) := of_decide_eq_true (by first | (with_reducible assumption) | assumption)
           have q634 : x8_1 < (x7_5.length : Int) := of_decide_eq_true (by first | (with_reducible assumption) | assumption)
           obtain ⟨ad634, A634_0, c634_0, e634, hx634_0, hl634_0, hi634_0⟩ := at_L4 (Kd.S_reads' HO_7.out).2.2 x8_1 p634 q634
           obtain rfl : (⟨go12, 0, none⟩ : Addr) = ad634 := (by injection e634)
           obtain ⟨ce634, hce634, hMe634, hcc634⟩ := Kd.S_get HO_7.out [] x8_1 p634 (by first | exact q634 | exact of_decide_eq_true (by first | (with_reducible assumption) | assumption) | (have e_ := (Kd.S_reads' HO_7.out).1; omega))
           obtain ⟨ve634_0, rfl, ge634_0⟩ := hMe634
           have hv634_0 := hcc634 0 _ rfl
           rw [Nat.add_zero, show ((Kd.slice 3 (Kd.int .i64))).sz = 1 from rfl, Nat.mul_one] at hv634_0
           replace hv634_0 := Option.some.inj (hv634_0.symm.trans hx634_0)
           rw [hv634_0] at ge634_0
           have HL634_0 := Aside0.mk (show Kd.R (Kd.int .i64) 3 _ _ _ _ (rd_L4 x7_5 x8_1) from ge634_0)
           clear hv634_0 ge634_0
           have HX634_0 := Aside0.mk hx634_0
           clear hcc634 hce634
           (first | simp only [add_plain] at hx634_0 | simp only [add_at] at hx634_0 | simp only [Addr.add, Nat.zero_add] at hx634_0 | skip)
           have HR634_0 := Aside0.mk hi634_0
           have HC634_0 := Aside0.mk hl634_0
           clear hi634_0 hl634_0
           replace p634 := eq_true p634
           replace q634 := eq_true q634
           have ea_ := Option.some.inj (hx633_0.symm.trans hx634_0)
           injection ea_ with ea_ en_ ec_
           subst ea_
           subst ec_
           clear en_
           have p635 : 0 ≤ (x9_2 : Int) := of_decide_eq_true (by first | (with_reducible assumption) | assumption)
           have q635 : x9_2 < ((rd_L4 x7_5 x8_1).length : Int) := of_decide_eq_true (by first | (with_reducible assumption) | assumption)
           obtain ⟨ad635, e635, hx635_0⟩ := Kd.at_int (by repeat (first | (with_reducible exact HR634_0.out) | (with_reducible refine Kd.C_alloc ?_ _) | (with_reducible refine Kd.C_drewN ?_ _) | (with_reducible refine Kd.C_drew ?_) | exact HR634_0.out)) x9_2 p635 q635
           cases e635
           replace p635 := eq_true p635
           replace q635 := eq_true q635
           have p636 : 0 ≤ (x10_5 : Int) := of_decide_eq_true (by first | (with_reducible assumption) | assumption)
           have q636 : x10_5 < (x7_5.length : Int) := of_decide_eq_true (by first | (with_reducible assumption) | assumption)
           obtain ⟨ad636, A636_0, c636_0, e636, hx636_0, hl636_0, hi636_0⟩ := at_L4 (Kd.S_reads' HO_7.out).2.2 x10_5 p636 q636
           obtain rfl : (⟨go12, 0, none⟩ : Addr) = ad636 := (by injection e636)
           obtain ⟨ce636, hce636, hMe636, hcc636⟩ := Kd.S_get HO_7.out [] x10_5 p636 (by first | exact q636 | exact of_decide_eq_true (by first | (with_reducible assumption) | assumption) | (have e_ := (Kd.S_reads' HO_7.out).1; omega))
           obtain ⟨ve636_0, rfl, ge636_0⟩ := hMe636
           have hv636_0 := hcc636 0 _ rfl
           rw [Nat.add_zero, show ((Kd.slice 3 (Kd.int .i64))).sz = 1 from rfl, Nat.mul_one] at hv636_0
           replace hv636_0 := Option.some.inj (hv636_0.symm.trans hx636_0)
           rw [hv636_0] at ge636_0
           have HL636_0 := Aside0.mk (show Kd.R (Kd.int .i64) 3 _ _ _ _ (rd_L4 x7_5 x10_5) from ge636_0)
           clear hv636_0 ge636_0
           have HX636_0 := Aside0.mk hx636_0
           clear hcc636 hce636
           (first | simp only [add_plain] at hx636_0 | simp only [add_at] at hx636_0 | simp only [Addr.add, Nat.zero_add] at hx636_0 | skip)
           have HR636_0 := Aside0.mk hi636_0
           have HC636_0 := Aside0.mk hl636_0
           clear hi636_0 hl636_0
           replace p636 := eq_true p636
           replace q636 := eq_true q636
           refine start_ (n := 21) (S := fun w' => w'.cell? ⟨go12, (x8_1).toNat, none⟩ = some (.slice (some ad635) (rd_L4 x7_5 x8_1).length c633_0) ∧ w'.cell? ⟨go12, (x8_1).toNat, none⟩ = some (.slice (some ad635) (rd_L4 x7_5 x8_1).length c633_0) ∧ w'.cell? (ad635.add (x9_2).toNat) = some (.int .i64 (rd (rd_L4 x7_5 x8_1) x9_2)) ∧ w'.cell? ⟨go12, (x10_5).toNat, none⟩ = some (.slice A636_0 (rd_L4 x7_5 x10_5).length c636_0)) (ds := [20]) #[false, false, false, false, false, false, false, false, false, false, false, false, false, false, false, false, false, false, false, false, false] (by kernel_rfl) rfl rfl ⟨hx633_0, hx634_0, hx635_0, hx636_0⟩ (fun hHeld => ?_); refine with_tabW spec_l7Below.tab15 spec_l7Below.bits15 (fun HT_ HW_ => ?_)
           generalize wr.drew = w47 at HO_7 HB HL633_0 HL634_0 HL636_0 HR633_0 HR634_0 HR636_0 HX633_0 HX634_0 HX636_0 hx633_0 hx634_0 hx635_0 hx636_0 hHeld ⊢
           refine pure_ (i := 0) (N := some 68) (v := ?_) (a' := ?_) #[true, false, false, false, false, false, false, false, false, false, false, false, false, false, false, false, false, false, false, false, false] rfl rfl (any_of HT_.out (by kernel_rfl)) (fun _ _ _ h => h) (Or.inl ⟨by rfl, ?_⟩) ?_ ?_
           rotate_left
           ·intro w'
            go_simp
            with_reducible rfl
           rotate_left
           ·simp only [Act.put, List.setIfInBounds_toArray, List.set_cons_zero, List.set_cons_succ, i64_w, i32_w]
            rfl
           refine pure_ (i := 1) (N := some 69) (v := ?_) (a' := ?_) #[true, true, false, false, false, false, false, false, false, false, false, false, false, false, false, false, false, false, false, false, false] rfl rfl (any_of HT_.out (by kernel_rfl)) (fun _ _ _ h => h) (Or.inl ⟨by rfl, ?_⟩) ?_ ?_
           rotate_left
           ·intro w'
            go_simp
            with_reducible rfl
           rotate_left
           ·simp only [Act.put, List.setIfInBounds_toArray, List.set_cons_zero, List.set_cons_succ, i64_w, i32_w]
            rfl
           refine pure_ (i := 2) (N := some 70) (v := ?_) (a' := ?_) #[true, true, true, false, false, false, false, false, false, false, false, false, false, false, false, false, false, false, false, false, false] rfl rfl (any_of HT_.out (by kernel_rfl)) (fun _ _ _ h => h) (Or.inl ⟨by rfl, ?_⟩) ?_ ?_
           rotate_left
           ·intro w'
            go_simp
            with_reducible rfl
           rotate_left
           ·simp only [Act.put, List.setIfInBounds_toArray, List.set_cons_zero, List.set_cons_succ, i64_w, i32_w]
            rfl
           refine pure_ (i := 4) (N := some 72) (v := ?_) (a' := ?_) #[true, true, true, false, true, false, false, false, false, false, false, false, false, false, false, false, false, false, false, false, false] rfl rfl (any_of HT_.out (by kernel_rfl)) (fun _ _ _ h => h) (Or.inl ⟨by rfl, ?_⟩) ?_ ?_
           rotate_left
           ·intro w'
            go_simp
            with_reducible rfl
           rotate_left
           ·simp only [Act.put, List.setIfInBounds_toArray, List.set_cons_zero, List.set_cons_succ, i64_w, i32_w]
            rfl
           refine pure_ (i := 5) (N := some 73) (v := ?_) (a' := ?_) #[true, true, true, false, true, true, false, false, false, false, false, false, false, false, false, false, false, false, false, false, false] rfl rfl (any_of HT_.out (by kernel_rfl)) (fun _ _ _ h => h) (Or.inl ⟨by rfl, ?_⟩) ?_ ?_
           rotate_left
           ·intro w'
            go_simp
            with_reducible rfl
           rotate_left
           ·simp only [Act.put, List.setIfInBounds_toArray, List.set_cons_zero, List.set_cons_succ, i64_w, i32_w]
            rfl
           refine pure_ (i := 6) (N := some 74) (v := ?_) (a' := ?_) #[true, true, true, false, true, true, true, false, false, false, false, false, false, false, false, false, false, false, false, false, false] rfl rfl (any_of HT_.out (by kernel_rfl)) (fun _ _ _ h => h) (Or.inl ⟨by rfl, ?_⟩) ?_ ?_
           rotate_left
           ·intro w'
            go_simp
            with_reducible rfl
           rotate_left
           ·simp only [Act.put, List.setIfInBounds_toArray, List.set_cons_zero, List.set_cons_succ, i64_w, i32_w]
            rfl
           refine pure_ (i := 7) (N := some 75) (v := ?_) (a' := ?_) #[true, true, true, false, true, true, true, true, false, false, false, false, false, false, false, false, false, false, false, false, false] rfl rfl (any_of HT_.out (by kernel_rfl)) (fun _ _ _ h => h) (Or.inl ⟨by rfl, ?_⟩) ?_ ?_
           rotate_left
           ·intro w'
            go_simp
            with_reducible rfl
           rotate_left
           ·simp only [Act.put, List.setIfInBounds_toArray, List.set_cons_zero, List.set_cons_succ, i64_w, i32_w]
            rfl
           refine pure_ (i := 9) (N := some 77) (v := ?_) (a' := ?_) #[true, true, true, false, true, true, true, true, false, true, false, false, false, false, false, false, false, false, false, false, false] rfl rfl (any_of HT_.out (by kernel_rfl)) (fun _ _ _ h => h) (Or.inl ⟨by rfl, ?_⟩) ?_ ?_
           rotate_left
           ·intro w'
            go_simp
            with_reducible rfl
           rotate_left
           ·simp only [Act.put, List.setIfInBounds_toArray, List.set_cons_zero, List.set_cons_succ, i64_w, i32_w]
            rfl
           refine pure_ (i := 12) (N := some 80) (v := ?_) (a' := ?_) #[true, true, true, false, true, true, true, true, false, true, false, false, true, false, false, false, false, false, false, false, false] rfl rfl (any_of HT_.out (by kernel_rfl)) (fun _ _ _ h => h) (Or.inl ⟨by rfl, ?_⟩) ?_ ?_
           rotate_left
           ·intro w'
            go_simp
            with_reducible rfl
           rotate_left
           ·simp only [Act.put, List.setIfInBounds_toArray, List.set_cons_zero, List.set_cons_succ, i64_w, i32_w]
            rfl
           refine pure_ (i := 13) (N := some 81) (v := ?_) (a' := ?_) #[true, true, true, false, true, true, true, true, false, true, false, false, true, true, false, false, false, false, false, false, false] rfl rfl (any_of HT_.out (by kernel_rfl)) (fun _ _ _ h => h) (Or.inl ⟨by rfl, ?_⟩) ?_ ?_
           rotate_left
           ·intro w'
            go_simp
            with_reducible rfl
           rotate_left
           ·simp only [Act.put, List.setIfInBounds_toArray, List.set_cons_zero, List.set_cons_succ, i64_w, i32_w]
            rfl
           refine pure_ (i := 14) (N := some 82) (v := ?_) (a' := ?_) #[true, true, true, false, true, true, true, true, false, true, false, false, true, true, true, false, false, false, false, false, false] rfl rfl (any_of HT_.out (by kernel_rfl)) (fun _ _ _ h => h) (Or.inl ⟨by rfl, ?_⟩) ?_ ?_
           rotate_left
           ·intro w'
            go_simp
            with_reducible rfl
           rotate_left
           ·simp only [Act.put, List.setIfInBounds_toArray, List.set_cons_zero, List.set_cons_succ, i64_w, i32_w]
            rfl
           refine pure_ (i := 16) (N := some 84) (v := ?_) (a' := ?_) #[true, true, true, false, true, true, true, true, false, true, false, false, true, true, true, false, true, false, false, false, false] rfl rfl (any_of HT_.out (by kernel_rfl)) (fun _ _ _ h => h) (Or.inl ⟨by rfl, ?_⟩) ?_ ?_
           rotate_left
           ·intro w'
            go_simp
            with_reducible rfl
           rotate_left
           ·simp only [Act.put, List.setIfInBounds_toArray, List.set_cons_zero, List.set_cons_succ, i64_w, i32_w]
            rfl
           refine take_ (i := 3) (N := some 71) (v := ?_) (a' := ?_) #[true, true, true, true, true, true, true, true, false, true, false, false, true, true, true, false, true, false, false, false, false] rfl rfl (take_ofW HT_.out HW_.out (by kernel_rfl)) (fun _ _ _ h => h) (Or.inl ⟨by rfl, ?_⟩) hHeld ?_ ?_
           rotate_left
           ·rintro w' ⟨s0, s1, s2, s3⟩
            go_simp
            with_reducible rfl
           rotate_left
           ·simp only [Act.put, List.setIfInBounds_toArray, List.set_cons_zero, List.set_cons_succ, i64_w, i32_w]
            rfl
           refine take_ (i := 8) (N := some 76) (v := ?_) (a' := ?_) #[true, true, true, true, true, true, true, true, true, true, false, false, true, true, true, false, true, false, false, false, false] rfl rfl (take_ofW HT_.out HW_.out (by kernel_rfl)) (fun _ _ _ h => h) (Or.inl ⟨by rfl, ?_⟩) hHeld ?_ ?_
           rotate_left
           ·rintro w' ⟨s0, s1, s2, s3⟩
            go_simp
            with_reducible rfl
           rotate_left
           ·simp only [Act.put, List.setIfInBounds_toArray, List.set_cons_zero, List.set_cons_succ, i64_w, i32_w]
            rfl
           refine pure_ (i := 10) (N := some 78) (v := ?_) (a' := ?_) #[true, true, true, true, true, true, true, true, true, true, true, false, true, true, true, false, true, false, false, false, false] rfl rfl (any_of HT_.out (by kernel_rfl)) (fun _ _ _ h => h) (Or.inl ⟨by rfl, ?_⟩) ?_ ?_
           rotate_left
           ·intro w'
            go_simp
            with_reducible rfl
           rotate_left
           ·simp only [Act.put, List.setIfInBounds_toArray, List.set_cons_zero, List.set_cons_succ, i64_w, i32_w]
            rfl
           refine take_ (i := 11) (N := some 79) (v := ?_) (a' := ?_) #[true, true, true, true, true, true, true, true, true, true, true, true, true, true, true, false, true, false, false, false, false] rfl rfl (take_ofW HT_.out HW_.out (by kernel_rfl)) (fun _ _ _ h => h) (Or.inl ⟨by rfl, ?_⟩) hHeld ?_ ?_
           rotate_left
           ·rintro w' ⟨s0, s1, s2, s3⟩
            go_simp
            with_reducible rfl
           rotate_left
           ·simp only [Act.put, List.setIfInBounds_toArray, List.set_cons_zero, List.set_cons_succ, i64_w, i32_w]
            rfl
           refine take_ (i := 15) (N := some 83) (v := ?_) (a' := ?_) #[true, true, true, true, true, true, true, true, true, true, true, true, true, true, true, true, true, false, false, false, false] rfl rfl (take_ofW HT_.out HW_.out (by kernel_rfl)) (fun _ _ _ h => h) (Or.inl ⟨by rfl, ?_⟩) hHeld ?_ ?_
           rotate_left
           ·rintro w' ⟨s0, s1, s2, s3⟩
            go_simp
            with_reducible rfl
           rotate_left
           ·simp only [Act.put, List.setIfInBounds_toArray, List.set_cons_zero, List.set_cons_succ, i64_w, i32_w]
            rfl
           refine one_ (i := 17) (N := some 85) #[true, true, true, true, true, true, true, true, true, true, true, true, true, true, true, true, true, true, false, false, false] rfl rfl (one_of HT_.out (by kernel_rfl)) (by decide) (fun K hK => ?_)
           refine goes_ Tryd.func83 (by kernel_rfl) rfl #[.slice A636_0 (rd_L4 x7_5 x10_5).length c636_0, .int .i64 x9_2] (by rfl) rfl rfl (by (try simp only [List.map_toArray, List.map_cons, List.map_nil]); first | done | rfl | (simp only [List.length_drop, List.length_take]; rfl)) ?_
           with_reducible refine (spec_l7Best.calls k5 _ _ (rd_L4 x7_5 x10_5) x9_2 t637 _ ?side1 ?side2 A45.out).mono ?_
           (case side1 => repeat (first | exact (by repeat (first | (with_reducible exact HR636_0.out) | (with_reducible refine Kd.C_alloc ?_ _) | (with_reducible refine Kd.C_drewN ?_ _) | (with_reducible refine Kd.C_drew ?_) | exact HR636_0.out)) | (with_reducible refine Kd.C_alloc ?_ _) | (with_reducible refine Kd.C_drewN ?_ _) | (with_reducible refine Kd.C_drew ?_)))
           (case side2 => exact HC636_0.out)
           rintro e w48 ⟨rfl, hb⟩
           have HS0_ := (hb.cell (World.block_lt_of_cell? _ _ (hHeld.1))).trans (hHeld.1)
           have HS1_ := (hb.cell (World.block_lt_of_cell? _ _ (hHeld.2.1))).trans (hHeld.2.1)
           have HS2_ := (hb.cell (World.block_lt_of_cell? _ _ (hHeld.2.2.1))).trans (hHeld.2.2.1)
           have HS3_ := (hb.cell (World.block_lt_of_cell? _ _ (hHeld.2.2.2))).trans (hHeld.2.2.2)
           refine ⟨_, rfl, ?_⟩
           have n0_ := Aside0.mk (Kd.S_below (by (with_reducible repeat (first | apply Kd.S_alloc | apply Kd.S_drewN | apply Kd.S_drew)); exact HO_7.out) hb)
           have n1_ := Aside0.mk (Kd.R_below (by (with_reducible repeat (first | apply Kd.R_alloc | apply Kd.R_drewN | apply Kd.R_drew)); exact HL633_0.out) hb)
           have n2_ := Aside0.mk (Kd.R_below (by (with_reducible repeat (first | apply Kd.R_alloc | apply Kd.R_drewN | apply Kd.R_drew)); exact HL634_0.out) hb)
           have n3_ := Aside0.mk (Kd.R_below (by (with_reducible repeat (first | apply Kd.R_alloc | apply Kd.R_drewN | apply Kd.R_drew)); exact HL636_0.out) hb)
           have n4_ := Aside0.mk (Kd.C_below (by repeat (first | (with_reducible exact HR633_0.out) | (with_reducible refine Kd.C_alloc ?_ _) | (with_reducible refine Kd.C_drewN ?_ _) | (with_reducible refine Kd.C_drew ?_) | exact HR633_0.out)) hb)
           have n5_ := Aside0.mk (pw_cell_below hb HX633_0.out)
           have n6_ := Aside0.mk (Kd.C_below (by repeat (first | (with_reducible exact HR634_0.out) | (with_reducible refine Kd.C_alloc ?_ _) | (with_reducible refine Kd.C_drewN ?_ _) | (with_reducible refine Kd.C_drew ?_) | exact HR634_0.out)) hb)
           have n7_ := Aside0.mk (pw_cell_below hb HX634_0.out)
           have n8_ := Aside0.mk (Kd.C_below (by repeat (first | (with_reducible exact HR636_0.out) | (with_reducible refine Kd.C_alloc ?_ _) | (with_reducible refine Kd.C_drewN ?_ _) | (with_reducible refine Kd.C_drew ?_) | exact HR636_0.out)) hb)
           have n9_ := Aside0.mk (pw_cell_below hb HX636_0.out)
           have n10_ := Aside0.mk (below_step (by repeat (first | (with_reducible first | exact HB.out | apply below_alloc | apply pw_below_drewN | apply below_drew1) | exact HB.out)) hb)
           clear HO_7
           clear HL633_0
           clear HL634_0
           clear HL636_0
           clear HR633_0
           clear HX633_0
           clear HR634_0
           clear HX634_0
           clear HR636_0
           clear HX636_0
           clear HB
           have HO_7 := n0_
           have HL633_0 := n1_
           have HL634_0 := n2_
           have HL636_0 := n3_
           have HR633_0 := n4_
           have HX633_0 := n5_
           have HR634_0 := n6_
           have HX634_0 := n7_
           have HR636_0 := n8_
           have HX636_0 := n9_
           have HB := n10_
           clear n0_ n1_ n2_ n3_ n4_ n5_ n6_ n7_ n8_ n9_ n10_
           (try clear hb)
           (try clear hb2)
           (try clear hk)
           (try clear hi)
           have p46 : 0 ≤ (x9_2 : Int) := of_decide_eq_true (by first | (with_reducible assumption) | assumption)
           have q46 : (x9_2 : Int) < (((rd_L4 x7_5 x8_1).length : Int) : Int) := of_decide_eq_true (by first | (with_reducible assumption) | assumption)
           obtain ⟨go46, co46, eo46, gb46, gl46, cl46, HG46⟩ := Kd.R_form HL633_0.out (by omega)
           (first | cases eo46 | (injection eo46 with ea_ en_ ec_; (first | subst ea_ | (injection ea_ with ea_; subst ea_)); subst ec_; clear en_))
           have GB46 := Aside0.mk gb46
           have GG46 := Aside0.mk HG46
           clear gb46 gl46 HG46
           (first | simp only [add_plain] at hx635_0 | skip)
           obtain ⟨hx46_0, hf46_0⟩ := Kd.R_celln 0 HL633_0.out (x9_2 : Int) p46 q46
           replace p46 := eq_true p46
           replace q46 := eq_true q46
           have hq49 : (x8_1 : Int) < (x7_5.length : Int) := (by have h_ : (x8_1 : Int) < ((x7_5.length : Int) : Int) := of_decide_eq_true (by first | (with_reducible assumption) | assumption); first | exact h_ | (have e_ := (Kd.S_reads' HO_7.out).1; omega) | simpa only [List.length_set, List.length_set] using h_)
           obtain ⟨oki49, ce49, hcl49, hM49, hcc49, hok49, hbk49⟩ := Kd.S_borrow HO_7.out [] (x8_1 : Int) (of_decide_eq_true (by first | (with_reducible assumption) | assumption)) hq49
           obtain ⟨ve49_0, rfl, ge49_0⟩ := hM49
           have hv49 := hcc49 0 _ rfl
           rw [Nat.add_zero, show ((Kd.slice 3 (Kd.int .i64))).sz = 1 from rfl, Nat.mul_one] at hv49
           replace hv49 := Option.some.inj (hv49.symm.trans HX633_0.out)
           subst hv49
           clear hcc49 hcl49
           replace ge49_0 := (show Kd.R (Kd.int .i64) 3 _ _ _ _ (rd_L4 x7_5 x8_1) from ge49_0)
           have HP49 := Kd.R_putg ge49_0 (x9_2 : Int) (wrap64 ((rd (rd_L4 x7_5 x8_1) x9_2) + t637))
           rw [← Ny638.out] at HP49
           have HS49 := hbk49 HP49.2 (fun k_ e_ => by injection e_ with e_; subst e_; exact ge49_0.1 _ rfl) (x' := y638) (Kd.M_row HP49.1)
           rw [← Ny640.out] at HS49
           have HQ49 := Aside0.mk HS49
           clear HP49 HS49 hbk49 hok49
           refine hK.out _ _ ⟨HS0_, HS1_, HS2_, HS3_⟩ (fun hHeld => ?_)
           clear hK K
           refine norm_ (a' := ?_) ?_ ?_
           rotate_left
           ·show Act.put _ (some 85) _ = _
            simp only [Act.put, List.setIfInBounds_toArray, List.set_cons_zero, List.set_cons_succ, i64_w, i32_w]
            rfl
           refine pure_ (i := 18) (N := some 86) (v := ?_) (a' := ?_) #[true, true, true, true, true, true, true, true, true, true, true, true, true, true, true, true, true, true, true, false, false] rfl rfl (any_of HT_.out (by kernel_rfl)) (fun _ _ _ h => h) (Or.inl ⟨by rfl, ?_⟩) ?_ ?_
           rotate_left
           ·intro w'
            go_simp
            with_reducible rfl
           rotate_left
           ·simp only [Act.put, List.setIfInBounds_toArray, List.set_cons_zero, List.set_cons_succ, i64_w, i32_w]
            rfl
           refine pure_ (i := 19) (N := some 87) (v := ?_) (a' := ?_) #[true, true, true, true, true, true, true, true, true, true, true, true, true, true, true, true, true, true, true, true, false] rfl rfl (any_of HT_.out (by kernel_rfl)) (fun _ _ _ h => h) (Or.inl ⟨by rfl, ?_⟩) ?_ ?_
           rotate_left
           ·intro w'
            go_simp
            with_reducible rfl
           rotate_left
           ·simp only [Act.put, List.setIfInBounds_toArray, List.set_cons_zero, List.set_cons_succ, i64_w, i32_w]
            rfl
           refine last_ (i := 20) (N := none) #[true, true, true, true, true, true, true, true, true, true, true, true, true, true, true, true, true, true, true, true, true] rfl rfl (one_of HT_.out (by kernel_rfl)) (by decide) (fun K hK => ?_)
           refine skip_ (w1 := ?_) (by rfl) rfl ?_ ?_
           rotate_left
           ·go_simp
            rfl
           refine hK.out _ _ ?_
           clear hK K
           refine done_ (done_of HT_.out (by kernel_rfl)) ?_
           try go_wp2
           (try simp only [← hl7_5])
           go_roundg k5
           case measure => have := HK1.out; have := HK2.out; have := HJ18.out; have := HJ26.out; have := HK5.out; omega
           case rel => exact ⟨(y640), (wrap64 (x10_5 + 1)), (by first | rfl | (simp; done) | (simp [*]; done)), H', ⟨by have := HK1.out; have := HK2.out; have := HJ18.out; have := HJ26.out; have := HK5.out; omega⟩, ⟨by (try simp only [hl7_2]); (try simp only [hl7_26]); (try simp only [hl7_5]); (with_reducible repeat (first | apply Kd.S_alloc | apply Kd.S_drewN | apply Kd.S_drew)); exact HQ49.out⟩, ⟨by repeat (first | (with_reducible first | exact HB.out | apply below_alloc | apply pw_below_drewN | apply below_drew1 | refine below_set ?_ GB46.out) | exact HB.out)⟩⟩
end Go.Proofs.YtejoneninbdjbaaDoor.E
end
section
namespace Go.Proofs.YtejoneninbdjbaaDoor.E
open Go.RowKit Go.Proofs.YtejoneninbdjbaaDoorW.PrintWords Go.Proofs.YtejoneninbdjbaaDoorW.PrintLast Go.Proofs.YtejoneninbdjbaaDoorW.PrintMore
attribute [local go_sem] max2_int min2_int max_two min_two max_three min_three max_four min_four
set_option linter.unusedVariables false
set_option linter.unusedSimpArgs false
attribute [local go_sem] str_leq_ str_gtr_ str_geq_
mutual
def spec_StemFewest.l0 : Nat → List ByteArray → List Int → Int → Int → Option (Int)
 | 0, _, _, _, _ => none
 | k + 1, x0, x1, x5, x6 => if 0 < (x0.length : Int) then (if x6 < ((rdOf ByteArray.empty x0 0).size : Int) then ((spec_l7Below.f k x0 x1 x6).bind fun t644 => (if 0 < (t644.length : Int) then (if 0 < ((rd_L4 t644 0).length : Int) then (spec_StemFewest.l1 k x0 x1 x5 x6 t644 (rd (rd_L4 t644 0) 0) 0) else (none)) else (none))) else (some x5)) else (none)
def spec_StemFewest.l1 : Nat → List ByteArray → List Int → Int → Int → List (List Int) → Int → Int → Option (Int)
 | 0, _, _, _, _, _, _, _ => none
 | k + 1, x0, x1, x5, x6, x7, x8, x9 => if x9 < 4 then (if 0 < (x7.length : Int) then (if 0 ≤ x9 then (if x9 < ((rd_L4 x7 0).length : Int) then (spec_StemFewest.l1 k x0 x1 x5 x6 x7 (mn x8 (rd (rd_L4 x7 0) x9)) (wrap64 (x9 + 1))) else (none)) else (none)) else (none)) else (spec_StemFewest.l0 k x0 x1 (wrap64 (x5 + x8)) (wrap64 (x6 + 1)))
end
def spec_StemFewest.f (k : Nat) (l0 : List ByteArray) (l1 : List Int) : Option (Int) := (spec_StemValid.f k l0 l1).bind fun t642 => (if t642 = true then (spec_StemFewest.l0 k l0 l1 0 0) else (some (-1)))
set_option maxHeartbeats 8000000 in
set_option maxRecDepth 100000 in
theorem spec_StemFewest.calls (k : Nat) (A0 : Option Addr) (c0 : Nat) (l0 : List ByteArray) (A1 : Option Addr) (c1 : Nat) (l1 : List Int) (r : Int) (w : World) (hr0 : Kd.C Kd.string w A0 l0.length l0) (hc0 : l0.length ≤ c0) (hr1 : Kd.C (Kd.int .i64) w A1 l1.length l1) (hc1 : l1.length ≤ c1) (h : spec_StemFewest.f k l0 l1 = some r) :
  Calls Tryd.prog 50 #[.slice A0 l0.length c0, .slice A1 l1.length c1] w fun e w' => e = .returned (.int .i64 r) ∧ Below w.heap.size w w' := by
 have HR0 := Aside0.mk hr0
 have HC0 := Aside0.mk hc0
 clear hr0 hc0
 have HR1 := Aside0.mk hr1
 have HC1 := Aside0.mk hc1
 clear hr1 hc1
 have HB := Aside0.mk (Below.refl w.heap.size w)
 have H : ((spec_StemValid.f k l0 l1).bind fun t642 => (if t642 = true then (spec_StemFewest.l0 k l0 l1 0 0) else (some (-1)))) = some r := h
 clear h
 replace H := Option.bind_eq_some_iff.mp H
 obtain ⟨t642, A30, H⟩ := H
 replace H : (if t642 = true then (spec_StemFewest.l0 k l0 l1 0 0) else (some (-1))) = some r := H
 have A3 := Aside0.mk A30
 clear A30
 by_cases c4 : t642 = true
 rotate_left
 ·replace c4 := Bool.eq_false_iff.mpr c4
  subst c4
  have H1 : (some (-1)) = some r := by rw [if_neg (show ¬ (false = true) by decide)] at H; exact H
  clear H
  have H := H1
  clear H1
  obtain rfl := Option.some.inj H
  go_enter Tryd.func50, Tryd.ntmps50
  go_wp2_with (first | ((with_reducible refine gate_callee (f := 28) rfl ?_); refine goesL_ (some 12) rfl rfl Tryd.func28 (by kernel_rfl) rfl #[.slice A0 l0.length c0, .slice A1 l1.length c1] rfl (by (try simp only [List.map_toArray, List.map_cons, List.map_nil]); first | done | rfl | (simp only [List.length_drop, List.length_take]; rfl)) ?_; (with_reducible refine (spec_StemValid.calls k _ _ l0 _ _ l1 false _ ?side1 ?side2 ?side3 ?side4 A3.out).mono ?_); (case side1 => repeat (first | exact HR0.out | (with_reducible refine Kd.C_alloc ?_ _) | (with_reducible refine Kd.C_drewN ?_ _) | (with_reducible refine Kd.C_drew ?_))); (case side2 => exact HC0.out); (case side3 => repeat (first | exact HR1.out | (with_reducible refine Kd.C_alloc ?_ _) | (with_reducible refine Kd.C_drewN ?_ _) | (with_reducible refine Kd.C_drew ?_))); (case side4 => exact HC1.out); rintro e w' ⟨rfl, ⟨nd, rfl⟩⟩; refine ⟨_, rfl, ?_⟩))
  go_ret
  exact ⟨by first | rfl | (simp [errW_none, errW_some] <;> rfl) | (simp [*, errW_none, errW_some] <;> rfl), by repeat (first | (with_reducible first | exact HB.out | apply below_alloc | apply pw_below_drewN | apply below_drew1) | exact HB.out)⟩
 subst c4
 have H1 : (spec_StemFewest.l0 k l0 l1 0 0) = some r := by rw [if_pos rfl] at H; exact H
 clear H
 have H := H1
 clear H1
 have H' := Aside0.mk H
 clear H
 go_enter Tryd.func50, Tryd.ntmps50
 go_wp2_with (first | ((with_reducible refine gate_callee (f := 28) rfl ?_); refine goesL_ (some 12) rfl rfl Tryd.func28 (by kernel_rfl) rfl #[.slice A0 l0.length c0, .slice A1 l1.length c1] rfl (by (try simp only [List.map_toArray, List.map_cons, List.map_nil]); first | done | rfl | (simp only [List.length_drop, List.length_take]; rfl)) ?_; (with_reducible refine (spec_StemValid.calls k _ _ l0 _ _ l1 true _ ?side1 ?side2 ?side3 ?side4 A3.out).mono ?_); (case side1 => repeat (first | exact HR0.out | (with_reducible refine Kd.C_alloc ?_ _) | (with_reducible refine Kd.C_drewN ?_ _) | (with_reducible refine Kd.C_drew ?_))); (case side2 => exact HC0.out); (case side3 => repeat (first | exact HR1.out | (with_reducible refine Kd.C_alloc ?_ _) | (with_reducible refine Kd.C_drewN ?_ _) | (with_reducible refine Kd.C_drew ?_))); (case side4 => exact HC1.out); rintro e w' ⟨rfl, ⟨nd, rfl⟩⟩; refine ⟨_, rfl, ?_⟩))
 go_loopg [5, 6] k (fun kq v5 v6 w' => ∃ (x5_1 : Int) (x6_1 : Int), v5 = .int .i64 x5_1 ∧ v6 = .int .i64 x6_1 ∧ Aside0 (spec_StemFewest.l0 kq l0 l1 x5_1 x6_1 = some r) ∧ Aside0 (kq ≤ k) ∧ Aside0 (Below w.heap.size w w'))
 case atStart => exact ⟨(0), (0), (by first | rfl | (simp; done) | (simp [*]; done)), (by first | rfl | (simp; done) | (simp [*]; done)), H', ⟨Nat.le_refl _⟩, ⟨by repeat (first | (with_reducible first | exact HB.out | apply below_alloc | apply pw_below_drewN | apply below_drew1) | exact HB.out)⟩⟩
 case round =>
  clear H'
  try clear c1
  try clear c2
  try clear p2
  try clear c4
  obtain ⟨x5_1, x6_1, rfl, rfl, HA, HK1, HB⟩ := hrel
  cases gk with
  | zero => exact absurd HA.out (by simp [spec_StemFewest.l0])
  | succ k1 =>
   have H := HA.out
   clear HA
   simp only [spec_StemFewest.l0] at H
   by_cases c5 : 0 < (l0.length : Int)
   rotate_left
   ·rw [if_neg c5] at H
    exact absurd H (by simp)
   rw [if_pos c5] at H
   have c5b0 : decide (0 < (l0.length : Int)) = true := decide_eq_true c5
   have c5b1 : decide (0 < l0.length) = true := decide_eq_true (by omega)
   clear c5
   by_cases c6 : x6_1 < ((rdOf ByteArray.empty l0 0).size : Int)
   rotate_left
   ·rw [if_neg c6] at H
    have c6b0 : decide (x6_1 < ((rdOf ByteArray.empty l0 0).size : Int)) = false := decide_eq_false c6
    clear c6
    obtain rfl := Option.some.inj H
    have p643 : 0 ≤ (0 : Int) := (by omega)
    have q643 : 0 < (l0.length : Int) := of_decide_eq_true (by first | (with_reducible assumption) | assumption)
    obtain ⟨ad643, e643, hx643_0⟩ := Kd.at_string HR0.out 0 p643 q643
    cases e643
    have qi643 : (0 < l0.length) = True := eq_true (by omega)
    (try rw [show ((0 : Int)).toNat = 0 from rfl] at hx643_0)
    (try rw [Addr.add_zero'] at hx643_0)
    replace hx643_0 := (HB.out.cell (World.block_lt_of_cell? w _ hx643_0)).trans hx643_0
    replace p643 := eq_true p643
    replace q643 := eq_true q643
    go_wp2
    go_ret
    exact ⟨by first | rfl | (simp [errW_none, errW_some] <;> rfl) | (simp [*, errW_none, errW_some] <;> rfl), by repeat (first | (with_reducible first | exact HB.out | apply below_alloc | apply pw_below_drewN | apply below_drew1) | exact HB.out)⟩
   rw [if_pos c6] at H
   have c6b0 : decide (x6_1 < ((rdOf ByteArray.empty l0 0).size : Int)) = true := decide_eq_true c6
   clear c6
   replace H := Option.bind_eq_some_iff.mp H
   obtain ⟨t644, A70, H⟩ := H
   replace H : (if 0 < (t644.length : Int) then (if 0 < ((rd_L4 t644 0).length : Int) then (spec_StemFewest.l1 k1 l0 l1 x5_1 x6_1 t644 (rd (rd_L4 t644 0) 0) 0) else (none)) else (none)) = some r := H
   have A7 := Aside0.mk A70
   clear A70
   by_cases c8 : 0 < (t644.length : Int)
   rotate_left
   ·rw [if_neg c8] at H
    exact absurd H (by simp)
   rw [if_pos c8] at H
   have c8b0 : decide (0 < (t644.length : Int)) = true := decide_eq_true c8
   have c8b1 : decide (0 < t644.length) = true := decide_eq_true (by omega)
   clear c8
   by_cases c9 : 0 < ((rd_L4 t644 0).length : Int)
   rotate_left
   ·rw [if_neg c9] at H
    exact absurd H (by simp)
   rw [if_pos c9] at H
   have c9b0 : decide (0 < ((rd_L4 t644 0).length : Int)) = true := decide_eq_true c9
   have c9b1 : decide (0 < (rd_L4 t644 0).length) = true := decide_eq_true (by omega)
   clear c9
   have H' := Aside0.mk H
   clear H
   have p643 : 0 ≤ (0 : Int) := (by omega)
   have q643 : 0 < (l0.length : Int) := of_decide_eq_true (by first | (with_reducible assumption) | assumption)
   obtain ⟨ad643, e643, hx643_0⟩ := Kd.at_string HR0.out 0 p643 q643
   cases e643
   have qi643 : (0 < l0.length) = True := eq_true (by omega)
   (try rw [show ((0 : Int)).toNat = 0 from rfl] at hx643_0)
   (try rw [Addr.add_zero'] at hx643_0)
   replace hx643_0 := (HB.out.cell (World.block_lt_of_cell? w _ hx643_0)).trans hx643_0
   replace p643 := eq_true p643
   replace q643 := eq_true q643
   go_wp2_with (first | ((with_reducible refine gate_callee (f := 73) rfl ?_); refine goesL_ (some 25) rfl rfl Tryd.func73 (by kernel_rfl) rfl #[.slice (some ad643) l0.length c0, .slice A1 l1.length c1, .int .i64 x6_1] rfl (by (try simp only [List.map_toArray, List.map_cons, List.map_nil]); first | done | rfl | (simp only [List.length_drop, List.length_take]; rfl)) ?_; (with_reducible refine (spec_l7Below.calls k1 _ _ l0 _ _ l1 x6_1 t644 _ ?side1 ?side2 ?side3 ?side4 A7.out).mono ?_); (case side1 => repeat (first | exact (Kd.C_below HR0.out HB.out) | (with_reducible refine Kd.C_alloc ?_ _) | (with_reducible refine Kd.C_drewN ?_ _) | (with_reducible refine Kd.C_drew ?_))); (case side2 => exact HC0.out); (case side3 => repeat (first | exact (Kd.C_below HR1.out HB.out) | (with_reducible refine Kd.C_alloc ?_ _) | (with_reducible refine Kd.C_drewN ?_ _) | (with_reducible refine Kd.C_drew ?_))); (case side4 => exact HC1.out); rintro e w10 ⟨v645, rfl, ho0, hb⟩; refine ⟨_, rfl, ?_⟩; have n0_ := Aside0.mk (Kd.S_lower ho0 (below_size (by repeat (first | (with_reducible first | exact HB.out | apply below_alloc | apply pw_below_drewN | apply below_drew1) | exact HB.out)))); have n1_ := Aside0.mk (below_step (by repeat (first | (with_reducible first | exact HB.out | apply below_alloc | apply pw_below_drewN | apply below_drew1) | exact HB.out)) hb); clear HB; have HO646 := n0_; have HB := n1_; clear n0_ n1_; (try clear hb); (try clear hb2); (try clear hk); (try clear hi); (try clear ho0); obtain ⟨Ao11, co11, eo11⟩ := Kd.S_slice HO646.out; subst eo11; have p647 : 0 ≤ (0 : Int) := (by omega); have q647 : 0 < (t644.length : Int) := of_decide_eq_true (by first | (with_reducible assumption) | assumption); obtain ⟨ad647, A647_0, c647_0, e647, hx647_0, hl647_0, hi647_0⟩ := at_L4 (Kd.S_reads' HO646.out).2.2 0 p647 q647; cases e647; obtain ⟨ce647, hce647, hMe647, hcc647⟩ := Kd.S_get HO646.out [] 0 p647 (by first | exact q647 | exact of_decide_eq_true (by first | (with_reducible assumption) | assumption) | (have e_ := (Kd.S_reads' HO646.out).1; omega)); obtain ⟨ve647_0, rfl, ge647_0⟩ := hMe647; have hv647_0 := hcc647 0 _ rfl; rw [Nat.add_zero, show ((Kd.slice 3 (Kd.int .i64))).sz = 1 from rfl, Nat.mul_one] at hv647_0; replace hv647_0 := Option.some.inj (hv647_0.symm.trans hx647_0); rw [hv647_0] at ge647_0; have HL647_0 := Aside0.mk (show Kd.R (Kd.int .i64) 3 _ _ _ _ (rd_L4 t644 0) from ge647_0); clear hv647_0 ge647_0; clear hcc647 hce647; have qi647 : (0 < t644.length) = True := eq_true (by omega); (try rw [show ((0 : Int)).toNat = 0 from rfl] at hx647_0); (try rw [Addr.add_zero'] at hx647_0); have HR647_0 := Aside0.mk hi647_0; have HC647_0 := Aside0.mk hl647_0; clear hi647_0 hl647_0; replace p647 := eq_true p647; replace q647 := eq_true q647; have p648 : 0 ≤ (0 : Int) := (by omega); have q648 : 0 < ((rd_L4 t644 0).length : Int) := of_decide_eq_true (by first | (with_reducible assumption) | assumption); obtain ⟨ad648, e648, hx648_0⟩ := Kd.at_int (by repeat (first | (with_reducible exact HR647_0.out) | (with_reducible refine Kd.C_alloc ?_ _) | (with_reducible refine Kd.C_drewN ?_ _) | (with_reducible refine Kd.C_drew ?_) | exact HR647_0.out)) 0 p648 q648; cases e648; have qi648 : (0 < (rd_L4 t644 0).length) = True := eq_true (by omega); (try rw [show ((0 : Int)).toNat = 0 from rfl] at hx648_0); (try rw [Addr.add_zero'] at hx648_0); replace p648 := eq_true p648; replace q648 := eq_true q648))
   go_loopg [8, 9] k1 (fun kq v8 v9 w' => ∃ (x8_2 : Int) (x9_2 : Int), v8 = .int .i64 x8_2 ∧ v9 = .int .i64 x9_2 ∧ Aside0 (spec_StemFewest.l1 kq l0 l1 x5_1 x6_1 t644 x8_2 x9_2 = some r) ∧ Aside0 (kq ≤ k1) ∧ Aside0 (Kd.S (Kd.slice 3 (Kd.int .i64)) 29 w' w.heap.size (fun _ => True) (.slice (some ad647) t644.length co11) t644) ∧ Aside0 (Kd.C (Kd.int .i64) w' (some ad648) (rd_L4 t644 0).length (rd_L4 t644 0)) ∧ Aside0 (Below w.heap.size w w'))
   case atStart => exact ⟨(rd (rd_L4 t644 0) 0), (0), (by first | rfl | (simp; done) | (simp [*]; done)), (by first | rfl | (simp; done) | (simp [*]; done)), H', ⟨Nat.le_refl _⟩, ⟨by (with_reducible repeat (first | apply Kd.S_alloc | apply Kd.S_drewN | apply Kd.S_drew)); exact HO646.out⟩, ⟨by repeat (first | (with_reducible exact HR647_0.out) | (with_reducible refine Kd.C_alloc ?_ _) | (with_reducible refine Kd.C_drewN ?_ _) | (with_reducible refine Kd.C_drew ?_) | exact HR647_0.out)⟩, ⟨by repeat (first | (with_reducible first | exact HB.out | apply below_alloc | apply pw_below_drewN | apply below_drew1) | exact HB.out)⟩⟩
   case round =>
    clear H'
    try clear c1
    try clear c2
    try clear p2
    try clear c4
    try clear c5
    try clear c5b0
    try clear c5b1
    try clear c6
    try clear c6b0
    try clear p6
    try clear q6
    try clear hx6
    try clear qi6
    try clear c7
    try clear c8
    try clear c8b0
    try clear c8b1
    try clear c9
    try clear c9b0
    try clear c9b1
    try clear hx643_0
    try clear hx647_0
    try clear hx648_0
    try clear p2
    try clear p643
    try clear p647
    try clear p648
    try clear q643
    try clear q647
    try clear q648
    obtain ⟨x8_2, x9_2, rfl, rfl, HA, HK2, HO_7, HR647_0, HB⟩ := hrel
    cases gk with
    | zero => exact absurd HA.out (by simp [spec_StemFewest.l1])
    | succ k2 =>
     have H := HA.out
     clear HA
     simp only [spec_StemFewest.l1] at H
     by_cases c12 : x9_2 < 4
     rotate_left
     ·rw [if_neg c12] at H
      have c12b0 : decide (x9_2 < 4) = false := decide_eq_false c12
      clear c12
      have H' := Aside0.mk H
      clear H
      go_wp2
      go_roundg k2
      case measure => have := HK1.out; have := HK2.out; omega
      case rel => exact ⟨(wrap64 (x5_1 + x8_2)), (wrap64 (x6_1 + 1)), (by first | rfl | (simp; done) | (simp [*]; done)), (by first | rfl | (simp; done) | (simp [*]; done)), H', ⟨by have := HK1.out; have := HK2.out; omega⟩, ⟨by repeat (first | (with_reducible first | exact HB.out | apply below_alloc | apply pw_below_drewN | apply below_drew1) | exact HB.out)⟩⟩
     rw [if_pos c12] at H
     have c12b0 : decide (x9_2 < 4) = true := decide_eq_true c12
     clear c12
     by_cases c13 : 0 < (t644.length : Int)
     rotate_left
     ·rw [if_neg c13] at H
      exact absurd H (by simp)
     rw [if_pos c13] at H
     have c13b0 : decide (0 < (t644.length : Int)) = true := decide_eq_true c13
     have c13b1 : decide (0 < t644.length) = true := decide_eq_true (by omega)
     clear c13
     by_cases c14 : 0 ≤ x9_2
     rotate_left
     ·rw [if_neg c14] at H
      exact absurd H (by simp)
     rw [if_pos c14] at H
     have c14b0 : decide (0 ≤ x9_2) = true := decide_eq_true c14
     clear c14
     by_cases c15 : x9_2 < ((rd_L4 t644 0).length : Int)
     rotate_left
     ·rw [if_neg c15] at H
      exact absurd H (by simp)
     rw [if_pos c15] at H
     have c15b0 : decide (x9_2 < ((rd_L4 t644 0).length : Int)) = true := decide_eq_true c15
     clear c15
     obtain ⟨ji16, hji16⟩ : ∃ j_ : Int, (mn x8_2 (rd (rd_L4 t644 0) x9_2)) = j_ := ⟨_, rfl⟩
     replace H : (spec_StemFewest.l1 k2 l0 l1 x5_1 x6_1 t644 ji16 (wrap64 (x9_2 + 1))) = some r := by first | (rw [hji16] at H; exact H) | (simp only [hji16] at H ⊢; exact H)
     have hji16_ : (if (rd (rd_L4 t644 0) x9_2) < x8_2 then (rd (rd_L4 t644 0) x9_2) else x8_2) = ji16 := hji16
     have H' := Aside0.mk H
     clear H
     have p649 : 0 ≤ (0 : Int) := (by omega)
     have q649 : 0 < (t644.length : Int) := of_decide_eq_true (by first | (with_reducible assumption) | assumption)
     obtain ⟨ad649, A649_0, c649_0, e649, hx649_0, hl649_0, hi649_0⟩ := at_L4 (Kd.S_reads' HO_7.out).2.2 0 p649 q649
     obtain rfl : ad647 = ad649 := (by injection e649)
     obtain ⟨ce649, hce649, hMe649, hcc649⟩ := Kd.S_get HO_7.out [] 0 p649 (by first | exact q649 | exact of_decide_eq_true (by first | (with_reducible assumption) | assumption) | (have e_ := (Kd.S_reads' HO_7.out).1; omega))
     obtain ⟨ve649_0, rfl, ge649_0⟩ := hMe649
     have hv649_0 := hcc649 0 _ rfl
     rw [Nat.add_zero, show ((Kd.slice 3 (Kd.int .i64))).sz = 1 from rfl, Nat.mul_one] at hv649_0
     replace hv649_0 := Option.some.inj (hv649_0.symm.trans hx649_0)
     rw [hv649_0] at ge649_0
     have HL649_0 := Aside0.mk (show Kd.R (Kd.int .i64) 3 _ _ _ _ (rd_L4 t644 0) from ge649_0)
     clear hv649_0 ge649_0
     clear hcc649 hce649
     have qi649 : (0 < t644.length) = True := eq_true (by omega)
     (try rw [show ((0 : Int)).toNat = 0 from rfl] at hx649_0)
     (try rw [Addr.add_zero'] at hx649_0)
     have HR649_0 := Aside0.mk hi649_0
     have HC649_0 := Aside0.mk hl649_0
     clear hi649_0 hl649_0
     replace p649 := eq_true p649
     replace q649 := eq_true q649
     have p650 : 0 ≤ (x9_2 : Int) := of_decide_eq_true (by first | (with_reducible assumption) | assumption)
     have q650 : x9_2 < ((rd_L4 t644 0).length : Int) := of_decide_eq_true (by first | (with_reducible assumption) | assumption)
     obtain ⟨ad650, e650, hx650_0⟩ := Kd.at_int (by repeat (first | (with_reducible exact HR649_0.out) | (with_reducible refine Kd.C_alloc ?_ _) | (with_reducible refine Kd.C_drewN ?_ _) | (with_reducible refine Kd.C_drew ?_) | exact HR649_0.out)) x9_2 p650 q650
     cases e650
     replace p650 := eq_true p650
     replace q650 := eq_true q650
     go_wp2
     first | go_roundg k2 | ((try simp only [← hji16] at H' ⊢); go_roundg k2)
     case measure => have := HK1.out; have := HK2.out; omega
     case rel => exact ⟨(ji16), (wrap64 (x9_2 + 1)), (by first | rfl | (simp; done) | (simp only [← hji16] <;> (first | rfl | simp)) | (simp [*]; done)), (by first | rfl | (simp; done) | (simp [*]; done)), H', ⟨by have := HK1.out; have := HK2.out; omega⟩, ⟨by (with_reducible repeat (first | apply Kd.S_alloc | apply Kd.S_drewN | apply Kd.S_drew)); exact HO_7.out⟩, ⟨by repeat (first | (with_reducible exact HR647_0.out) | (with_reducible refine Kd.C_alloc ?_ _) | (with_reducible refine Kd.C_drewN ?_ _) | (with_reducible refine Kd.C_drew ?_) | exact HR647_0.out)⟩, ⟨by repeat (first | (with_reducible first | exact HB.out | apply below_alloc | apply pw_below_drewN | apply below_drew1) | exact HB.out)⟩⟩
end Go.Proofs.YtejoneninbdjbaaDoor.E
end
section
namespace Go.Proofs.YtejoneninbdjbaaDoor.E
open Go.RowKit Go.Proofs.YtejoneninbdjbaaDoorW.PrintWords Go.Proofs.YtejoneninbdjbaaDoorW.PrintLast Go.Proofs.YtejoneninbdjbaaDoorW.PrintMore
attribute [local go_sem] max2_int min2_int max_two min_two max_three min_three max_four min_four
set_option linter.unusedVariables false
set_option linter.unusedSimpArgs false
attribute [local go_sem] str_leq_ str_gtr_ str_geq_
def impl_changesOf.l0 : Nat → List ByteArray → List Int → Int → Int → Option (Int)
 | 0, _, _, _, _ => none
 | k + 1, x0, x1, x5, x6 => if x6 < (x0.length : Int) then (if 0 ≤ x6 then (if x6 < (x1.length : Int) then (if 0 ≤ (rd x1 x6) then (if (rd x1 x6) < (x0.length : Int) then ((impl_farBetween.f k (rdOf ByteArray.empty x0 x6) (rdOf ByteArray.empty x0 (rd x1 x6))).bind fun t366 => (impl_changesOf.l0 k x0 x1 (wrap64 (x5 + t366)) (wrap64 (x6 + 1)))) else (none)) else (none)) else (none)) else (none)) else (some x5)
def impl_changesOf.f (k : Nat) (l0 : List ByteArray) (l1 : List Int) : Option (Int) := impl_changesOf.l0 k l0 l1 0 1
set_option maxHeartbeats 8000000 in
set_option maxRecDepth 100000 in
theorem impl_changesOf.calls (k : Nat) (A0 : Option Addr) (c0 : Nat) (l0 : List ByteArray) (A1 : Option Addr) (c1 : Nat) (l1 : List Int) (r : Int) (w : World) (hr0 : Kd.C Kd.string w A0 l0.length l0) (hc0 : l0.length ≤ c0) (hr1 : Kd.C (Kd.int .i64) w A1 l1.length l1) (hc1 : l1.length ≤ c1) (h : impl_changesOf.f k l0 l1 = some r) :
  Calls Tryd.prog 69 #[.slice A0 l0.length c0, .slice A1 l1.length c1] w fun e w' => e = .returned (.int .i64 r) ∧ Drawn0 w w' := by
 have HR0 := Aside0.mk hr0
 have HC0 := Aside0.mk hc0
 clear hr0 hc0
 have HR1 := Aside0.mk hr1
 have HC1 := Aside0.mk hc1
 clear hr1 hc1
 have H : (impl_changesOf.l0 k l0 l1 0 1) = some r := h
 clear h
 have H' := Aside0.mk H
 clear H
 go_enter Tryd.func69, Tryd.ntmps69
 go_wp2
 repeat (go_quiet (fail); try go_wp2)
 go_loopg [5, 6] k (fun kq v5 v6 w' => ∃ (x5_1 : Int) (x6_1 : Int), v5 = .int .i64 x5_1 ∧ v6 = .int .i64 x6_1 ∧ Aside0 (impl_changesOf.l0 kq l0 l1 x5_1 x6_1 = some r) ∧ Aside0 (kq ≤ k) ∧ Drawn0 w w')
 case atStart => exact ⟨(0), (1), (by first | rfl | (simp; done) | (simp [*]; done)), (by first | rfl | (simp; done) | (simp [*]; done)), H', ⟨Nat.le_refl _⟩, by repeat (first | exact Drawn0.refl _ | apply Drawn0.step)⟩
 case round =>
  clear H'
  try clear c1
  try clear p2
  obtain ⟨x5_1, x6_1, rfl, rfl, HA, HK1, ⟨m1, rfl⟩⟩ := hrel
  cases gk with
  | zero => exact absurd HA.out (by simp [impl_changesOf.l0])
  | succ k1 =>
   have H := HA.out
   clear HA
   simp only [impl_changesOf.l0] at H
   by_cases c3 : x6_1 < (l0.length : Int)
   rotate_left
   ·rw [if_neg c3] at H
    have c3b0 : decide (x6_1 < (l0.length : Int)) = false := decide_eq_false c3
    clear c3
    obtain rfl := Option.some.inj H
    go_wp2
    repeat (go_quiet (fail); try go_wp2)
    go_ret
    exact ⟨by first | rfl | (simp; done) | (simp [*]; done), by repeat (first | exact Drawn0.refl _ | apply Drawn0.step)⟩
   rw [if_pos c3] at H
   have c3b0 : decide (x6_1 < (l0.length : Int)) = true := decide_eq_true c3
   clear c3
   by_cases c4 : 0 ≤ x6_1
   rotate_left
   ·rw [if_neg c4] at H
    exact absurd H (by simp)
   rw [if_pos c4] at H
   have c4b0 : decide (0 ≤ x6_1) = true := decide_eq_true c4
   clear c4
   by_cases c5 : x6_1 < (l1.length : Int)
   rotate_left
   ·rw [if_neg c5] at H
    exact absurd H (by simp)
   rw [if_pos c5] at H
   have c5b0 : decide (x6_1 < (l1.length : Int)) = true := decide_eq_true c5
   clear c5
   by_cases c6 : 0 ≤ (rd l1 x6_1)
   rotate_left
   ·rw [if_neg c6] at H
    exact absurd H (by simp)
   rw [if_pos c6] at H
   have c6b0 : decide (0 ≤ (rd l1 x6_1)) = true := decide_eq_true c6
   clear c6
   by_cases c7 : (rd l1 x6_1) < (l0.length : Int)
   rotate_left
   ·rw [if_neg c7] at H
    exact absurd H (by simp)
   rw [if_pos c7] at H
   have c7b0 : decide ((rd l1 x6_1) < (l0.length : Int)) = true := decide_eq_true c7
   clear c7
   replace H := Option.bind_eq_some_iff.mp H
   obtain ⟨t366, A80, H⟩ := H
   replace H : (impl_changesOf.l0 k1 l0 l1 (wrap64 (x5_1 + t366)) (wrap64 (x6_1 + 1))) = some r := H
   have A8 := Aside0.mk A80
   clear A80
   have H' := Aside0.mk H
   clear H
   have p363 : 0 ≤ (x6_1 : Int) := of_decide_eq_true (by first | (with_reducible assumption) | assumption)
   have q363 : x6_1 < (l0.length : Int) := of_decide_eq_true (by first | (with_reducible assumption) | assumption)
   obtain ⟨ad363, e363, hx363_0⟩ := Kd.at_string HR0.out x6_1 p363 q363
   cases e363
   replace p363 := eq_true p363
   replace q363 := eq_true q363
   have p364 : 0 ≤ (x6_1 : Int) := of_decide_eq_true (by first | (with_reducible assumption) | assumption)
   have q364 : x6_1 < (l1.length : Int) := of_decide_eq_true (by first | (with_reducible assumption) | assumption)
   obtain ⟨ad364, e364, hx364_0⟩ := Kd.at_int HR1.out x6_1 p364 q364
   cases e364
   replace p364 := eq_true p364
   replace q364 := eq_true q364
   have p365 : 0 ≤ ((rd l1 x6_1) : Int) := of_decide_eq_true (by first | (with_reducible assumption) | assumption)
   have q365 : (rd l1 x6_1) < (l0.length : Int) := of_decide_eq_true (by first | (with_reducible assumption) | assumption)
   obtain ⟨ad365, e365, hx365_0⟩ := Kd.at_string HR0.out (rd l1 x6_1) p365 q365
   obtain rfl : ad363 = ad365 := (by injection e365)
   replace p365 := eq_true p365
   replace q365 := eq_true q365
   go_wp2_with (first | (go_at_call 64; (with_reducible refine (impl_farBetween.calls k1 (rdOf ByteArray.empty l0 x6_1) (rdOf ByteArray.empty l0 (rd l1 x6_1)) t366 _ A8.out).mono ?_); rintro e w' ⟨rfl, ⟨nd, rfl⟩⟩; (try first | exact ⟨rfl, _, World.drewN_drewN _ _ _⟩ | exact ⟨rfl, _, Eq.trans (World.drewN_drewN _ _ _) (congrArg (World.drewN _) (Nat.add_assoc _ _ _))⟩)))
   repeat (go_quiet (first | (go_at_call 64; (with_reducible refine (impl_farBetween.calls k1 (rdOf ByteArray.empty l0 x6_1) (rdOf ByteArray.empty l0 (rd l1 x6_1)) t366 _ A8.out).mono ?_); rintro e w' ⟨rfl, ⟨nd, rfl⟩⟩; (try first | exact ⟨rfl, _, World.drewN_drewN _ _ _⟩ | exact ⟨rfl, _, Eq.trans (World.drewN_drewN _ _ _) (congrArg (World.drewN _) (Nat.add_assoc _ _ _))⟩))); try go_wp2_with (first | (go_at_call 64; (with_reducible refine (impl_farBetween.calls k1 (rdOf ByteArray.empty l0 x6_1) (rdOf ByteArray.empty l0 (rd l1 x6_1)) t366 _ A8.out).mono ?_); rintro e w' ⟨rfl, ⟨nd, rfl⟩⟩; (try first | exact ⟨rfl, _, World.drewN_drewN _ _ _⟩ | exact ⟨rfl, _, Eq.trans (World.drewN_drewN _ _ _) (congrArg (World.drewN _) (Nat.add_assoc _ _ _))⟩))))
   go_roundg k1
   case measure => have := HK1.out; omega
   case rel => exact ⟨(wrap64 (x5_1 + t366)), (wrap64 (x6_1 + 1)), (by first | rfl | (simp; done) | (simp [*]; done)), (by first | rfl | (simp; done) | (simp [*]; done)), H', ⟨by have := HK1.out; omega⟩, by repeat (first | exact Drawn0.refl _ | apply Drawn0.step)⟩
end Go.Proofs.YtejoneninbdjbaaDoor.E
end
section
namespace Go.Proofs.YtejoneninbdjbaaDoor.E
open Go.RowKit Go.Proofs.YtejoneninbdjbaaDoorW.PrintWords Go.Proofs.YtejoneninbdjbaaDoorW.PrintLast Go.Proofs.YtejoneninbdjbaaDoorW.PrintMore
attribute [local go_sem] max2_int min2_int max_two min_two max_three min_three max_four min_four
set_option linter.unusedVariables false
set_option linter.unusedSimpArgs false
attribute [local go_sem] str_leq_ str_gtr_ str_geq_
mutual
def impl_StemValid.j0 : Nat → List Int → Bool → Option (Bool)
 | 0, _, _ => none
 | k + 1, x1, x34 => if x34 = true then (some false) else (if 1 ≤ (x1.length : Int) then (impl_StemValid.l0 k (x1.drop 1) ((x1.drop 1).length : Int) 0) else (none))
def impl_StemValid.l0 : Nat → List Int → Int → Int → Option (Bool)
 | 0, _, _, _ => none
 | k + 1, x36, x37, x38 => if x38 < x37 then (if 0 ≤ x38 then (if x38 < (x36.length : Int) then (if (rd x36 x38) < 0 then (some false) else (if (rd x36 x38) > x38 then (some false) else (impl_StemValid.l0 k x36 x37 (wrap64 (x38 + 1))))) else (none)) else (none)) else (some true)
end
def impl_StemValid.f (k : Nat) (l0 : List ByteArray) (l1 : List Int) : Option (Bool) := (impl_lostOf.f k l0).bind fun bt175 => (if bt175.2 = true then (if bt175.1 = (l0.length : Int) then (impl_StemValid.j0 k l1 true) else (if (l1.length : Int) = (l0.length : Int) then (if 0 < (l1.length : Int) then (impl_StemValid.j0 k l1 ((rd l1 0) != (-1))) else (none)) else (impl_StemValid.j0 k l1 true))) else (impl_StemValid.j0 k l1 true))
set_option maxHeartbeats 8000000 in
set_option maxRecDepth 100000 in
theorem impl_StemValid.calls (k : Nat) (A0 : Option Addr) (c0 : Nat) (l0 : List ByteArray) (A1 : Option Addr) (c1 : Nat) (l1 : List Int) (r : Bool) (w : World) (hr0 : Kd.C Kd.string w A0 l0.length l0) (hc0 : l0.length ≤ c0) (hr1 : Kd.C (Kd.int .i64) w A1 l1.length l1) (hc1 : l1.length ≤ c1) (h : impl_StemValid.f k l0 l1 = some r) :
  Calls Tryd.prog 30 #[.slice A0 l0.length c0, .slice A1 l1.length c1] w fun e w' => e = .returned (.bool r) ∧ Below w.heap.size w w' := by
 have HR0 := Aside0.mk hr0
 have HC0 := Aside0.mk hc0
 clear hr0 hc0
 have HR1 := Aside0.mk hr1
 have HC1 := Aside0.mk hc1
 clear hr1 hc1
 have HB := Aside0.mk (Below.refl w.heap.size w)
 have H : ((impl_lostOf.f k l0).bind fun bt175 => (if bt175.2 = true then (if bt175.1 = (l0.length : Int) then (impl_StemValid.j0 k l1 true) else (if (l1.length : Int) = (l0.length : Int) then (if 0 < (l1.length : Int) then (impl_StemValid.j0 k l1 ((rd l1 0) != (-1))) else (none)) else (impl_StemValid.j0 k l1 true))) else (impl_StemValid.j0 k l1 true))) = some r := h
 clear h
 replace H := Option.bind_eq_some_iff.mp H
 obtain ⟨⟨t175, t176⟩, A30, H⟩ := H
 replace H : (if t176 = true then (if t175 = (l0.length : Int) then (impl_StemValid.j0 k l1 true) else (if (l1.length : Int) = (l0.length : Int) then (if 0 < (l1.length : Int) then (impl_StemValid.j0 k l1 ((rd l1 0) != (-1))) else (none)) else (impl_StemValid.j0 k l1 true))) else (impl_StemValid.j0 k l1 true)) = some r := H
 have A3 := Aside0.mk A30
 clear A30
 have HC4 := Aside0.mk H
 clear H
 go_enter Tryd.func30, Tryd.ntmps30
 go_upto_region 2 with (first | ((with_reducible refine gate_callee (f := 61) rfl ?_); refine goesL_ (some 11) rfl rfl Tryd.func61 (by kernel_rfl) rfl #[.slice A0 l0.length c0] rfl (by (try simp only [List.map_toArray, List.map_cons, List.map_nil]); first | done | rfl | (simp only [List.length_drop, List.length_take]; rfl)) ?_; (with_reducible refine (impl_lostOf.calls k _ _ l0 t175 t176 _ ?side1 ?side2 A3.out).mono ?_); (case side1 => repeat (first | exact HR0.out | (with_reducible refine Kd.C_alloc ?_ _) | (with_reducible refine Kd.C_drewN ?_ _) | (with_reducible refine Kd.C_drew ?_))); (case side2 => exact HC0.out); rintro e w5 ⟨rfl, hb⟩; refine ⟨_, rfl, ?_⟩; have n0_ := Aside0.mk (below_step (by repeat (first | (with_reducible first | exact HB.out | apply below_alloc | apply pw_below_drewN | apply below_drew1) | exact HB.out)) hb); clear HB; have HB := n0_; clear n0_; (try clear hb); (try clear hb2); (try clear hk); (try clear hi)))
 (try simp only [Act.put, List.setIfInBounds_toArray, List.set_cons_zero, List.set_cons_succ])
 go_cut [34] (fun v34 wc => ∃ (kq : Nat) (x34_3 : Bool), v34 = .bool x34_3 ∧ Aside0 (impl_StemValid.j0 kq l1 x34_3 = some r) ∧ Aside0 (kq ≤ k) ∧ Aside0 (Below w.heap.size w wc))
 case first =>
  have H := HC4.out
  clear HC4
  by_cases c6 : t176 = true
  rotate_left
  ·replace c6 := Bool.eq_false_iff.mpr c6
   subst c6
   have H1 : (impl_StemValid.j0 k l1 true) = some r := by rw [if_neg (show ¬ (false = true) by decide)] at H; exact H
   clear H
   have H := H1
   clear H1
   have H' := Aside0.mk H
   clear H
   go_wp2
   go_meet
   case rel => exact ⟨_, (true), (by first | rfl | (simp; done) | (simp [*]; done)), H', ⟨by first | omega | exact Nat.le_refl _⟩, ⟨by repeat (first | (with_reducible first | exact HB.out | apply below_alloc | apply pw_below_drewN | apply below_drew1) | exact HB.out)⟩⟩
  subst c6
  have H1 : (if t175 = (l0.length : Int) then (impl_StemValid.j0 k l1 true) else (if (l1.length : Int) = (l0.length : Int) then (if 0 < (l1.length : Int) then (impl_StemValid.j0 k l1 ((rd l1 0) != (-1))) else (none)) else (impl_StemValid.j0 k l1 true))) = some r := by rw [if_pos rfl] at H; exact H
  clear H
  have H := H1
  clear H1
  by_cases c7 : t175 = (l0.length : Int)
  ·rw [if_pos c7] at H
   have c7b0 : (t175 == (l0.length : Int)) = true := beq_iff_eq.mpr c7
   have c7b1 : (t175 != (l0.length : Int)) = false := bne_eq_false_iff_eq.mpr c7
   clear c7
   (first | rw [c7b0] | (simp only [i64_w, i32_w]; rw [c7b0]) | skip)
   have H' := Aside0.mk H
   clear H
   go_wp2
   go_meet
   case rel => exact ⟨_, (true), (by first | rfl | (simp; done) | (simp [*]; done)), H', ⟨by first | omega | exact Nat.le_refl _⟩, ⟨by repeat (first | (with_reducible first | exact HB.out | apply below_alloc | apply pw_below_drewN | apply below_drew1) | exact HB.out)⟩⟩
  rw [if_neg c7] at H
  have c7b0 : (t175 == (l0.length : Int)) = false := beq_eq_false_iff_ne.mpr c7
  have c7b1 : (t175 != (l0.length : Int)) = true := bne_iff_ne.mpr c7
  (first | rw [c7b0] | (simp only [i64_w, i32_w]; rw [c7b0]) | skip)
  by_cases c8 : (l1.length : Int) = (l0.length : Int)
  rotate_left
  ·rw [if_neg c8] at H
   have c8b0 : ((l1.length : Int) == (l0.length : Int)) = false := beq_eq_false_iff_ne.mpr c8
   have c8b1 : ((l1.length : Int) != (l0.length : Int)) = true := bne_iff_ne.mpr c8
   have c8b2 : (l1.length == l0.length) = false := by first | simpa using c8 | (simp at c8 ⊢; omega)
   have H' := Aside0.mk H
   clear H
   go_wp2
   go_meet
   case rel => exact ⟨_, (true), (by first | rfl | (simp; done) | (simp [*]; done)), H', ⟨by first | omega | exact Nat.le_refl _⟩, ⟨by repeat (first | (with_reducible first | exact HB.out | apply below_alloc | apply pw_below_drewN | apply below_drew1) | exact HB.out)⟩⟩
  rw [if_pos c8] at H
  have c8b0 : ((l1.length : Int) == (l0.length : Int)) = true := beq_iff_eq.mpr c8
  have c8b1 : ((l1.length : Int) != (l0.length : Int)) = false := bne_eq_false_iff_eq.mpr c8
  have c8b2 : (l1.length == l0.length) = true := by first | simpa using c8 | (simp at c8 ⊢; omega)
  clear c8
  by_cases c9 : 0 < (l1.length : Int)
  rotate_left
  ·rw [if_neg c9] at H
   exact absurd H (by simp)
  rw [if_pos c9] at H
  have c9b0 : decide (0 < (l1.length : Int)) = true := decide_eq_true c9
  have c9b1 : decide (0 < l1.length) = true := decide_eq_true (by omega)
  clear c9
  have H' := Aside0.mk H
  clear H
  have p177 : 0 ≤ (0 : Int) := (by omega)
  have q177 : 0 < (l1.length : Int) := of_decide_eq_true (by first | (with_reducible assumption) | assumption)
  obtain ⟨ad177, e177, hx177_0⟩ := Kd.at_int HR1.out 0 p177 q177
  cases e177
  have qi177 : (0 < l1.length) = True := eq_true (by omega)
  (try rw [show ((0 : Int)).toNat = 0 from rfl] at hx177_0)
  (try rw [Addr.add_zero'] at hx177_0)
  replace hx177_0 := (HB.out.cell (World.block_lt_of_cell? w _ hx177_0)).trans hx177_0
  replace p177 := eq_true p177
  replace q177 := eq_true q177
  go_wp2
  go_meet
  case rel => exact ⟨_, (((rd l1 0) != (-1))), (by first | rfl | (simp; done) | (simp [*]; done)), H', ⟨by first | omega | exact Nat.le_refl _⟩, ⟨by repeat (first | (with_reducible first | exact HB.out | apply below_alloc | apply pw_below_drewN | apply below_drew1) | exact HB.out)⟩⟩
 case rest =>
  clear HC4
  try clear c1
  try clear p1
  try clear q1
  try clear hx1
  try clear qi1
  try clear p2
  try clear c3
  try clear c6
  try clear c7
  try clear c7b0
  try clear c7b1
  try clear c8
  try clear c8b0
  try clear c8b1
  try clear c8b2
  try clear c9
  try clear c9b0
  try clear c9b1
  try clear hx177_0
  try clear p177
  try clear q177
  obtain ⟨kq, x34_3, rfl, HA, HJ3, HB⟩ := hcut
  cases kq with
  | zero => exact absurd HA.out (by simp [impl_StemValid.j0])
  | succ kj3 =>
   have H := HA.out
   clear HA
   simp only [impl_StemValid.j0] at H
   by_cases c10 : x34_3 = true
   ·subst c10
    have H1 : (some false) = some r := by rw [if_pos rfl] at H; exact H
    clear H
    have H := H1
    clear H1
    obtain rfl := Option.some.inj H
    go_wp2
    go_ret
    exact ⟨by first | rfl | (simp [errW_none, errW_some] <;> rfl) | (simp [*, errW_none, errW_some] <;> rfl), by repeat (first | (with_reducible first | exact HB.out | apply below_alloc | apply pw_below_drewN | apply below_drew1) | exact HB.out)⟩
   replace c10 := Bool.eq_false_iff.mpr c10
   subst c10
   have H1 : (if 1 ≤ (l1.length : Int) then (impl_StemValid.l0 kj3 (l1.drop 1) ((l1.drop 1).length : Int) 0) else (none)) = some r := by rw [if_neg (show ¬ (false = true) by decide)] at H; exact H
   clear H
   have H := H1
   clear H1
   by_cases c11 : 1 ≤ (l1.length : Int)
   rotate_left
   ·rw [if_neg c11] at H
    exact absurd H (by simp)
   rw [if_pos c11] at H
   have c11b0 := eq_true c11
   have c11b1 : decide (1 ≤ (l1.length : Int)) = true := decide_eq_true c11
   clear c11
   have H' := Aside0.mk H
   clear H
   obtain ⟨i012, hi012, _, hsz12, _⟩ := info_parts info3
   obtain ⟨A12, hcut12, hA12, hC12⟩ := print_drop_of (P := Tryd.prog) (Value.int .i64) 0 29 3 .i64 Tryd.underlying29 hi012 hsz12 A1 c1 l1 1 (by omega) (of_decide_eq_true (by first | (with_reducible assumption) | assumption)) HC1.out
   have HR178 := Aside0.mk (Kd.C_of_reads (h1 := fun _ => rfl) (hA12 _ (Kd.reads_of_C HR1.out)))
   have HC178 := Aside0.mk hC12
   clear hA12 hC12 hi012 hsz12
   go_wp2
   go_loopg [38] kj3 (fun kq v38 w' => ∃ (x38_2 : Int), v38 = .int .i64 x38_2 ∧ Aside0 (impl_StemValid.l0 kq (l1.drop 1) ((l1.drop 1).length : Int) x38_2 = some r) ∧ Aside0 (kq ≤ kj3) ∧ Aside0 (Below w.heap.size w w'))
   case atStart => exact ⟨(0), (by first | rfl | (simp; done) | (simp [*]; done)), H', ⟨Nat.le_refl _⟩, ⟨by repeat (first | (with_reducible first | exact HB.out | apply below_alloc | apply pw_below_drewN | apply below_drew1) | exact HB.out)⟩⟩
   case round =>
    clear H'
    try clear c1
    try clear p1
    try clear q1
    try clear hx1
    try clear qi1
    try clear p2
    try clear c3
    try clear c6
    try clear c7
    try clear c7b0
    try clear c7b1
    try clear c8
    try clear c8b0
    try clear c8b1
    try clear c8b2
    try clear c9
    try clear c9b0
    try clear c9b1
    try clear c10
    try clear c11
    try clear c11b0
    try clear c11b1
    try clear hx177_0
    try clear p1
    try clear p177
    try clear p2
    try clear q1
    try clear q177
    obtain ⟨x38_2, rfl, HA, HK2, HB⟩ := hrel
    cases gk with
    | zero => exact absurd HA.out (by simp [impl_StemValid.l0])
    | succ k2 =>
     have H := HA.out
     clear HA
     simp only [impl_StemValid.l0] at H
     by_cases c13 : x38_2 < ((l1.drop 1).length : Int)
     rotate_left
     ·rw [if_neg c13] at H
      have c13b0 : decide (x38_2 < ((l1.drop 1).length : Int)) = false := decide_eq_false c13
      have c13b0c := c13b0
      (try simp only [List.drop_one, List.length_drop, List.length_tail] at c13b0c)
      clear c13
      obtain rfl := Option.some.inj H
      go_wp2
      go_ret
      exact ⟨by first | rfl | (simp [errW_none, errW_some] <;> rfl) | (simp [*, errW_none, errW_some] <;> rfl), by repeat (first | (with_reducible first | exact HB.out | apply below_alloc | apply pw_below_drewN | apply below_drew1) | exact HB.out)⟩
     rw [if_pos c13] at H
     have c13b0 : decide (x38_2 < ((l1.drop 1).length : Int)) = true := decide_eq_true c13
     have c13b0c := c13b0
     (try simp only [List.drop_one, List.length_drop, List.length_tail] at c13b0c)
     clear c13
     by_cases c14 : 0 ≤ x38_2
     rotate_left
     ·rw [if_neg c14] at H
      exact absurd H (by simp)
     rw [if_pos c14] at H
     have c14b0 : decide (0 ≤ x38_2) = true := decide_eq_true c14
     clear c14
     by_cases c15 : x38_2 < ((l1.drop 1).length : Int)
     rotate_left
     ·rw [if_neg c15] at H
      exact absurd H (by simp)
     rw [if_pos c15] at H
     have c15b0 : decide (x38_2 < ((l1.drop 1).length : Int)) = true := decide_eq_true c15
     have c15b0c := c15b0
     (try simp only [List.drop_one, List.length_drop, List.length_tail] at c15b0c)
     clear c15
     by_cases c16 : (rd (l1.drop 1) x38_2) < 0
     ·rw [if_pos c16] at H
      have c16b0 : decide ((rd (l1.drop 1) x38_2) < 0) = true := decide_eq_true c16
      have c16b0c := c16b0
      (try simp only [List.drop_one, List.length_drop, List.length_tail] at c16b0c)
      clear c16
      obtain rfl := Option.some.inj H
      have p179 : 0 ≤ (x38_2 : Int) := of_decide_eq_true (by first | (with_reducible assumption) | assumption)
      have q179 : x38_2 < ((l1.drop 1).length : Int) := of_decide_eq_true (by first | (with_reducible assumption) | assumption)
      obtain ⟨ad179, e179, hx179_0⟩ := Kd.at_int HR178.out x38_2 p179 q179
      cases e179
      replace hx179_0 := (HB.out.cell (World.block_lt_of_cell? w _ hx179_0)).trans hx179_0
      replace p179 := eq_true p179
      replace q179 := eq_true q179
      have q179c := q179
      (try simp only [List.drop_one, List.length_drop, List.length_tail] at q179c)
      go_wp2
      go_ret
      exact ⟨by first | rfl | (simp [errW_none, errW_some] <;> rfl) | (simp [*, errW_none, errW_some] <;> rfl), by repeat (first | (with_reducible first | exact HB.out | apply below_alloc | apply pw_below_drewN | apply below_drew1) | exact HB.out)⟩
     rw [if_neg c16] at H
     have c16b0 : decide ((rd (l1.drop 1) x38_2) < 0) = false := decide_eq_false c16
     have c16b0c := c16b0
     (try simp only [List.drop_one, List.length_drop, List.length_tail] at c16b0c)
     clear c16
     by_cases c17 : (rd (l1.drop 1) x38_2) > x38_2
     ·rw [if_pos c17] at H
      have c17b0 : decide (x38_2 < (rd (l1.drop 1) x38_2)) = true := decide_eq_true c17
      have c17b0c := c17b0
      (try simp only [List.drop_one, List.length_drop, List.length_tail] at c17b0c)
      clear c17
      obtain rfl := Option.some.inj H
      have p179 : 0 ≤ (x38_2 : Int) := of_decide_eq_true (by first | (with_reducible assumption) | assumption)
      have q179 : x38_2 < ((l1.drop 1).length : Int) := of_decide_eq_true (by first | (with_reducible assumption) | assumption)
      obtain ⟨ad179, e179, hx179_0⟩ := Kd.at_int HR178.out x38_2 p179 q179
      cases e179
      replace hx179_0 := (HB.out.cell (World.block_lt_of_cell? w _ hx179_0)).trans hx179_0
      replace p179 := eq_true p179
      replace q179 := eq_true q179
      have q179c := q179
      (try simp only [List.drop_one, List.length_drop, List.length_tail] at q179c)
      go_wp2
      go_ret
      exact ⟨by first | rfl | (simp [errW_none, errW_some] <;> rfl) | (simp [*, errW_none, errW_some] <;> rfl), by repeat (first | (with_reducible first | exact HB.out | apply below_alloc | apply pw_below_drewN | apply below_drew1) | exact HB.out)⟩
     rw [if_neg c17] at H
     have c17b0 : decide (x38_2 < (rd (l1.drop 1) x38_2)) = false := decide_eq_false c17
     have c17b0c := c17b0
     (try simp only [List.drop_one, List.length_drop, List.length_tail] at c17b0c)
     clear c17
     have H' := Aside0.mk H
     clear H
     have p179 : 0 ≤ (x38_2 : Int) := of_decide_eq_true (by first | (with_reducible assumption) | assumption)
     have q179 : x38_2 < ((l1.drop 1).length : Int) := of_decide_eq_true (by first | (with_reducible assumption) | assumption)
     obtain ⟨ad179, e179, hx179_0⟩ := Kd.at_int HR178.out x38_2 p179 q179
     cases e179
     replace hx179_0 := (HB.out.cell (World.block_lt_of_cell? w _ hx179_0)).trans hx179_0
     replace p179 := eq_true p179
     replace q179 := eq_true q179
     have q179c := q179
     (try simp only [List.drop_one, List.length_drop, List.length_tail] at q179c)
     go_wp2
     go_roundg k2
     case measure => have := HJ3.out; have := HK2.out; omega
     case rel => exact ⟨(wrap64 (x38_2 + 1)), (by first | rfl | (simp; done) | (simp [*]; done)), H', ⟨by have := HJ3.out; have := HK2.out; omega⟩, ⟨by repeat (first | (with_reducible first | exact HB.out | apply below_alloc | apply pw_below_drewN | apply below_drew1) | exact HB.out)⟩⟩
end Go.Proofs.YtejoneninbdjbaaDoor.E
end
section
namespace Go.Proofs.YtejoneninbdjbaaDoor.E
open Go.RowKit Go.Proofs.YtejoneninbdjbaaDoorW.PrintWords Go.Proofs.YtejoneninbdjbaaDoorW.PrintLast Go.Proofs.YtejoneninbdjbaaDoorW.PrintMore
attribute [local go_sem] max2_int min2_int max_two min_two max_three min_three max_four min_four
set_option linter.unusedVariables false
set_option linter.unusedSimpArgs false
attribute [local go_sem] str_leq_ str_gtr_ str_geq_
def banQ (q : Bool) (t : ByteArray) (p x : Nat) : Int := if q = true then 0 else if bt t (p : Int) = 97 + (x : Int) then 0 else 1000
theorem ndx_ch (t : ByteArray) (f v : Value) (c : Nat → Int) (y : Int) {x : Nat} (hx : x < 4) {w : World} {g : Nat} (h : w.heap[g]? = some (ndx t f v c y)) : w.cell? ⟨g, 3 + x, none⟩ = some (.int .i64 (c x)) := by
 rw [blk_cell h]
 obtain rfl | rfl | rfl | rfl : x = 0 ∨ x = 1 ∨ x = 2 ∨ x = 3 := by omega
 all_goals rfl
theorem bt_ix (t : ByteArray) (p : Nat) (h : p < t.size) : bt t (p : Int) = ((t[p]'h).toNat : Int) := by
 unfold bt
 rw [show ((p : Int)).toNat = p from rfl, dif_pos h]
theorem upd_upd {α : Type} (f : Nat → α) (j : Nat) (a b : α) : upd (upd f j a) j b = upd f j b := by
 funext m
 unfold upd
 split <;> rfl
theorem TreeF.setCh2 {l : List ByteArray} {st : List Int} {w : World} {B n : Nat} {na : Nat → Nat} {fr vs : Nat → Value} {nv : Value} {ch : Nat → Nat → Int} {lt : Nat → Int} {j : Nat} {c : Nat → Int} (h : TreeF l st w B n na fr vs nv (upd ch j c) lt) (hj : j < n) {x : Nat} (hx : x < 4) (z : Int) :
  TreeF l st (w.setCell ⟨na j, 3 + x, none⟩ (.int .i64 z)) B n na fr vs nv (upd ch j (upd c x z)) lt := by
 have := h.setCh j hj x hx z
 rw [upd_upd, upd_eq] at this
 exact this
theorem kid_at {st : List Int} {na : Nat → Nat} {n j i : Nat} (hS : ∀ k : Nat, 1 ≤ k → k < n → rd st (k : Int) < k) (hi : i < (kids st na n j).length) : ∃ kk, rdOf 0 (kids st na n j) (i : Int) = na kk ∧ (kidx st n j).take (i + 1) = (kidx st n j).take i ++ [kk] ∧ j < kk ∧ kk < n := by
 have hl : (kids st na n j).length = (kidx st n j).length := by rw [kids_map, List.length_map]
 have hi' : i < (kidx st n j).length := by omega
 refine ⟨(kidx st n j)[i], ?_, ?_, ?_, ?_⟩
 ·unfold rdOf
  rw [show ((i : Int)).toNat = i from rfl, List.getD_eq_getElem?_getD, kids_map, List.getElem?_map, List.getElem?_eq_getElem hi']
  rfl
 ·exact List.take_succ_eq_append_getElem hi'
 ·have m := kidx_mem (List.getElem_mem hi')
  have := hS _ m.1 m.2.1
  omega
 ·exact (kidx_mem (List.getElem_mem hi')).2.1
theorem count_up {x : Nat} {c d : Nat → Int} {F : Nat → Int} (h : ∀ z, z < x → c z = F z) (hd : ∀ z, z < x → d z = c z) (e : d x = F x) : ∀ z, z < x + 1 → d z = F z := by
 intro z hz
 by_cases g : z = x
 rotate_left
 ·rw [hd z (by omega), h z (by omega)]
 subst g; exact e
theorem w_up2 {n : Nat} (h : n + 1 ≤ 1000) : Value.int .i64 (wrap64 ((n : Int) + 1)) = Value.int .i64 ((n + 1 : Nat) : Int) := by
 have : wrap64 ((n : Int) + 1) = ((n + 1 : Nat) : Int) := by unfold wrap64; omega
 rw [this]
theorem banQ_same {t : ByteArray} {p x : Nat} (h : bt t (p : Int) = 97 + (x : Int)) : banQ false t p x = 0 := by unfold banQ; rw [if_neg (by decide), if_pos h]
theorem banQ_other {t : ByteArray} {p x : Nat} (h : ¬ bt t (p : Int) = 97 + (x : Int)) : banQ false t p x = 1000 := by unfold banQ; rw [if_neg (by decide), if_neg h]
theorem cnt_snoc (ch : Nat → Nat → Int) (x : Nat) (b : Int) (ks : List Nat) (k : Nat) : cnt ch x b (ks ++ [k]) = wrap64 (cnt ch x b ks + (bestTo (ch k) (x : Int) 4).2) := by
 unfold cnt
 rw [List.foldl_append]
 rfl
set_option maxHeartbeats 8000000 in
set_option maxRecDepth 100000 in
theorem stemNode_count.calls {l : List ByteArray} {st : List Int} {w : World} {B n : Nat} {na : Nat → Nat} {fr vs : Nat → Value} {nv : Value} {ch : Nat → Nat → Int} {lt : Nat → Int} (j : Nat) (h : TreeF l st w B n na fr vs nv ch lt) {Φ : World → Prop} (hB : Φ w) (hset : ∀ W i v, Φ W → Φ (W.setCell ⟨na j, i, none⟩ v)) (hbel : ∀ W W', Φ W → Below W.heap.size W W' → Φ W')
  (hS : ∀ k : Nat, 1 ≤ k → k < n → 0 ≤ rd st (k : Int) ∧ rd st (k : Int) < k) (hn : n ≤ 1000) (hj : j < n) (p : Nat) (hp : p < (rdOf ByteArray.empty l (j : Int)).size) (q : Bool) (hq : impl_isLost.f (rdOf ByteArray.empty l (j : Int)) = some q) :
  Calls Tryd.prog 75 #[.pointer (some ⟨na j, 0, none⟩), .int .i64 p] w fun e w' => e = .returned (.tuple #[]) ∧ ∃ c : Nat → Int, TreeF l st w' B n na fr vs nv (upd ch j c) lt ∧ (∀ x, x < 4 → c x = cnt ch x (banQ q (rdOf ByteArray.empty l (j : Int)) p x) (kidx st n j)) ∧ Φ w' := by
 have HT := Aside0.mk h
 have HB := Aside0.mk hB
 have HS := Aside0.mk hS
 have HQ := Aside0.mk hq
 have HSET := Aside0.mk hset
 have HBEL := Aside0.mk hbel
 clear h hB hS hq hset hbel
 go_enter Tryd.func75, Tryd.ntmps75
 go_wp2
 go_loopg [9] 4 (fun kq v9 w' => ∃ (x : Nat) (c : Nat → Int), v9 = .int .i64 x ∧ x + kq = 4 ∧ Aside0 (TreeF l st w' B n na fr vs nv (upd ch j c) lt) ∧ Aside0 (∀ z, z < x → c z = cnt ch z (banQ q (rdOf ByteArray.empty l (j : Int)) p z) (kidx st n j)) ∧ Aside0 (Φ w'))
 case atStart => exact ⟨0, ch j, rfl, rfl, ⟨by rw [upd_self]; exact HT.out⟩, ⟨fun z hz => absurd hz (Nat.not_lt_zero z)⟩, HB⟩
 case round =>
  obtain ⟨x, c, rfl, HX, HT, HC, HB⟩ := hrel
  cases gk with
  | zero =>
   obtain rfl : x = 4 := by omega
   go_wp2
   go_end0
   exact ⟨rfl, c, HT.out, HC.out, HB.out⟩
  | succ k1 =>
   have hx : x < 4 := by omega
   have HX4 := Aside0.mk hx
   have c7 := decide_eq_true (show (x : Int) < 4 by omega)
   have c6 := eq_true (show (0 : Int) ≤ (x : Int) by omega)
   have c8 := eq_true (show (x : Int) < 4 by omega)
   have nd := HT.out.nd j hj
   rw [upd_eq] at nd
   have f1 := blk_frozen nd (3 + x)
   have g1 := ndx_ch _ _ _ _ _ hx nd
   have HT1 := Aside0.mk (HT.out.setCh2 hj hx 0)
   have nd1 := HT1.out.nd j hj
   have g2 : (wr.setCell ⟨na j, 3 + x, none⟩ (.int .i64 0)).cell? ⟨na j, 0, none⟩ = some (.string (rdOf ByteArray.empty l (j : Int))) := (blk_cell nd1 0).trans rfl
   obtain ⟨Ao, co, eo⟩ := Kd.R_slice (show Kd.R kp 67 _ _ _ (vs j) (kids st na n j) from HT.out.rows j hj)
   have EO := Aside0.mk eo
   have pr1 := eq_true (show (0 : Int) ≤ (p : Int) by omega)
   have pr2 := eq_true (show (p : Int) < ((rdOf ByteArray.empty l (j : Int)).size : Int) by omega)
   clear nd nd1 hx eo
   cases q with
   | true =>
    go_wp2_with (first | (go_at_call 79; (with_reducible refine (impl_isLost.calls _ true _ HQ.out).mono ?_); rintro e w4 ⟨rfl, hb⟩; have HT2 := Aside0.mk (HT1.out.below hb); have HB2 : Aside0 (Φ w4) := ⟨HBEL.out _ _ (HSET.out _ _ _ HB.out) hb⟩; have nd2 := HT2.out.nd j hj; rw [upd_eq] at nd2; have g3 : w4.cell? ⟨na j, 2, none⟩ = some (.slice Ao (kids st na n j).length co) := (blk_cell nd2 2).trans (by rw [EO.out]; rfl); clear nd2 hb))
    go_loopg [45] (kids st na n j).length (fun kq v45 w' => ∃ (i : Nat) (d : Nat → Int), v45 = .int .i64 i ∧ i + kq = (kids st na n j).length ∧ Aside0 (TreeF l st w' B n na fr vs nv (upd ch j d) lt) ∧ Aside0 ((∀ z, z < x → d z = c z) ∧ d x = cnt ch x 0 ((kidx st n j).take i)) ∧ Aside0 (Φ w'))
    case atStart => exact ⟨0, _, rfl, by omega, HT2, ⟨fun z hz => upd_ne _ _ (by omega), upd_eq _ _ _⟩, HB2⟩
    case round =>
     obtain ⟨i, d, rfl, HI, HTi, HDi, HBi⟩ := hrel
     cases gk with
     | zero =>
      have c46 := decide_eq_false (show ¬ ((i : Int) < ((kids st na n j).length : Int)) by omega)
      have ei : Aside0 (i = (kids st na n j).length) := ⟨by omega⟩
      go_wp2
      go_roundg k1
      case measure => omega
      case rel => exact ⟨x + 1, d, rfl, by omega, HTi, ⟨count_up HC.out HDi.out.1 (by rw [HDi.out.2, ei.out, kids_map, List.length_map, List.take_length]; rfl)⟩, HBi⟩
     | succ k2 =>
      have hi : i < (kids st na n j).length := by omega
      have c46 := decide_eq_true (show (i : Int) < ((kids st na n j).length : Int) by omega)
      have c47 := eq_true (show (i : Int) < ((kids st na n j).length : Int) by omega)
      have c48 := eq_true (show (0 : Int) ≤ (i : Int) by omega)
      have c49 := eq_true hi
      obtain ⟨kk, ek, ekk, hkj, hkn⟩ := kid_at (st := st) (na := na) (n := n) (j := j) (fun k h0 h1 => (HS.out k h0 h1).2) hi
      have EK := Aside0.mk ekk
      have PRr := Aside0.mk (show PR wr B (.slice Ao (kids st na n j).length co) (kids st na n j) from by have := HTi.out.rows j hj; rw [EO.out] at this; exact this)
      obtain ⟨gn, cn, en, gb, gl, clls, HG⟩ := Kd.R_form (show Kd.R kp 67 _ _ _ (.slice Ao (kids st na n j).length co) (kids st na n j) from PRr.out) (by omega)
      simp only [Value.slice.injEq] at en
      obtain ⟨eA, _, eC⟩ := en
      subst eA eC
      obtain ⟨hx3, hf3⟩ := Kd.R_celln (0 : Nat) (show (Kd.scalar ptr (fun _ => rfl)).R 67 _ _ _ (.slice (some ⟨gn, 0, none⟩) (kids st na n j).length co) _ from PRr.out) (i : Int) (by omega) (by omega)
      rw [ek] at hx3
      simp only [ptr, Int.toNat_natCast] at hx3 hf3
      have ndk := Aside0.mk (HTi.out.nd kk hkn)
      rw [upd_ne _ _ (by omega)] at ndk
      clear gb gl HG ek hi
      go_wp2_with (first | (go_at_call 84; (with_reducible refine (stemNode_best.calls (na kk) _ _ _ (ch kk) (lt kk) (x : Int) _ ndk.out).mono ?_); rintro e w5 ⟨rfl, ⟨nd, rfl⟩⟩; have HTk := Aside0.mk (HTi.out.drewN (nd + 1)); have HBk : Aside0 (Φ (wr.drewN (nd + 1))) := ⟨HBEL.out _ _ HBi.out (pw_below_drewN (Below.refl _ _) _)⟩; have ndj := HTk.out.nd j hj; rw [upd_eq] at ndj; have g7 := ndx_ch _ _ _ _ _ HX4.out ndj; have f7 := blk_frozen ndj (3 + x); clear ndj))
      go_region
      go_wp2
      go_roundg k2
      case measure => omega
      case rel => exact ⟨i + 1, upd d x _, w_up2 (by have := kids_len st na n j; omega), by omega, ⟨HTk.out.setCh2 hj HX4.out _⟩, ⟨fun z hz => (upd_ne _ _ (Nat.ne_of_lt hz)).trans (HDi.out.1 z hz), by rw [upd_eq, EK.out, cnt_snoc, ← HDi.out.2]⟩, ⟨HSET.out _ _ _ HBk.out⟩⟩
   | false =>
    by_cases cb : bt (rdOf ByteArray.empty l (j : Int)) (p : Int) = 97 + (x : Int)
    rotate_left
    ·have CB := Aside0.mk cb
     rw [bt_ix _ _ hp] at cb
     have cb2 : (((rdOf ByteArray.empty l (j : Int))[p].toNat : Int) != 97 + (x : Int)) = true := bne_iff_ne.mpr cb
     clear cb
     go_wp2_with (first | (go_at_call 79; (with_reducible refine (impl_isLost.calls _ false _ HQ.out).mono ?_); rintro e w4 ⟨rfl, hb⟩; have HT2 := Aside0.mk (HT1.out.below hb); have HB2 : Aside0 (Φ w4) := ⟨HBEL.out _ _ (HSET.out _ _ _ HB.out) hb⟩; have nd2 := HT2.out.nd j hj; rw [upd_eq] at nd2; have g3 : w4.cell? ⟨na j, 2, none⟩ = some (.slice Ao (kids st na n j).length co) := (blk_cell nd2 2).trans (by rw [EO.out]; rfl); have g4 : w4.cell? ⟨na j, 0, none⟩ = some (.string (rdOf ByteArray.empty l (j : Int))) := (blk_cell nd2 0).trans rfl; have g5 := ndx_ch _ _ _ _ _ HX4.out nd2; have f5 := blk_frozen nd2 (3 + x); have HT3 := Aside0.mk (HT2.out.setCh2 hj HX4.out 1000); have nd3 := HT3.out.nd j hj; have g6 : (w4.setCell ⟨na j, 3 + x, none⟩ (.int .i64 1000)).cell? ⟨na j, 2, none⟩ = some (.slice Ao (kids st na n j).length co) := (blk_cell nd3 2).trans (by rw [EO.out]; rfl); clear nd3; clear nd2 hb))
     go_loopg [45] (kids st na n j).length (fun kq v45 w' => ∃ (i : Nat) (d : Nat → Int), v45 = .int .i64 i ∧ i + kq = (kids st na n j).length ∧ Aside0 (TreeF l st w' B n na fr vs nv (upd ch j d) lt) ∧ Aside0 ((∀ z, z < x → d z = c z) ∧ d x = cnt ch x 1000 ((kidx st n j).take i)) ∧ Aside0 (Φ w'))
     case atStart => exact ⟨0, _, rfl, by omega, HT3, ⟨fun z hz => (upd_ne _ _ (by omega)).trans (upd_ne _ _ (by omega)), upd_eq _ _ _⟩, ⟨HSET.out _ _ _ HB2.out⟩⟩
     case round =>
      obtain ⟨i, d, rfl, HI, HTi, HDi, HBi⟩ := hrel
      cases gk with
      | zero =>
       have c46 := decide_eq_false (show ¬ ((i : Int) < ((kids st na n j).length : Int)) by omega)
       have ei : Aside0 (i = (kids st na n j).length) := ⟨by omega⟩
       go_wp2
       go_roundg k1
       case measure => omega
       case rel => exact ⟨x + 1, d, rfl, by omega, HTi, ⟨count_up HC.out HDi.out.1 (by rw [HDi.out.2, ei.out, kids_map, List.length_map, List.take_length, banQ_other CB.out])⟩, HBi⟩
      | succ k2 =>
       have hi : i < (kids st na n j).length := by omega
       have c46 := decide_eq_true (show (i : Int) < ((kids st na n j).length : Int) by omega)
       have c47 := eq_true (show (i : Int) < ((kids st na n j).length : Int) by omega)
       have c48 := eq_true (show (0 : Int) ≤ (i : Int) by omega)
       have c49 := eq_true hi
       obtain ⟨kk, ek, ekk, hkj, hkn⟩ := kid_at (st := st) (na := na) (n := n) (j := j) (fun k h0 h1 => (HS.out k h0 h1).2) hi
       have EK := Aside0.mk ekk
       have PRr := Aside0.mk (show PR wr B (.slice Ao (kids st na n j).length co) (kids st na n j) from by have := HTi.out.rows j hj; rw [EO.out] at this; exact this)
       obtain ⟨gn, cn, en, gb, gl, clls, HG⟩ := Kd.R_form (show Kd.R kp 67 _ _ _ (.slice Ao (kids st na n j).length co) (kids st na n j) from PRr.out) (by omega)
       simp only [Value.slice.injEq] at en
       obtain ⟨eA, _, eC⟩ := en
       subst eA eC
       obtain ⟨hx3, hf3⟩ := Kd.R_celln (0 : Nat) (show (Kd.scalar ptr (fun _ => rfl)).R 67 _ _ _ (.slice (some ⟨gn, 0, none⟩) (kids st na n j).length co) _ from PRr.out) (i : Int) (by omega) (by omega)
       rw [ek] at hx3
       simp only [ptr, Int.toNat_natCast] at hx3 hf3
       have ndk := Aside0.mk (HTi.out.nd kk hkn)
       rw [upd_ne _ _ (by omega)] at ndk
       clear gb gl HG ek hi
       go_wp2_with (first | (go_at_call 84; (with_reducible refine (stemNode_best.calls (na kk) _ _ _ (ch kk) (lt kk) (x : Int) _ ndk.out).mono ?_); rintro e w5 ⟨rfl, ⟨nd, rfl⟩⟩; have HTk := Aside0.mk (HTi.out.drewN (nd + 1)); have HBk : Aside0 (Φ (wr.drewN (nd + 1))) := ⟨HBEL.out _ _ HBi.out (pw_below_drewN (Below.refl _ _) _)⟩; have ndj := HTk.out.nd j hj; rw [upd_eq] at ndj; have g7 := ndx_ch _ _ _ _ _ HX4.out ndj; have f7 := blk_frozen ndj (3 + x); clear ndj))
       go_region
       go_wp2
       go_roundg k2
       case measure => omega
       case rel => exact ⟨i + 1, upd d x _, w_up2 (by have := kids_len st na n j; omega), by omega, ⟨HTk.out.setCh2 hj HX4.out _⟩, ⟨fun z hz => (upd_ne _ _ (Nat.ne_of_lt hz)).trans (HDi.out.1 z hz), by rw [upd_eq, EK.out, cnt_snoc, ← HDi.out.2]⟩, ⟨HSET.out _ _ _ HBk.out⟩⟩
    have CB := Aside0.mk cb
    rw [bt_ix _ _ hp] at cb
    have cb2 : (((rdOf ByteArray.empty l (j : Int))[p].toNat : Int) != 97 + (x : Int)) = false := bne_eq_false_iff_eq.mpr cb
    clear cb
    go_wp2_with (first | (go_at_call 79; (with_reducible refine (impl_isLost.calls _ false _ HQ.out).mono ?_); rintro e w4 ⟨rfl, hb⟩; have HT2 := Aside0.mk (HT1.out.below hb); have HB2 : Aside0 (Φ w4) := ⟨HBEL.out _ _ (HSET.out _ _ _ HB.out) hb⟩; have nd2 := HT2.out.nd j hj; rw [upd_eq] at nd2; have g3 : w4.cell? ⟨na j, 2, none⟩ = some (.slice Ao (kids st na n j).length co) := (blk_cell nd2 2).trans (by rw [EO.out]; rfl); have g4 : w4.cell? ⟨na j, 0, none⟩ = some (.string (rdOf ByteArray.empty l (j : Int))) := (blk_cell nd2 0).trans rfl; clear nd2 hb))
    go_loopg [45] (kids st na n j).length (fun kq v45 w' => ∃ (i : Nat) (d : Nat → Int), v45 = .int .i64 i ∧ i + kq = (kids st na n j).length ∧ Aside0 (TreeF l st w' B n na fr vs nv (upd ch j d) lt) ∧ Aside0 ((∀ z, z < x → d z = c z) ∧ d x = cnt ch x 0 ((kidx st n j).take i)) ∧ Aside0 (Φ w'))
    case atStart => exact ⟨0, _, rfl, by omega, HT2, ⟨fun z hz => upd_ne _ _ (by omega), upd_eq _ _ _⟩, HB2⟩
    case round =>
     obtain ⟨i, d, rfl, HI, HTi, HDi, HBi⟩ := hrel
     cases gk with
     | zero =>
      have c46 := decide_eq_false (show ¬ ((i : Int) < ((kids st na n j).length : Int)) by omega)
      have ei : Aside0 (i = (kids st na n j).length) := ⟨by omega⟩
      go_wp2
      go_roundg k1
      case measure => omega
      case rel => exact ⟨x + 1, d, rfl, by omega, HTi, ⟨count_up HC.out HDi.out.1 (by rw [HDi.out.2, ei.out, kids_map, List.length_map, List.take_length, banQ_same CB.out])⟩, HBi⟩
     | succ k2 =>
      have hi : i < (kids st na n j).length := by omega
      have c46 := decide_eq_true (show (i : Int) < ((kids st na n j).length : Int) by omega)
      have c47 := eq_true (show (i : Int) < ((kids st na n j).length : Int) by omega)
      have c48 := eq_true (show (0 : Int) ≤ (i : Int) by omega)
      have c49 := eq_true hi
      obtain ⟨kk, ek, ekk, hkj, hkn⟩ := kid_at (st := st) (na := na) (n := n) (j := j) (fun k h0 h1 => (HS.out k h0 h1).2) hi
      have EK := Aside0.mk ekk
      have PRr := Aside0.mk (show PR wr B (.slice Ao (kids st na n j).length co) (kids st na n j) from by have := HTi.out.rows j hj; rw [EO.out] at this; exact this)
      obtain ⟨gn, cn, en, gb, gl, clls, HG⟩ := Kd.R_form (show Kd.R kp 67 _ _ _ (.slice Ao (kids st na n j).length co) (kids st na n j) from PRr.out) (by omega)
      simp only [Value.slice.injEq] at en
      obtain ⟨eA, _, eC⟩ := en
      subst eA eC
      obtain ⟨hx3, hf3⟩ := Kd.R_celln (0 : Nat) (show (Kd.scalar ptr (fun _ => rfl)).R 67 _ _ _ (.slice (some ⟨gn, 0, none⟩) (kids st na n j).length co) _ from PRr.out) (i : Int) (by omega) (by omega)
      rw [ek] at hx3
      simp only [ptr, Int.toNat_natCast] at hx3 hf3
      have ndk := Aside0.mk (HTi.out.nd kk hkn)
      rw [upd_ne _ _ (by omega)] at ndk
      clear gb gl HG ek hi
      go_wp2_with (first | (go_at_call 84; (with_reducible refine (stemNode_best.calls (na kk) _ _ _ (ch kk) (lt kk) (x : Int) _ ndk.out).mono ?_); rintro e w5 ⟨rfl, ⟨nd, rfl⟩⟩; have HTk := Aside0.mk (HTi.out.drewN (nd + 1)); have HBk : Aside0 (Φ (wr.drewN (nd + 1))) := ⟨HBEL.out _ _ HBi.out (pw_below_drewN (Below.refl _ _) _)⟩; have ndj := HTk.out.nd j hj; rw [upd_eq] at ndj; have g7 := ndx_ch _ _ _ _ _ HX4.out ndj; have f7 := blk_frozen ndj (3 + x); clear ndj))
      go_region
      go_wp2
      go_roundg k2
      case measure => omega
      case rel => exact ⟨i + 1, upd d x _, w_up2 (by have := kids_len st na n j; omega), by omega, ⟨HTk.out.setCh2 hj HX4.out _⟩, ⟨fun z hz => (upd_ne _ _ (Nat.ne_of_lt hz)).trans (HDi.out.1 z hz), by rw [upd_eq, EK.out, cnt_snoc, ← HDi.out.2]⟩, ⟨HSET.out _ _ _ HBk.out⟩⟩
set_option maxHeartbeats 8000000 in
set_option maxRecDepth 100000 in
theorem stemNode_choose.calls {l : List ByteArray} {st : List Int} {w : World} {B n : Nat} {na : Nat → Nat} {fr vs : Nat → Value} {nv : Value} {ch : Nat → Nat → Int} {lt : Nat → Int} (j : Nat) (h : TreeF l st w B n na fr vs nv ch lt) {Φ : World → Prop} (hB : Φ w) (hset : ∀ W i v, Φ W → Φ (W.setCell ⟨na j, i, none⟩ v)) (hbel : ∀ W W', Φ W → Below W.heap.size W W' → Φ W') (hj : j < n) (q : Int)
  (hq : (fr j = .pointer none ∧ q = -1) ∨ ∃ s, s < n ∧ fr j = ptr (na s) ∧ q = lt s) :
  Calls Tryd.prog 76 #[.pointer (some ⟨na j, 0, none⟩)] w fun e w' => e = .returned (.tuple #[]) ∧ TreeF l st w' B n na fr vs nv ch (upd lt j (bestTo (ch j) q 4).1) ∧ Φ w' := by
 have hd := h.nd j hj
 have HSET := Aside0.mk hset
 have HBEL := Aside0.mk hbel
 have HT := Aside0.mk h
 have HB := Aside0.mk hB
 have hf := blk_frozen hd 7
 have h7 : w.cell? ⟨na j, 7, none⟩ = some (.int .i64 (lt j)) := (blk_cell hd 7).trans rfl
 clear h hB hset hbel
 rcases hq with ⟨e1, rfl⟩ | ⟨s, hs, e1, rfl⟩
 ·have h1 : w.cell? ⟨na j, 1, none⟩ = some (.pointer none) := (blk_cell hd 1).trans (by rw [e1]; rfl)
  clear e1
  have HD := Aside0.mk hd
  clear hd
  go_enter Tryd.func76, Tryd.ntmps76
  go_wp2_with (first | (go_at_call 84; (with_reducible refine (stemNode_best.calls (na j) _ _ _ (ch j) (lt j) (-1) _ HD.out).mono ?_); rintro e w' ⟨rfl, ⟨nd, rfl⟩⟩; (try first | exact ⟨rfl, _, World.drewN_drewN _ _ _⟩)))
  go_end0
  have HT2 := (HT.out.drewN nd).setLt j hj (bestTo (ch j) (-1) 4).1
  have HB2 : Φ (w.drewN nd) := HBEL.out _ _ HB.out (pw_below_drewN (Below.refl _ _) _)
  exact ⟨rfl, HT2, HSET.out _ _ _ HB2⟩
 ·have h1 : w.cell? ⟨na j, 1, none⟩ = some (.pointer (some ⟨na s, 0, none⟩)) := (blk_cell hd 1).trans (by rw [e1]; rfl)
  clear e1
  have hs7 : w.cell? ⟨na s, 7, none⟩ = some (.int .i64 (lt s)) := (blk_cell (HT.out.nd s hs) 7).trans rfl
  have HD := Aside0.mk hd
  clear hd
  go_enter Tryd.func76, Tryd.ntmps76
  go_wp2_with (first | (go_at_call 84; (with_reducible refine (stemNode_best.calls (na j) _ _ _ (ch j) (lt j) (lt s) _ HD.out).mono ?_); rintro e w' ⟨rfl, ⟨nd, rfl⟩⟩; (try first | exact ⟨rfl, _, World.drewN_drewN _ _ _⟩)))
  go_end0
  have HT2 := (HT.out.drewN nd).setLt j hj (bestTo (ch j) (lt s) 4).1
  have HB2 : Φ (w.drewN nd) := HBEL.out _ _ HB.out (pw_below_drewN (Below.refl _ _) _)
  exact ⟨rfl, HT2, HSET.out _ _ _ HB2⟩
def lostQ (t : ByteArray) : Bool := decide (impl_isLost.f t = some true)
theorem lostQ_some {t : ByteArray} (h : (impl_isLost.f t).isSome = true) : impl_isLost.f t = some (lostQ t) := by
 obtain ⟨b, hb⟩ := Option.isSome_iff_exists.mp h
 unfold lostQ
 rw [hb]
 cases b <;> rfl
def banP (l : List ByteArray) (p j x : Nat) : Int := banQ (lostQ (rdOf ByteArray.empty l (j : Int))) (rdOf ByteArray.empty l (j : Int)) p x
def tabP (l : List ByteArray) (st : List Int) (p : Nat) : Nat → Nat → Int := chP st l.length (banP l p) l.length
def letP (l : List ByteArray) (st : List Int) (p j : Nat) : Int := ltP (tabP l st p) st j
def stOkF (l : List ByteArray) (st : List Int) : Bool := decide (st.length = l.length) && decide (l.length ≤ 1000) && (List.range st.length).all (fun j => decide (j = 0) || (decide (0 ≤ rd st (j : Int)) && decide (rd st (j : Int) < j)))
def fillOk (l : List ByteArray) (st : List Int) : Bool := stOkF l st && (decide (0 < l.length) && l.all (fun t => decide (t.size = (rdOf ByteArray.empty l 0).size) && (impl_isLost.f t).isSome && decide (t.size ≤ 1000)))
theorem stOkF_of {l : List ByteArray} {st : List Int} (h : stOkF l st = true) : stOk l st := by
 unfold stOkF at h
 rw [Bool.and_eq_true, Bool.and_eq_true] at h
 refine ⟨of_decide_eq_true h.1.1, of_decide_eq_true h.1.2, fun j h1 h2 => ?_⟩
 have := List.all_eq_true.mp h.2 j (List.mem_range.mpr h2)
 rw [Bool.or_eq_true, Bool.and_eq_true] at this
 rcases this with e | e
 ·have := of_decide_eq_true e; omega
 ·exact ⟨of_decide_eq_true e.1, of_decide_eq_true e.2⟩
structure FillH (l : List ByteArray) (st : List Int) : Prop where
 ok : stOk l st
 pos : 0 < l.length
 sz : ∀ j : Nat, j < l.length → (rdOf ByteArray.empty l (j : Int)).size = (rdOf ByteArray.empty l 0).size
 lost : ∀ j : Nat, j < l.length → impl_isLost.f (rdOf ByteArray.empty l (j : Int)) = some (lostQ (rdOf ByteArray.empty l (j : Int)))
 small : (rdOf ByteArray.empty l 0).size ≤ 1000
theorem fillH_of {l : List ByteArray} {st : List Int} (h : fillOk l st = true) : FillH l st := by
 unfold fillOk at h
 rw [Bool.and_eq_true, Bool.and_eq_true] at h
 have hp := of_decide_eq_true h.2.1
 have hm : ∀ j : Nat, j < l.length → rdOf ByteArray.empty l (j : Int) ∈ l := fun j hj => by
  unfold rdOf
  rw [show ((j : Int)).toNat = j from rfl, List.getD_eq_getElem?_getD, List.getElem?_eq_getElem hj]
  exact List.getElem_mem hj
 have ha : ∀ j : Nat, j < l.length → (rdOf ByteArray.empty l (j : Int)).size = (rdOf ByteArray.empty l 0).size ∧ (impl_isLost.f (rdOf ByteArray.empty l (j : Int))).isSome = true ∧ (rdOf ByteArray.empty l (j : Int)).size ≤ 1000 := fun j hj => by
  have := List.all_eq_true.mp h.2.2 _ (hm j hj)
  rw [Bool.and_eq_true, Bool.and_eq_true] at this
  exact ⟨of_decide_eq_true this.1.1, this.1.2, of_decide_eq_true this.2⟩
 exact ⟨stOkF_of h.1, hp, fun j hj => (ha j hj).1, fun j hj => lostQ_some (ha j hj).2.1, (ha 0 hp).2.2⟩
def impl_StemFill.f (k : Nat) (l0 : List ByteArray) (l1 : List Int) : Option (List ByteArray × Bool) := (impl_StemValid.f k l0 l1).bind fun t => (if t = true then (if fillOk l0 l1 = true then (some (fillM (letP l0 l1) l0.length (fun _ => (rdOf ByteArray.empty l0 0).size), true)) else none) else (some (([] : List ByteArray), false)))
def PhiF (w0 : World) (B : Nat) (vf : Value) (xs : List ByteArray) (W : World) : Prop := Below B w0 W ∧ B ≤ W.heap.size ∧ Kd.R Kd.string 9 W B (fun _ => True) vf xs
theorem PhiF.below {w0 W W' : World} {B : Nat} {vf : Value} {xs : List ByteArray} (h : PhiF w0 B vf xs W) (hb : Below W.heap.size W W') : PhiF w0 B vf xs W' :=
 ⟨h.1.trans ⟨hb.os, hb.tape, hb.output, hb.size, fun k hk => hb.block k (by have := h.2.1; omega)⟩, Nat.le_trans h.2.1 hb.size, Kd.R_of_own (own_move (Kd.own_of_R h.2.2) (fun b hb' => hb.block b (by obtain ⟨_, g⟩ := own_typed (Kd.own_of_R h.2.2) b hb'; exact blk_lt g))) (fun _ _ => trivial)⟩
theorem PhiF.set {w0 W : World} {B g : Nat} {vf : Value} {xs : List ByteArray} (h : PhiF w0 B vf xs W) (hg : B ≤ g) (hne : ∀ b, vf.ownBlock = some b → b ≠ g) (i : Nat) (v : Value) : PhiF w0 B vf xs (W.setCell ⟨g, i, none⟩ v) :=
 ⟨below_setG h.1 hg v, by rw [setCell_size]; exact h.2.1, Kd.R_of_own (own_move (Kd.own_of_R h.2.2) (fun b hb' => Below.heap_setCell W _ v b (hne b hb'))) (fun _ _ => trivial)⟩
theorem up_step (j i p : Nat) : upd (fun j => if j < i then p + 1 else p) i (p + 1) j = if j < i + 1 then p + 1 else p := by
 by_cases e : j = i
 ·subst e; rw [upd_eq, if_pos (Nat.lt_succ_self j)]
 rw [upd_ne _ _ e]
 by_cases h : j < i
 rotate_left
 ·rw [if_neg h, if_neg (by omega)]
 rw [if_pos h, if_pos (by omega)]
theorem let_up {lt : Nat → Int} {F : Nat → Int} {i : Nat} (h : ∀ j, j < i → lt j = F j) : ∀ j, j < i + 1 → upd lt i (F i) j = F j := by
 intro j hj
 by_cases e : j = i
 rotate_left
 ·rw [upd_ne _ _ e]; exact h j (by omega)
 subst e; exact upd_eq _ _ _
theorem TreeF.far {l : List ByteArray} {st : List Int} {w : World} {B C n : Nat} {na : Nat → Nat} {fr vs : Nat → Value} {nv : Value} {ch : Nat → Nat → Int} {lt : Nat → Int} {g m c : Nat} {xs : List ByteArray} (h : TreeF l st w B n na fr vs nv ch lt) (hg : Kd.R Kd.string 9 w C (fun _ => True) (.slice (some ⟨g, 0, none⟩) m c) xs) (i : Nat) (v : Value) : TreeF l st (w.setCell ⟨g, i, none⟩ v) B n na fr vs nv ch lt := by
 obtain ⟨cs, hc⟩ := own_typed (Kd.own_of_R hg) g rfl
 have hr : ∀ {v' : Value} {xs : List Nat}, PR w B v' xs → ∀ b, v'.ownBlock = some b → b ≠ g := fun hp b hb => by
  obtain ⟨_, hq⟩ := hp.typed hb
  exact blk_ne hq hc (by decide)
 exact ⟨fun j hj => blk_far (h.nd j hj) (blk_ne (h.nd j hj) hc (by decide)) v, h.ge, h.inj, fun j hj => (h.rows j hj).move (fun b hb => Below.heap_setCell w _ v b (hr (h.rows j hj) b hb)), h.nr.move (fun b hb => Below.heap_setCell w _ v b (hr h.nr b hb))⟩
theorem PhiF.put {w0 W : World} {B g n c : Nat} {xs : List ByteArray} (h : PhiF w0 B (.slice (some ⟨g, 0, none⟩) n c) xs W) (i : Nat) (x : ByteArray) : PhiF w0 B (.slice (some ⟨g, 0, none⟩) n c) (xs.set i x) (W.setCell ⟨g, i, none⟩ (.string x)) :=
 ⟨below_setG h.1 (Kd.R_base h.2.2 g rfl) _, by rw [setCell_size]; exact h.2.1, (Kd.R_putg h.2.2 (i : Int) x).1⟩
theorem str_one (x : Int) : (strOfNums [x]).size = 1 := rfl
theorem conv_one {w : World} {g : Nat} (hg : w.heap.size = g) {x : Int} : (convert 35 9 (.slice (some ⟨g, 0, none⟩) 1 1)).run Tryd.prog (w.alloc (.cells #[.int .u8 x] 5)).drew = .ok (.string (strOfNums [x])) (w.alloc (.cells #[.int .u8 x] 5)).drew := by
 subst hg
 refine own_string (e := 5) (e' := 5) (base := w.heap.size) Tryd.underlying35 Tryd.underlying5 Tryd.underlying9 ⟨rfl, .inr ⟨w.heap.size, 1, #[.int .u8 x], rfl, Nat.le_refl _, ?_, Nat.le_refl _, by decide, rfl, rfl⟩⟩
 exact Array.getElem?_push_size
theorem fillM_zero (L : Nat → Nat → Int) {n : Nat} : List.replicate n (⟨#[]⟩ : ByteArray) = fillM L n (fun _ => 0) := by
 refine List.ext_getElem? (fun j => ?_)
 by_cases hj : j < n
 rotate_left
 ·rw [List.getElem?_replicate, if_neg hj, List.getElem?_eq_none (by rw [fillM_len]; omega)]
 rw [fillM_get L n _ j hj, List.getElem?_replicate, if_pos hj]
 rfl
theorem w_down {n : Nat} (h : n ≤ 1000) : Value.int .i64 (wrap64 ((n : Int) - 1)) = Value.int .i64 ((n : Int) - 1) := by
 have : wrap64 ((n : Int) - 1) = (n : Int) - 1 := by unfold wrap64; omega
 rw [this]
theorem letter_from {l : List ByteArray} {st : List Int} {p i : Nat} {na : Nat → Nat} {fr : Nat → Value} {lt : Nat → Int} (hS : stOk l st) (hF : frOk st na fr l.length) (hi : i < l.length) (hL : ∀ j, j < i → lt j = letP l st p j) :
  ∃ q, ((fr i = .pointer none ∧ q = -1) ∨ ∃ s, s < l.length ∧ fr i = ptr (na s) ∧ q = lt s) ∧ letP l st p i = (bestTo (tabP l st p i) q 4).1 := by
 have hf := hF i hi
 by_cases h0 : i = 0
 ·subst h0
  rw [if_pos rfl] at hf
  exact ⟨-1, .inl ⟨hf, rfl⟩, ltP_zero _ _⟩
 rw [if_neg h0] at hf
 have hs := hS.2.2 i (by omega) (by have := hS.1; omega)
 obtain ⟨s, es⟩ : ∃ s : Nat, rd st (i : Int) = (s : Int) := ⟨(rd st (i : Int)).toNat, by omega⟩
 rw [es, show ((s : Int)).toNat = s from rfl] at hf
 refine ⟨lt s, .inr ⟨s, by omega, hf, rfl⟩, ?_⟩
 rw [hL s (by omega)]
 exact ltP_step _ st (by omega) es (by omega)
theorem tab_up {l : List ByteArray} {st : List Int} {p k : Nat} {ch : Nat → Nat → Int} {c : Nat → Int} (hS : stOk l st) (hk : k < l.length) (h : ∀ j, k + 1 ≤ j → j < l.length → ∀ x, x < 4 → ch j x = tabP l st p j x) (hc : ∀ x, x < 4 → c x = cnt ch x (banQ (lostQ (rdOf ByteArray.empty l (k : Int))) (rdOf ByteArray.empty l (k : Int)) p x) (kidx st l.length k)) :
  ∀ j, k ≤ j → j < l.length → ∀ x, x < 4 → upd ch k c j x = tabP l st p j x := by
 intro j h1 h2 x hx
 by_cases e : j = k
 rotate_left
 ·rw [upd_ne _ _ e]
  exact h j (by omega) h2 x hx
 subst e
 rw [upd_eq, hc x hx]
 unfold tabP
 have hS2 : ∀ k : Nat, 1 ≤ k → k < l.length → rd st (k : Int) < k := fun k h0 h1 => (hS.2.2 k h0 (by have := hS.1; omega)).2
 rw [chP_eq hS2 j x hk]
 refine cnt_congr _ _ (fun q hq z hz => ?_)
 have m := kidx_mem hq
 have := hS2 q m.1 m.2.1
 exact h q (by omega) m.2.1 z hz
set_option maxHeartbeats 8000000 in
set_option maxRecDepth 100000 in
theorem impl_StemFill.calls (k : Nat) (A0 : Option Addr) (c0 : Nat) (l0 : List ByteArray) (A1 : Option Addr) (c1 : Nat) (l1 : List Int) (r1 : List ByteArray) (r2 : Bool) (w : World) (hr0 : Kd.C Kd.string w A0 l0.length l0) (hc0 : l0.length ≤ c0) (hr1 : Kd.C (Kd.int .i64) w A1 l1.length l1) (hc1 : l1.length ≤ c1) (h : impl_StemFill.f k l0 l1 = some (r1, r2)) :
  Calls Tryd.prog 54 #[.slice A0 l0.length c0, .slice A1 l1.length c1] w fun e w' => ∃ v0_ : Value, e = .returned (.tuple #[v0_, .bool r2]) ∧ Kd.R Kd.string 9 w' w.heap.size (fun _ => True) v0_ r1 ∧ Below w.heap.size w w' := by
 have HR0 := Aside0.mk hr0
 have HC0 := Aside0.mk hc0
 have HR1 := Aside0.mk hr1
 have HC1 := Aside0.mk hc1
 clear hr0 hc0 hr1 hc1
 have HB := Aside0.mk (Below.refl w.heap.size w)
 unfold impl_StemFill.f at h
 obtain ⟨t, A20, H⟩ := Option.bind_eq_some_iff.mp h
 clear h
 have A2 := Aside0.mk A20
 clear A20
 by_cases c3 : t = true
 rotate_left
 ·replace c3 := Bool.eq_false_iff.mpr c3
  subst c3
  rw [if_neg (show ¬ (false = true) by decide)] at H
  simp only [Option.some.injEq, Prod.mk.injEq] at H
  obtain ⟨rfl, rfl⟩ := H
  go_enter Tryd.func54, Tryd.ntmps54
  go_wp2_with (first | (go_at_call 30; (with_reducible refine (impl_StemValid.calls k _ _ l0 _ _ l1 false _ ?s1 ?s2 ?s3 ?s4 A2.out).mono ?_); (case s1 => repeat (first | exact (Kd.C_below HR0.out HB.out) | exact HR0.out | (with_reducible refine Kd.C_alloc ?_ _) | (with_reducible refine Kd.C_drewN ?_ _) | (with_reducible refine Kd.C_drew ?_))); (case s2 => exact HC0.out); (case s3 => repeat (first | exact (Kd.C_below HR1.out HB.out) | exact HR1.out | (with_reducible refine Kd.C_alloc ?_ _) | (with_reducible refine Kd.C_drewN ?_ _) | (with_reducible refine Kd.C_drew ?_))); (case s4 => exact HC1.out); rintro e w4 ⟨rfl, hb⟩; have n0_ := Aside0.mk (below_step (by repeat (first | (with_reducible first | exact HB.out | apply below_alloc | apply pw_below_drewN | apply below_drew1) | exact HB.out)) hb); clear HB; have HB := n0_; clear n0_; (try clear hb)))
  go_ret2
  exact ⟨_, rfl, Kd.R_nil _ _ _ _ _, (by repeat (first | (with_reducible first | exact HB.out | apply below_alloc | apply pw_below_drewN | apply below_drew1) | exact HB.out))⟩
 subst c3
 rw [if_pos rfl] at H
 by_cases c6 : fillOk l0 l1 = true
 rotate_left
 ·rw [if_neg c6] at H
  cases H
 rw [if_pos c6] at H
 simp only [Option.some.injEq, Prod.mk.injEq] at H
 obtain ⟨rfl, rfl⟩ := H
 have HH := Aside0.mk (fillH_of c6)
 have HS := Aside0.mk HH.out.ok
 clear c6
 have q478 : (0 : Int) < (l0.length : Int) := by have := HH.out.pos; omega
 obtain ⟨ad478, e478, hx478_0⟩ := Kd.at_string HR0.out 0 (Int.le_refl _) q478
 cases e478
 have HX478 : Aside0 (w.cell? ad478 = some (.string (rdOf ByteArray.empty l0 0))) := ⟨by simpa [Addr.add] using hx478_0⟩
 clear hx478_0
 replace q478 := eq_true q478
 have q479 := eq_true HH.out.pos
 go_enter Tryd.func54, Tryd.ntmps54
 go_wp2_with (first | (go_at_call 30; (with_reducible refine (impl_StemValid.calls k _ _ l0 _ _ l1 true _ ?s1 ?s2 ?s3 ?s4 A2.out).mono ?_); (case s1 => repeat (first | exact (Kd.C_below HR0.out HB.out) | exact HR0.out | (with_reducible refine Kd.C_alloc ?_ _) | (with_reducible refine Kd.C_drewN ?_ _) | (with_reducible refine Kd.C_drew ?_))); (case s2 => exact HC0.out); (case s3 => repeat (first | exact (Kd.C_below HR1.out HB.out) | exact HR1.out | (with_reducible refine Kd.C_alloc ?_ _) | (with_reducible refine Kd.C_drewN ?_ _) | (with_reducible refine Kd.C_drew ?_))); (case s4 => exact HC1.out); rintro e w4 ⟨rfl, hb⟩; have n0_ := Aside0.mk (below_step (by repeat (first | (with_reducible first | exact HB.out | apply below_alloc | apply pw_below_drewN | apply below_drew1) | exact HB.out)) hb); clear HB; have HB := n0_; clear n0_; (try clear hb)) | (go_at_call 68; (with_reducible refine (impl_stemTree.calls _ _ l0 _ _ l1 _ ?s1 ?s2 ?s3 ?s4 HS.out).mono ?_); (case s1 => repeat (first | exact (Kd.C_below HR0.out HB.out) | exact HR0.out | (with_reducible refine Kd.C_alloc ?_ _) | (with_reducible refine Kd.C_drewN ?_ _) | (with_reducible refine Kd.C_drew ?_))); (case s2 => exact HC0.out); (case s3 => repeat (first | exact (Kd.C_below HR1.out HB.out) | exact HR1.out | (with_reducible refine Kd.C_alloc ?_ _) | (with_reducible refine Kd.C_drewN ?_ _) | (with_reducible refine Kd.C_drew ?_))); (case s4 => exact HC1.out); rintro e w7 ⟨na, fr, vs, nv, rfl, ht, hf, hb⟩; have HBW := Aside0.mk ((by repeat (first | (with_reducible first | exact HB.out | apply below_alloc | apply pw_below_drewN | apply below_drew1) | exact HB.out))); have HTB := Aside0.mk (TreeF.start ht); have HF := Aside0.mk hf; have HBT := Aside0.mk hb; have n0_ := Aside0.mk (below_step (by repeat (first | (with_reducible first | exact HB.out | apply below_alloc | apply pw_below_drewN | apply below_drew1) | exact HB.out)) hb); have HSZ := Aside0.mk (below_size (by repeat (first | (with_reducible first | exact HB.out | apply below_alloc | apply pw_below_drewN | apply below_drew1) | exact HB.out))); clear HB; have HB := n0_; clear n0_; clear hb ht hf) | ((with_reducible refine gate_dst (N := 21) rfl ?_); refine Kd.R_make Kd.string _ 9 rfl (N := 21) rfl 22 _ _ rfl (l0.length : Int) rfl rfl Tryd.underlying22 (.string ⟨#[]⟩) 16 info9 rfl (by decide) (by omega) (⟨#[]⟩ : ByteArray) (ok := fun _ => True) (okp := fun _ => True) rfl (fun _ hk => hk) trivial (Int.natCast_nonneg _) (by rw [Int.toNat_natCast]; have := HS.out.2.1; omega) (Below.refl _ _) (Nat.le_refl _) ?_; intro vf w8 ho hb hg_ hnew_; clear hg_ hnew_; rw [Int.toNat_natCast] at ho; have HT := Aside0.mk (HTB.out.below hb); have HO := Aside0.mk (Kd.R_lower ho (below_size HBT.out)); have HBT2 := Aside0.mk (below_step HBT.out hb); have n0_ := Aside0.mk (below_step HB.out hb); clear HB; have HB := n0_; clear n0_; have hx478 := (HB.out.cell (World.block_lt_of_cell? w _ HX478.out)).trans HX478.out; clear ho hb))
 obtain ⟨gn, cn, en, gb, gl, clls, HG⟩ := Kd.R_form (show Kd.R kp 67 _ _ _ nv (addrs na l0.length) from HT.out.nr) (by rw [addrs_len]; have := HH.out.pos; omega)
 rw [addrs_len] at en
 subst en
 obtain ⟨gv, cv, ev, gbv, glv, clv, HGv⟩ := Kd.R_form HO.out (by rw [List.length_replicate]; have := HH.out.pos; omega)
 rw [List.length_replicate] at ev
 subst ev
 clear gb gl HG gbv glv HGv hx478
 rw [fillM_zero (letP l0 l1)] at HO
 have HS2 : Aside0 (∀ z : Nat, 1 ≤ z → z < l0.length → 0 ≤ rd l1 (z : Int) ∧ rd l1 (z : Int) < z) := ⟨fun z h0 h1 => HS.out.2.2 z h0 (by have := HS.out.1; omega)⟩
 have HS3 : Aside0 (l0.length ≤ 1000) := ⟨HS.out.2.1⟩
 go_loopg [26] (rdOf ByteArray.empty l0 0).size (fun kq v26 w' => ∃ (p : Nat) (ch : Nat → Nat → Int) (lt : Nat → Int), v26 = .int .i64 p ∧ p + kq = (rdOf ByteArray.empty l0 0).size ∧ Aside0 (TreeF l0 l1 w' w4.heap.size l0.length na fr vs (.slice (some ⟨gn, 0, none⟩) l0.length cn) ch lt) ∧ Aside0 (PhiF w4 w4.heap.size (.slice (some ⟨gv, 0, none⟩) l0.length cv) (fillM (letP l0 l1) l0.length (fun _ => p)) w'))
 case atStart => exact ⟨0, _, _, rfl, by omega, HT, ⟨⟨HBT2.out, below_size HBT2.out, HO.out⟩⟩⟩
 case round =>
  clear HT HO HBT HBT2 HTB
  obtain ⟨p, ch, lt, rfl, HP, HT, HPhi⟩ := hrel
  cases gk with
  | zero =>
   have c27 := decide_eq_false (show ¬ ((p : Int) < ((rdOf ByteArray.empty l0 0).size : Int)) by omega)
   have EP : Aside0 (p = (rdOf ByteArray.empty l0 0).size) := ⟨by omega⟩
   go_wp2
   go_ret2
   exact ⟨_, rfl, by rw [← EP.out]; exact Kd.R_lower HPhi.out.2.2 HSZ.out, below_step HBW.out HPhi.out.1⟩
  | succ k1 =>
   have c27 := decide_eq_true (show (p : Int) < ((rdOf ByteArray.empty l0 0).size : Int) by omega)
   have HPS : Aside0 (p < (rdOf ByteArray.empty l0 0).size) := ⟨by omega⟩
   have c28 := eq_true HPS.out
   go_wp2
   go_loopg [9] l0.length (fun kq v9 w' => ∃ (i : Int) (ch' : Nat → Nat → Int), v9 = .int .i64 i ∧ i + 1 = kq ∧ kq ≤ l0.length ∧ Aside0 (TreeF l0 l1 w' w4.heap.size l0.length na fr vs (.slice (some ⟨gn, 0, none⟩) l0.length cn) ch' lt) ∧ Aside0 (∀ j, kq ≤ j → j < l0.length → ∀ x, x < 4 → ch' j x = tabP l0 l1 p j x) ∧ Aside0 (PhiF w4 w4.heap.size (.slice (some ⟨gv, 0, none⟩) l0.length cv) (fillM (letP l0 l1) l0.length (fun _ => p)) w'))
   case atStart => exact ⟨_, ch, rfl, by have := HS.out.2.1; unfold wrap64; omega, Nat.le_refl _, HT, ⟨fun j h1 h2 => by omega⟩, HPhi⟩
   case round =>
    clear HT HPhi
    obtain ⟨i, ch, rfl, HI, HIL, HT, HC, HPhi⟩ := hrel
    cases gk with
    | zero =>
     have c33 := decide_eq_false (show ¬ (i ≥ 0) by omega)
     replace HC : Aside0 (∀ j, j < l0.length → ∀ x, x < 4 → ch j x = tabP l0 l1 p j x) := ⟨fun j h => HC.out j (Nat.zero_le _) h⟩
     go_wp2
     go_loopg [44] l0.length (fun kq v44 w' => ∃ (i : Nat) (lt' : Nat → Int), v44 = .int .i64 i ∧ i + kq = l0.length ∧ Aside0 (TreeF l0 l1 w' w4.heap.size l0.length na fr vs (.slice (some ⟨gn, 0, none⟩) l0.length cn) ch lt') ∧ Aside0 (∀ j, j < i → lt' j = letP l0 l1 p j) ∧ Aside0 (PhiF w4 w4.heap.size (.slice (some ⟨gv, 0, none⟩) l0.length cv) (fillM (letP l0 l1) l0.length (fun j => if j < i then p + 1 else p)) w'))
     case atStart => exact ⟨0, lt, rfl, by omega, HT, ⟨fun j h => absurd h (Nat.not_lt_zero j)⟩, ⟨by rw [fillM_congr _ _ (fun j => if j < 0 then p + 1 else p) (fun _ => p) (fun j _ => if_neg (Nat.not_lt_zero j))]; exact HPhi.out⟩⟩
     case round =>
      clear HT HPhi
      obtain ⟨i, lt, rfl, HI, HT, HL, HPhi⟩ := hrel
      cases gk with
      | zero =>
       have c45 := decide_eq_false (show ¬ ((i : Int) < (l0.length : Int)) by omega)
       have EI : Aside0 (i = l0.length) := ⟨by omega⟩
       go_wp2
       go_roundg k1
       case measure => omega
       case rel => exact ⟨p + 1, ch, lt, w_up2 (by have := HH.out.small; have := HPS.out; omega), by omega, HT, ⟨by rw [← fillM_congr _ _ (fun j => if j < i then p + 1 else p) (fun _ => p + 1) (fun j hj => if_pos (by rw [EI.out]; exact hj))]; exact HPhi.out⟩⟩
      | succ k2 =>
       have c45 := decide_eq_true (show (i : Int) < (l0.length : Int) by omega)
       have c46 := eq_true (show (i : Int) < (l0.length : Int) by omega)
       have c47 := eq_true (show (0 : Int) ≤ (i : Int) by omega)
       have c48 := eq_true (show i < l0.length by omega)
       have HIL : Aside0 (i < l0.length) := ⟨by omega⟩
       obtain ⟨hx3, hf3⟩ := Kd.R_celln (0 : Nat) (show (Kd.scalar ptr (fun _ => rfl)).R 67 _ _ _ (.slice (some ⟨gn, 0, none⟩) l0.length cn) _ from HT.out.nr) (i : Int) (by omega) (by have := HIL.out; omega)
       rw [addrs_rd _ _ _ HIL.out] at hx3
       simp only [ptr, Int.toNat_natCast] at hx3 hf3
       have HNE : Aside0 (∀ j, j < l0.length → ∀ b, (Value.slice (some ⟨gv, 0, none⟩) l0.length cv).ownBlock = some b → b ≠ na j) := ⟨fun j hj b hb => by obtain ⟨_, g⟩ := own_typed (Kd.own_of_R HPhi.out.2.2) b hb; exact blk_ne g (HT.out.nd j hj) (by decide)⟩
       obtain ⟨q, hq, eq_⟩ := letter_from (l := l0) (st := l1) (p := p) HS.out HF.out HIL.out HL.out
       have HQ := Aside0.mk hq
       have HEQ := Aside0.mk eq_
       clear hq eq_
       go_wp2_with (first | (go_at_call 76; go_loud ((with_reducible refine (stemNode_choose.calls i HT.out HPhi.out (fun W z v h => h.set (HT.out.ge i HIL.out) (HNE.out i HIL.out) z v) (fun W W' h hb => h.below hb) HIL.out q HQ.out).mono ?_); rintro e w9 ⟨rfl, ht, hphi⟩; have HT2 := Aside0.mk ht; have HPhi2 := Aside0.mk hphi; clear ht hphi; rw [bestTo_congr 4 (HC.out i HIL.out), ← HEQ.out] at HT2)))
       have HG := Aside0.mk HPhi2.out.2.2
       obtain ⟨go9, co9, eo9, gb9, gl9, cl9, HG9⟩ := Kd.R_form HG.out (by rw [fillM_len]; have := HIL.out; omega)
       obtain ⟨hx9, hf9⟩ := Kd.R_celln ByteArray.empty HG.out (i : Int) (by omega) (by have := HIL.out; omega)
       have hx7 : w9.cell? ⟨na i, 7, none⟩ = some (.int .i64 (letP l0 l1 p i)) := (blk_cell (HT2.out.nd i HIL.out) 7).trans (by rw [upd_eq]; rfl)
       rw [fillM_rd _ _ _ _ HIL.out, if_neg (Nat.lt_irrefl i)] at hx9
       clear gb9 gl9 HG9 eo9
       simp only [Int.toNat_natCast] at hx9 hf9
       have hcv : ∀ x : Int, (convert 35 9 (.slice (some ⟨w9.heap.size, 0, none⟩) 1 1)).run Tryd.prog (w9.alloc (.cells #[.int .u8 x] 5)).drew = .ok (.string (strOfNums [x])) (w9.alloc (.cells #[.int .u8 x] 5)).drew := fun x => conv_one rfl
       have hbd : ∀ x : Int, (9223372036854775807 < (fillT (fun p => letP l0 l1 p i) p).size + (strOfNums [x]).size) = False := fun x => eq_false (by rw [fillT_len, str_one]; have := HH.out.small; have := HPS.out; omega)
       have hzz : ∀ x : Int, (w9.alloc (.cells #[.int .u8 x] 5)).drew.cell? ⟨gv, i, none⟩ = some (.string (fillT (fun p => letP l0 l1 p i) p)) ∧ (w9.alloc (.cells #[.int .u8 x] 5)).drew.frozen? ⟨gv, i, none⟩ = false := fun x => by
        have hh := Kd.R_celln ByteArray.empty (Kd.R_drew (Kd.R_alloc HG.out (.cells #[.int .u8 x] 5))) (i : Int) (by omega) (by have := HIL.out; omega)
        rw [fillM_rd _ _ _ _ HIL.out, if_neg (Nat.lt_irrefl i)] at hh
        simp only [Int.toNat_natCast] at hh
        exact hh
       have hz9 := fun x => (hzz x).1
       have hzf := fun x => (hzz x).2
       have hz7 : ∀ x : Int, (w9.alloc (.cells #[.int .u8 x] 5)).drew.cell? ⟨na i, 7, none⟩ = some (.int .i64 (letP l0 l1 p i)) := fun x => (blk_cell (blk_drew (blk_alloc (HT2.out.nd i HIL.out) (.cells #[.int .u8 x] 5))) 7).trans (by rw [upd_eq]; rfl)
       clear hzz
       go_region
       have HT3 := (HT2.out.alloc (.cells #[.int .u8 ((97 + letP l0 l1 p i) % 256)] 5)).drew
       have HP3 := HPhi2.out.below (below_drew (below_alloc (Below.refl _ _) (.cells #[.int .u8 ((97 + letP l0 l1 p i) % 256)] 5)))
       have HT4 := Aside0.mk (HT3.far HP3.2.2 (i : Int).toNat (.string (fillT (fun p => letP l0 l1 p i) (p + 1))))
       have HP4 := Aside0.mk (HP3.put i (fillT (fun p => letP l0 l1 p i) (p + 1)))
       rw [fillM_set _ _ _ _ HIL.out, fillM_congr _ _ (upd (fun j => if j < i then p + 1 else p) i (p + 1)) (fun j => if j < i + 1 then p + 1 else p) (fun j _ => up_step j i p)] at HP4
       clear HT3 HP3 hcv hbd hz9 hzf hz7 hx9 hf9 hx7
       go_wp2
       go_roundg k2
       case measure => omega
       case rel => exact ⟨i + 1, upd lt i (letP l0 l1 p i), w_up2 (by have := HS3.out; have := HIL.out; omega), by omega, HT4, ⟨fun j hj => let_up HL.out j hj⟩, HP4⟩
    | succ k2 =>
     obtain rfl : i = (k2 : Int) := by omega
     have c33 := decide_eq_true (show (k2 : Int) ≥ 0 by omega)
     have c46 := eq_true (show (k2 : Int) < (l0.length : Int) by omega)
     have c47 := eq_true (show (0 : Int) ≤ (k2 : Int) by omega)
     have c48 := eq_true (show k2 < l0.length by omega)
     have HKL : Aside0 (k2 < l0.length) := ⟨by omega⟩
     obtain ⟨hx3, hf3⟩ := Kd.R_celln (0 : Nat) (show (Kd.scalar ptr (fun _ => rfl)).R 67 _ _ _ (.slice (some ⟨gn, 0, none⟩) l0.length cn) _ from HT.out.nr) (k2 : Int) (by omega) (by have := HKL.out; omega)
     rw [addrs_rd _ _ _ HKL.out] at hx3
     simp only [ptr, Int.toNat_natCast] at hx3 hf3
     have HNE : Aside0 (∀ j, j < l0.length → ∀ b, (Value.slice (some ⟨gv, 0, none⟩) l0.length cv).ownBlock = some b → b ≠ na j) := ⟨fun j hj b hb => by obtain ⟨_, g⟩ := own_typed (Kd.own_of_R HPhi.out.2.2) b hb; exact blk_ne g (HT.out.nd j hj) (by decide)⟩
     go_wp2_with (first | (go_at_call 75; go_loud ((with_reducible refine (stemNode_count.calls k2 HT.out HPhi.out (fun W z v h => h.set (HT.out.ge k2 HKL.out) (HNE.out k2 HKL.out) z v) (fun W W' h hb => h.below hb) HS2.out HS3.out HKL.out p (by rw [HH.out.sz k2 HKL.out]; exact HPS.out) _ (HH.out.lost k2 HKL.out)).mono ?_); rintro e w9 ⟨rfl, c, ht, hc, hphi⟩; have HT2 := Aside0.mk ht; have HPhi2 := Aside0.mk hphi; have HC2 := Aside0.mk hc; clear ht hphi hc)))
     go_roundg k2
     case measure => omega
     case rel => exact ⟨(k2 : Int) - 1, upd ch k2 c, w_down (by have := HS.out.2.1; have := HKL.out; omega), by omega, by omega, HT2, ⟨tab_up HS.out HKL.out HC.out HC2.out⟩, HPhi2⟩
end Go.Proofs.YtejoneninbdjbaaDoor.E
end
section
namespace Go.Proofs.YtejoneninbdjbaaDoor.E
open Go.RowKit Go.Proofs.YtejoneninbdjbaaDoorW.PrintWords Go.Proofs.YtejoneninbdjbaaDoorW.PrintLast Go.Proofs.YtejoneninbdjbaaDoorW.PrintMore
attribute [local go_sem] max2_int min2_int max_two min_two max_three min_three max_four min_four
set_option linter.unusedVariables false
set_option linter.unusedSimpArgs false
attribute [local go_sem] str_leq_ str_gtr_ str_geq_
def impl_StemFewest.f (k : Nat) (l0 : List ByteArray) (l1 : List Int) : Option (Int) := (impl_StemFill.f k l0 l1).bind fun bt651 => (if bt651.2 = true then ((impl_changesOf.f k bt651.1 l1).bind fun t655 => (some t655)) else (some (-1)))
set_option maxHeartbeats 8000000 in
set_option maxRecDepth 100000 in
theorem impl_StemFewest.calls (k : Nat) (A0 : Option Addr) (c0 : Nat) (l0 : List ByteArray) (A1 : Option Addr) (c1 : Nat) (l1 : List Int) (r : Int) (w : World) (hr0 : Kd.C Kd.string w A0 l0.length l0) (hc0 : l0.length ≤ c0) (hr1 : Kd.C (Kd.int .i64) w A1 l1.length l1) (hc1 : l1.length ≤ c1) (h : impl_StemFewest.f k l0 l1 = some r) :
  Calls Tryd.prog 51 #[.slice A0 l0.length c0, .slice A1 l1.length c1] w fun e w' => e = .returned (.int .i64 r) ∧ Below w.heap.size w w' := by
 have HR0 := Aside0.mk hr0
 have HC0 := Aside0.mk hc0
 clear hr0 hc0
 have HR1 := Aside0.mk hr1
 have HC1 := Aside0.mk hc1
 clear hr1 hc1
 have HB := Aside0.mk (Below.refl w.heap.size w)
 have H : ((impl_StemFill.f k l0 l1).bind fun bt651 => (if bt651.2 = true then ((impl_changesOf.f k bt651.1 l1).bind fun t655 => (some t655)) else (some (-1)))) = some r := h
 clear h
 replace H := Option.bind_eq_some_iff.mp H
 obtain ⟨⟨t651, t652⟩, A30, H⟩ := H
 replace H : (if t652 = true then ((impl_changesOf.f k t651 l1).bind fun t655 => (some t655)) else (some (-1))) = some r := H
 have A3 := Aside0.mk A30
 clear A30
 by_cases c4 : t652 = true
 rotate_left
 ·replace c4 := Bool.eq_false_iff.mpr c4
  subst c4
  have H1 : (some (-1)) = some r := by rw [if_neg (show ¬ (false = true) by decide)] at H; exact H
  clear H
  have H := H1
  clear H1
  obtain rfl := Option.some.inj H
  go_enter Tryd.func51, Tryd.ntmps51
  go_wp2_with (first | ((with_reducible refine gate_callee (f := 54) rfl ?_); refine goesL_ (some 10) rfl rfl Tryd.func54 (by kernel_rfl) rfl #[.slice A0 l0.length c0, .slice A1 l1.length c1] rfl (by (try simp only [List.map_toArray, List.map_cons, List.map_nil]); first | done | rfl | (simp only [List.length_drop, List.length_take]; rfl)) ?_; (with_reducible refine (impl_StemFill.calls k _ _ l0 _ _ l1 t651 false _ ?side1 ?side2 ?side3 ?side4 A3.out).mono ?_); (case side1 => repeat (first | exact HR0.out | (with_reducible refine Kd.C_alloc ?_ _) | (with_reducible refine Kd.C_drewN ?_ _) | (with_reducible refine Kd.C_drew ?_))); (case side2 => exact HC0.out); (case side3 => repeat (first | exact HR1.out | (with_reducible refine Kd.C_alloc ?_ _) | (with_reducible refine Kd.C_drewN ?_ _) | (with_reducible refine Kd.C_drew ?_))); (case side4 => exact HC1.out); rintro e w8 ⟨v653, rfl, ho0, hb⟩; refine ⟨_, rfl, ?_⟩; have n0_ := Aside0.mk (Kd.R_lower ho0 (below_size (by repeat (first | (with_reducible first | exact HB.out | apply below_alloc | apply pw_below_drewN | apply below_drew1) | exact HB.out)))); have n1_ := Aside0.mk (below_step (by repeat (first | (with_reducible first | exact HB.out | apply below_alloc | apply pw_below_drewN | apply below_drew1) | exact HB.out)) hb); clear HB; have HO654 := n0_; have HB := n1_; clear n0_ n1_; (try clear hb); (try clear hb2); (try clear hk); (try clear hi); (try clear ho0)))
  go_ret
  exact ⟨by first | rfl | (simp [errW_none, errW_some] <;> rfl) | (simp [*, errW_none, errW_some] <;> rfl), by repeat (first | (with_reducible first | exact HB.out | apply below_alloc | apply pw_below_drewN | apply below_drew1) | exact HB.out)⟩
 subst c4
 have H1 : ((impl_changesOf.f k t651 l1).bind fun t655 => (some t655)) = some r := by rw [if_pos rfl] at H; exact H
 clear H
 have H := H1
 clear H1
 replace H := Option.bind_eq_some_iff.mp H
 obtain ⟨t655, A50, H⟩ := H
 replace H : (some t655) = some r := H
 have A5 := Aside0.mk A50
 clear A50
 obtain rfl := Option.some.inj H
 go_enter Tryd.func51, Tryd.ntmps51
 go_wp2_with (first | ((with_reducible refine gate_callee (f := 54) rfl ?_); refine goesL_ (some 10) rfl rfl Tryd.func54 (by kernel_rfl) rfl #[.slice A0 l0.length c0, .slice A1 l1.length c1] rfl (by (try simp only [List.map_toArray, List.map_cons, List.map_nil]); first | done | rfl | (simp only [List.length_drop, List.length_take]; rfl)) ?_; (with_reducible refine (impl_StemFill.calls k _ _ l0 _ _ l1 t651 true _ ?side1 ?side2 ?side3 ?side4 A3.out).mono ?_); (case side1 => repeat (first | exact HR0.out | (with_reducible refine Kd.C_alloc ?_ _) | (with_reducible refine Kd.C_drewN ?_ _) | (with_reducible refine Kd.C_drew ?_))); (case side2 => exact HC0.out); (case side3 => repeat (first | exact HR1.out | (with_reducible refine Kd.C_alloc ?_ _) | (with_reducible refine Kd.C_drewN ?_ _) | (with_reducible refine Kd.C_drew ?_))); (case side4 => exact HC1.out); rintro e w6 ⟨v653, rfl, ho0, hb⟩; refine ⟨_, rfl, ?_⟩; have n0_ := Aside0.mk (Kd.R_lower ho0 (below_size (by repeat (first | (with_reducible first | exact HB.out | apply below_alloc | apply pw_below_drewN | apply below_drew1) | exact HB.out)))); have n1_ := Aside0.mk (below_step (by repeat (first | (with_reducible first | exact HB.out | apply below_alloc | apply pw_below_drewN | apply below_drew1) | exact HB.out)) hb); clear HB; have HO654 := n0_; have HB := n1_; clear n0_ n1_; (try clear hb); (try clear hb2); (try clear hk); (try clear hi); (try clear ho0); obtain ⟨Ao7, co7, eo7⟩ := Kd.R_slice HO654.out; subst eo7) | ((with_reducible refine gate_callee (f := 69) rfl ?_); refine goesL_ (some 17) rfl rfl Tryd.func69 (by kernel_rfl) rfl #[.slice Ao7 t651.length co7, .slice A1 l1.length c1] rfl (by (try simp only [List.map_toArray, List.map_cons, List.map_nil]); first | done | rfl | (simp only [List.length_drop, List.length_take]; rfl)) ?_; (with_reducible refine (impl_changesOf.calls k _ _ t651 _ _ l1 t655 _ ?side1 ?side2 ?side3 ?side4 A5.out).mono ?_); (case side1 => repeat (first | exact (Kd.R_reads' HO654.out).2.2 | (with_reducible refine Kd.C_alloc ?_ _) | (with_reducible refine Kd.C_drewN ?_ _) | (with_reducible refine Kd.C_drew ?_))); (case side2 => exact (Kd.R_reads' HO654.out).2.1); (case side3 => repeat (first | exact (Kd.C_below HR1.out HB.out) | (with_reducible refine Kd.C_alloc ?_ _) | (with_reducible refine Kd.C_drewN ?_ _) | (with_reducible refine Kd.C_drew ?_))); (case side4 => exact HC1.out); rintro e w' ⟨rfl, ⟨nd, rfl⟩⟩; refine ⟨_, rfl, ?_⟩))
 go_ret
 exact ⟨by first | rfl | (simp [errW_none, errW_some] <;> rfl) | (simp [*, errW_none, errW_some] <;> rfl), by repeat (first | (with_reducible first | exact HB.out | apply below_alloc | apply pw_below_drewN | apply below_drew1) | exact HB.out)⟩
end Go.Proofs.YtejoneninbdjbaaDoor.E
end
section
namespace Go.Proofs.YtejoneninbdjbaaDoor.E
open Go.RowKit Go.Proofs.YtejoneninbdjbaaDoorW.PrintWords Go.Proofs.YtejoneninbdjbaaDoorW.PrintLast Go.Proofs.YtejoneninbdjbaaDoorW.PrintMore
attribute [local go_sem] max2_int min2_int max_two min_two max_three min_three max_four min_four
set_option linter.unusedVariables false
set_option linter.unusedSimpArgs false
attribute [local go_sem] str_leq_ str_gtr_ str_geq_
def IsS79 (w0 W : World) (g : Nat) (f0 : List Int) (f1 : Int) : Prop := ∃ A0 c0, W.heap[g]? = some (.cells #[.slice A0 f0.length c0, .int .i64 f1] 79 (0, 0)) ∧ w0.heap.size ≤ g ∧ Kd.C (Kd.int .u8) w0 A0 f0.length f0
theorem IsS79.grown {w0 W : World} {g : Nat} {f0 : List Int} {f1 : Int} {W1 : World} {row : Option Nat} (h : IsS79 w0 W g f0 f1) (hw : W.grownBy W1 row) (hne : some g ≠ row) : IsS79 w0 W1 g f0 f1 := by
 obtain ⟨A0, c0, hb, hg, hr0⟩ := h
 exact ⟨A0, c0, blk_grown hb hw hne, hg, hr0⟩
theorem IsS79.below {w0 W : World} {g : Nat} {f0 : List Int} {f1 : Int} {W1 : World} (h : IsS79 w0 W g f0 f1) (hw : Below W.heap.size W W1) : IsS79 w0 W1 g f0 f1 := h.grown (grown_of_below hw none) (by simp)
theorem IsS79.drewN {w0 W : World} {g : Nat} {f0 : List Int} {f1 : Int} (h : IsS79 w0 W g f0 f1) (m : Nat) : IsS79 w0 (W.drewN m) g f0 f1 := h
theorem IsS79.apart {w0 W : World} {g : Nat} {f0 : List Int} {f1 : Int} {α : Type} {d : Kd α} {e : Nat} {base : Nat} {ok : Nat → Prop} {v : Value} {xs : List α} (h : IsS79 w0 W g f0 f1) (ho : d.R e W base ok v xs) (ht : ∀ q, q ∈ e :: d.E → q ≠ 79) : d.R e W base (fun k => ok k ∧ k ≠ g) v xs := by
 obtain ⟨A0, c0, hb, hg, hr0⟩ := h
 exact Kd.R_types ho hb ht
theorem IsS79.own_ne {w0 W : World} {g : Nat} {f0 : List Int} {f1 : Int} {α : Type} {d : Kd α} {e : Nat} {base : Nat} {ok : Nat → Prop} {v : Value} {xs : List α} (h : IsS79 w0 W g f0 f1) (ho : d.R e W base ok v xs) (ht : e ≠ 79) : some g ≠ v.ownBlock := by
 obtain ⟨A0, c0, hb, hg, hr0⟩ := h
 exact Kd.R_ne ho hb ht
theorem IsS79.ge {w0 W : World} {g : Nat} {f0 : List Int} {f1 : Int} (h : IsS79 w0 W g f0 f1) : w0.heap.size ≤ g := by
 obtain ⟨A0, c0, hb, hg, hr0⟩ := h
 exact hg
theorem cellS79_0 {W : World} {g : Nat} {A0 : Option Addr} {c0 : Nat} {f0 : List Int} {f1 : Int} (h : W.heap[g]? = some (.cells #[.slice A0 f0.length c0, .int .i64 f1] 79 (0, 0))) : W.cell? ⟨g, 0, none⟩ = some (.slice A0 f0.length c0) := (blk_cell h 0).trans rfl
theorem cellS79_1 {W : World} {g : Nat} {A0 : Option Addr} {c0 : Nat} {f0 : List Int} {f1 : Int} (h : W.heap[g]? = some (.cells #[.slice A0 f0.length c0, .int .i64 f1] 79 (0, 0))) : W.cell? ⟨g, 1, none⟩ = some (.int .i64 f1) := (blk_cell h 1).trans rfl
theorem IsS79.set_1 {w0 W : World} {g : Nat} {f0 : List Int} {f1 : Int} (h : IsS79 w0 W g f0 f1) (x : Int) : IsS79 w0 (W.setCell ⟨g, 1, none⟩ (.int .i64 x)) g f0 x := by
 obtain ⟨A0, c0, hb, hg, hr0⟩ := h
 exact ⟨A0, c0, by simpa using blk_set hb 1 (.int .i64 x), hg, hr0⟩
def spec_l6Open.f (l0 : List Int) : Option (List Int × Int) := if (l0.length : Int) > 2000 then (if 2000 ≤ (l0.length : Int) then (some (l0.take 2000, 0)) else (none)) else (some (l0, 0))
set_option maxHeartbeats 8000000 in
set_option maxRecDepth 100000 in
theorem spec_l6Open.calls (A0 : Option Addr) (c0 : Nat) (l0 : List Int) (r1 : List Int) (r2 : Int) (w0 w : World) (hB : Below w0.heap.size w0 w) (hr0 : Kd.C (Kd.int .u8) w0 A0 l0.length l0) (hc0 : l0.length ≤ c0) (h : spec_l6Open.f l0 = some (r1, r2)) :
  Calls Tryd.prog 65 #[.slice A0 l0.length c0] w fun e w' => ∃ g_ : Nat, e = .returned (.pointer (some ⟨g_, 0, none⟩)) ∧ IsS79 w0 w' g_ r1 r2 ∧ Below w0.heap.size w0 w' ∧ Below w.heap.size w w' := by
 have hu79 := Tryd.underlying79
 have HR0 := Aside0.mk hr0
 have HC0 := Aside0.mk hc0
 clear hr0 hc0
 have HBW := Aside0.mk (Below.refl w.heap.size w)
 have HW0 := Aside0.mk hB.size
 have HB := Aside0.mk hB
 clear hB
 have H : (if (l0.length : Int) > 2000 then (if 2000 ≤ (l0.length : Int) then (some (l0.take 2000, 0)) else (none)) else (some (l0, 0))) = some (r1, r2) := h
 clear h
 by_cases c2 : (l0.length : Int) > 2000
 rotate_left
 ·rw [if_neg c2] at H
  have c2b0 : decide (2000 < (l0.length : Int)) = false := decide_eq_false c2
  have c2b1 : decide (2000 < l0.length) = false := decide_eq_false (by omega)
  clear c2
  simp only [Option.some.injEq, Prod.mk.injEq] at H
  obtain ⟨rfl, rfl⟩ := H
  go_enter Tryd.func65, Tryd.ntmps65
  go_wp2_with (first | ((with_reducible refine gate_dst (N := 10) rfl ?_); refine box_event ?hg (N := 10) ?hd (cs := #[.slice A0 l0.length c0, .int .i64 0]) (t := 79) ?hr ?_; (case hd => rfl); (case hg => rfl); (case hr => first | (go_simp; done) | (go_simp; rfl)); intro gb225 hg w6 hbox hb; have n0_ := Aside0.mk (below_step HBW.out hb); have n1_ := Aside0.mk (below_step (by repeat (first | (with_reducible first | exact HB.out | apply below_alloc | apply pw_below_drewN | apply below_drew1) | exact HB.out)) hb); have n2_ := Aside0.mk (hbox); have n3_ := Aside0.mk ((by rw [hg]; exact (below_size (by repeat (first | (with_reducible first | exact HBW.out | apply below_alloc | apply pw_below_drewN | apply below_drew1) | exact HBW.out))) : w.heap.size ≤ gb225)); have n4_ := Aside0.mk ((Nat.le_trans HW0.out (by rw [hg]; exact (below_size (by repeat (first | (with_reducible first | exact HBW.out | apply below_alloc | apply pw_below_drewN | apply below_drew1) | exact HBW.out))) : w.heap.size ≤ gb225) : w0.heap.size ≤ gb225)); clear HBW; clear HB; have HBW := n0_; have HB := n1_; have BK225 := n2_; have GW225 := n3_; have GE225 := n4_; clear n0_ n1_ n2_ n3_ n4_; clear hb hbox hg))
  go_ret
  exact ⟨_, rfl, (show IsS79 w0 _ gb225 l0 0 from ⟨_, _, by (with_reducible repeat (first | refine blk_drewN ?_ _ | refine blk_drew ?_ | refine blk_alloc ?_ _)); exact BK225.out, GE225.out, HR0.out⟩), by repeat (first | (with_reducible first | exact HB.out | apply below_alloc | apply pw_below_drewN | apply below_drew1 | refine below_set ?_ GE225.out) | exact HB.out), by repeat (first | (with_reducible first | exact HBW.out | apply below_alloc | apply pw_below_drewN | apply below_drew1 | refine below_set ?_ GW225.out) | exact HBW.out)⟩
 rw [if_pos c2] at H
 have c2b0 : decide (2000 < (l0.length : Int)) = true := decide_eq_true c2
 have c2b1 : decide (2000 < l0.length) = true := decide_eq_true (by omega)
 clear c2
 by_cases c3 : 2000 ≤ (l0.length : Int)
 rotate_left
 ·rw [if_neg c3] at H
  exact absurd H (by simp)
 rw [if_pos c3] at H
 have c3b0 := eq_true c3
 have c3b1 : decide (2000 ≤ (l0.length : Int)) = true := decide_eq_true c3
 clear c3
 simp only [Option.some.injEq, Prod.mk.injEq] at H
 obtain ⟨rfl, rfl⟩ := H
 obtain ⟨i04, hi04, _, hsz4, _⟩ := info_parts info5
 obtain ⟨hcut4, hA4, hC4⟩ := print_take_of (P := Tryd.prog) (Value.int .u8) 0 35 5 .i64 Tryd.underlying35 hi04 hsz4 A0 c0 l0 2000 (by omega) (of_decide_eq_true (by first | (with_reducible assumption) | assumption)) HC0.out
 have HR223 := Aside0.mk (Kd.C_of_reads (h1 := fun _ => rfl) (hA4 _ (Kd.reads_of_C HR0.out)))
 have HC223 := Aside0.mk hC4
 clear hA4 hC4 hi04 hsz4
 go_enter Tryd.func65, Tryd.ntmps65
 go_wp2_with (first | ((with_reducible refine gate_dst (N := 10) rfl ?_); refine box_event ?hg (N := 10) ?hd (cs := #[.slice A0 (l0.take 2000).length c0, .int .i64 0]) (t := 79) ?hr ?_; (case hd => rfl); (case hg => rfl); (case hr => first | (go_simp; done) | (go_simp; rfl)); intro gb224 hg w5 hbox hb; have n0_ := Aside0.mk (below_step HBW.out hb); have n1_ := Aside0.mk (below_step (by repeat (first | (with_reducible first | exact HB.out | apply below_alloc | apply pw_below_drewN | apply below_drew1) | exact HB.out)) hb); have n2_ := Aside0.mk (hbox); have n3_ := Aside0.mk ((by rw [hg]; exact (below_size (by repeat (first | (with_reducible first | exact HBW.out | apply below_alloc | apply pw_below_drewN | apply below_drew1) | exact HBW.out))) : w.heap.size ≤ gb224)); have n4_ := Aside0.mk ((Nat.le_trans HW0.out (by rw [hg]; exact (below_size (by repeat (first | (with_reducible first | exact HBW.out | apply below_alloc | apply pw_below_drewN | apply below_drew1) | exact HBW.out))) : w.heap.size ≤ gb224) : w0.heap.size ≤ gb224)); clear HBW; clear HB; have HBW := n0_; have HB := n1_; have BK224 := n2_; have GW224 := n3_; have GE224 := n4_; clear n0_ n1_ n2_ n3_ n4_; clear hb hbox hg))
 go_ret
 exact ⟨_, rfl, (show IsS79 w0 _ gb224 (l0.take 2000) 0 from ⟨_, _, by (with_reducible repeat (first | refine blk_drewN ?_ _ | refine blk_drew ?_ | refine blk_alloc ?_ _)); exact BK224.out, GE224.out, HR223.out⟩), by repeat (first | (with_reducible first | exact HB.out | apply below_alloc | apply pw_below_drewN | apply below_drew1 | refine below_set ?_ GE224.out) | exact HB.out), by repeat (first | (with_reducible first | exact HBW.out | apply below_alloc | apply pw_below_drewN | apply below_drew1 | refine below_set ?_ GW224.out) | exact HBW.out)⟩
end Go.Proofs.YtejoneninbdjbaaDoor.E
end
section
namespace Go.Proofs.YtejoneninbdjbaaDoor.E
open Go.RowKit Go.Proofs.YtejoneninbdjbaaDoorW.PrintWords Go.Proofs.YtejoneninbdjbaaDoorW.PrintLast Go.Proofs.YtejoneninbdjbaaDoorW.PrintMore
attribute [local go_sem] max2_int min2_int max_two min_two max_three min_three max_four min_four
set_option linter.unusedVariables false
set_option linter.unusedSimpArgs false
attribute [local go_sem] str_leq_ str_gtr_ str_geq_
def spec_l6Rd_pick.j0 : Nat → Int → Bool → List Int → Int → Option (Int × Int)
 | 0, _, _, _, _ => none
 | k + 1, x1, x24, x1000, x1001 => if x24 = true then (some (0, x1001)) else (if (wrap64 (x1001 - 1)) < (x1000.length : Int) then (if 0 ≤ (wrap64 (x1001 - 1)) then (if x1 = 0 then (none) else (some (Int.tmod (wrap64 (rd x1000 (wrap64 (x1001 - 1)))) x1, x1001))) else (none)) else (if (x1000.length : Int) = 0 then (none) else (if 0 ≤ (Int.tmod (wrap64 (x1001 - 1)) (x1000.length : Int)) then (if (Int.tmod (wrap64 (x1001 - 1)) (x1000.length : Int)) < (x1000.length : Int) then (if 0 ≤ (Int.tmod (wrap64 ((wrap64 ((wrap64 (x1001 - 1)) * 7)) + 3)) (x1000.length : Int)) then (if (Int.tmod (wrap64 ((wrap64 ((wrap64 (x1001 - 1)) * 7)) + 3)) (x1000.length : Int)) < (x1000.length : Int) then (if x1 = 0 then (none) else (some (Int.tmod (Go.bits .xor .i64 (wrap64 ((wrap64 ((wrap64 ((wrap64 ((wrap64 (rd x1000 (Int.tmod (wrap64 (x1001 - 1)) (x1000.length : Int)))) * 131)) + (wrap64 ((wrap64 (rd x1000 (Int.tmod (wrap64 ((wrap64 ((wrap64 (x1001 - 1)) * 7)) + 3)) (x1000.length : Int)))) * 1117)))) + (wrap64 ((wrap64 (x1001 - 1)) * 29)))) + (wrap64 ((wrap64 (Int.tdiv (wrap64 (x1001 - 1)) (x1000.length : Int))) * 53)))) (wrap64 (Int.tdiv (wrap64 ((wrap64 ((wrap64 ((wrap64 ((wrap64 (rd x1000 (Int.tmod (wrap64 (x1001 - 1)) (x1000.length : Int)))) * 131)) + (wrap64 ((wrap64 (rd x1000 (Int.tmod (wrap64 ((wrap64 ((wrap64 (x1001 - 1)) * 7)) + 3)) (x1000.length : Int)))) * 1117)))) + (wrap64 ((wrap64 (x1001 - 1)) * 29)))) + (wrap64 ((wrap64 (Int.tdiv (wrap64 (x1001 - 1)) (x1000.length : Int))) * 53)))) 64))) x1, x1001))) else (none)) else (none)) else (none)) else (none))))
def spec_l6Rd_pick.f (k : Nat) (s0_0 : List Int) (s0_1 : Int) (a1 : Int) : Option (Int × Int) := if a1 < 1 then (spec_l6Rd_pick.j0 k a1 true s0_0 (wrap64 (s0_1 + 1))) else (spec_l6Rd_pick.j0 k a1 ((s0_0.length : Int) == 0) s0_0 (wrap64 (s0_1 + 1)))
set_option maxHeartbeats 8000000 in
set_option maxRecDepth 100000 in
theorem spec_l6Rd_pick.calls (k : Nat) (g : Nat) (s0_0 : List Int) (s0_1 : Int) (a1 : Int) (r1 : Int) (r2 : Int) (w0 w : World) (hI : IsS79 w0 w g s0_0 s0_1) (hB : Below w0.heap.size w0 w) (h : spec_l6Rd_pick.f k s0_0 s0_1 a1 = some (r1, r2)) :
  Calls Tryd.prog 81 #[.pointer (some ⟨g, 0, none⟩), .int .i64 a1] w fun e w' => e = .returned (.int .i64 r1) ∧ IsS79 w0 w' g s0_0 r2 ∧ Below w0.heap.size w0 w' ∧ KeepBut w w' g none := by
 have HI0 := Aside0.mk hI
 have HK := Aside0.mk (KeepBut.refl w g none)
 have HL := Aside0.mk hB.size
 clear hI
 have HW0 := Aside0.mk hB.size
 have HB := Aside0.mk hB
 clear hB
 have H : (if a1 < 1 then (spec_l6Rd_pick.j0 k a1 true s0_0 (wrap64 (s0_1 + 1))) else (spec_l6Rd_pick.j0 k a1 ((s0_0.length : Int) == 0) s0_0 (wrap64 (s0_1 + 1)))) = some (r1, r2) := h
 clear h
 have HC3 := Aside0.mk H
 clear H
 obtain ⟨ASz4_0, cSz4_0, HGz4, hgz4, HSz4_0⟩ := HI0.out
 have hcz4_0 := cellS79_0 HGz4
 have hcz4_1 := cellS79_1 HGz4
 have hfz4_1 := blk_frozen HGz4 1
 clear HGz4 hgz4
 go_enter Tryd.func81, Tryd.ntmps81
 go_upto_region 2 with (fail)
 repeat (go_quiet (fail); go_upto_region 2 with (fail))
 go_cut [24] (fun v24 wc => ∃ (kq : Nat) (x24_2 : Bool), v24 = .bool x24_2 ∧ Aside0 (spec_l6Rd_pick.j0 kq a1 x24_2 s0_0 (wrap64 (s0_1 + 1)) = some (r1, r2)) ∧ Aside0 (kq ≤ k) ∧ Aside0 (IsS79 w0 wc g s0_0 (wrap64 (s0_1 + 1))) ∧ Aside0 (KeepBut w wc g none) ∧ Aside0 (Below w0.heap.size w0 wc))
 case first =>
  have H := HC3.out
  clear HC3
  by_cases c5 : a1 < 1
  ·rw [if_pos c5] at H
   have c5b0 : decide (a1 < 1) = true := decide_eq_true c5
   clear c5
   (first | rw [c5b0] | (simp only [i64_w, i32_w]; rw [c5b0]) | skip)
   have H' := Aside0.mk H
   clear H
   go_wp2
   repeat (go_quiet (fail); try go_wp2)
   go_meet
   case rel => exact ⟨_, (true), (by first | rfl | (simp; done) | (simp [*]; done)), H', ⟨by first | omega | exact Nat.le_refl _⟩, ⟨by repeat (first | (with_reducible first | exact HI0.out | apply IsS79.alloc | apply IsS79.drewN | apply IsS79.drew | apply IsS79.set_1) | exact HI0.out)⟩, ⟨by repeat (first | (with_reducible first | exact HK.out | apply KeepBut.set_ | apply keep_drewN | apply keep_drew | apply keep_alloc) | exact HK.out)⟩, ⟨by repeat (first | (with_reducible first | exact HB.out | apply below_alloc | apply pw_below_drewN | apply below_drew1 | refine below_set ?_ (IsS79.ge HI0.out)) | exact HB.out)⟩⟩
  rw [if_neg c5] at H
  have c5b0 : decide (a1 < 1) = false := decide_eq_false c5
  clear c5
  (first | rw [c5b0] | (simp only [i64_w, i32_w]; rw [c5b0]) | skip)
  have H' := Aside0.mk H
  clear H
  obtain ⟨ASz6_0, cSz6_0, HGz6, hgz6, HSz6_0⟩ := HI0.out
  have hcz6_0 := cellS79_0 HGz6
  have hcz6_1 := cellS79_1 HGz6
  have hfz6_1 := blk_frozen HGz6 1
  clear HGz6 hgz6
  go_wp2
  repeat (go_quiet (fail); try go_wp2)
  go_meet
  case rel => exact ⟨_, (((s0_0.length : Int) == 0)), (by first | rfl | (simp; done) | (simp [*]; done)), H', ⟨by first | omega | exact Nat.le_refl _⟩, ⟨by repeat (first | (with_reducible first | exact HI0.out | apply IsS79.alloc | apply IsS79.drewN | apply IsS79.drew | apply IsS79.set_1) | exact HI0.out)⟩, ⟨by repeat (first | (with_reducible first | exact HK.out | apply KeepBut.set_ | apply keep_drewN | apply keep_drew | apply keep_alloc) | exact HK.out)⟩, ⟨by repeat (first | (with_reducible first | exact HB.out | apply below_alloc | apply pw_below_drewN | apply below_drew1 | refine below_set ?_ (IsS79.ge HI0.out)) | exact HB.out)⟩⟩
 case rest =>
  clear HC3
  try clear p2
  try clear c5
  try clear c5b0
  try clear p6
  try clear hcz4_0
  try clear hcz4_1
  try clear hcz6_0
  try clear hcz6_1
  try clear hfz4_1
  try clear hfz6_1
  obtain ⟨kq, x24_2, rfl, HA, HJ2, HI0, HK, HB⟩ := hcut
  cases kq with
  | zero => exact absurd HA.out (by simp [spec_l6Rd_pick.j0])
  | succ kj2 =>
   have H := HA.out
   clear HA
   simp only [spec_l6Rd_pick.j0] at H
   by_cases c7 : x24_2 = true
   ·subst c7
    have H1 : (some (0, (wrap64 (s0_1 + 1)))) = some (r1, r2) := by rw [if_pos rfl] at H; exact H
    clear H
    have H := H1
    clear H1
    simp only [Option.some.injEq, Prod.mk.injEq] at H
    obtain ⟨rfl, rfl⟩ := H
    go_wp2
    repeat (go_quiet (fail); try go_wp2)
    go_ret
    exact ⟨by first | rfl | (simp [errW_none, errW_some] <;> rfl) | (simp [*, errW_none, errW_some] <;> rfl), by repeat (first | (with_reducible first | exact HI0.out | apply IsS79.alloc | apply IsS79.drewN | apply IsS79.drew | apply IsS79.set_1) | exact HI0.out), by repeat (first | (with_reducible first | exact HB.out | apply below_alloc | apply pw_below_drewN | apply below_drew1 | refine below_set ?_ (IsS79.ge HI0.out)) | exact HB.out), by repeat (first | (with_reducible first | exact HK.out | apply KeepBut.set_ | apply keep_drewN | apply keep_drew | apply keep_alloc) | exact HK.out)⟩
   replace c7 := Bool.eq_false_iff.mpr c7
   subst c7
   have H1 : (if (wrap64 ((wrap64 (s0_1 + 1)) - 1)) < (s0_0.length : Int) then (if 0 ≤ (wrap64 ((wrap64 (s0_1 + 1)) - 1)) then (if a1 = 0 then (none) else (some (Int.tmod (wrap64 (rd s0_0 (wrap64 ((wrap64 (s0_1 + 1)) - 1)))) a1, (wrap64 (s0_1 + 1))))) else (none)) else (if (s0_0.length : Int) = 0 then (none) else (if 0 ≤ (Int.tmod (wrap64 ((wrap64 (s0_1 + 1)) - 1)) (s0_0.length : Int)) then (if (Int.tmod (wrap64 ((wrap64 (s0_1 + 1)) - 1)) (s0_0.length : Int)) < (s0_0.length : Int) then (if 0 ≤ (Int.tmod (wrap64 ((wrap64 ((wrap64 ((wrap64 (s0_1 + 1)) - 1)) * 7)) + 3)) (s0_0.length : Int)) then (if (Int.tmod (wrap64 ((wrap64 ((wrap64 ((wrap64 (s0_1 + 1)) - 1)) * 7)) + 3)) (s0_0.length : Int)) < (s0_0.length : Int) then (if a1 = 0 then (none) else (some (Int.tmod (Go.bits .xor .i64 (wrap64 ((wrap64 ((wrap64 ((wrap64 ((wrap64 (rd s0_0 (Int.tmod (wrap64 ((wrap64 (s0_1 + 1)) - 1)) (s0_0.length : Int)))) * 131)) + (wrap64 ((wrap64 (rd s0_0 (Int.tmod (wrap64 ((wrap64 ((wrap64 ((wrap64 (s0_1 + 1)) - 1)) * 7)) + 3)) (s0_0.length : Int)))) * 1117)))) + (wrap64 ((wrap64 ((wrap64 (s0_1 + 1)) - 1)) * 29)))) + (wrap64 ((wrap64 (Int.tdiv (wrap64 ((wrap64 (s0_1 + 1)) - 1)) (s0_0.length : Int))) * 53)))) (wrap64 (Int.tdiv (wrap64 ((wrap64 ((wrap64 ((wrap64 ((wrap64 (rd s0_0 (Int.tmod (wrap64 ((wrap64 (s0_1 + 1)) - 1)) (s0_0.length : Int)))) * 131)) + (wrap64 ((wrap64 (rd s0_0 (Int.tmod (wrap64 ((wrap64 ((wrap64 ((wrap64 (s0_1 + 1)) - 1)) * 7)) + 3)) (s0_0.length : Int)))) * 1117)))) + (wrap64 ((wrap64 ((wrap64 (s0_1 + 1)) - 1)) * 29)))) + (wrap64 ((wrap64 (Int.tdiv (wrap64 ((wrap64 (s0_1 + 1)) - 1)) (s0_0.length : Int))) * 53)))) 64))) a1, (wrap64 (s0_1 + 1))))) else (none)) else (none)) else (none)) else (none)))) = some (r1, r2) := by rw [if_neg (show ¬ (false = true) by decide)] at H; exact H
   clear H
   have H := H1
   clear H1
   by_cases c8 : (wrap64 ((wrap64 (s0_1 + 1)) - 1)) < (s0_0.length : Int)
   ·rw [if_pos c8] at H
    have c8b0 : decide ((wrap64 ((wrap64 (s0_1 + 1)) - 1)) < (s0_0.length : Int)) = true := decide_eq_true c8
    clear c8
    obtain ⟨ji9, hji9⟩ : ∃ j_ : Int, (wrap64 ((wrap64 (s0_1 + 1)) - 1)) = j_ := ⟨_, rfl⟩
    replace H : (if 0 ≤ (ji9) then (if a1 = 0 then (none) else (some (Int.tmod (wrap64 (rd s0_0 (ji9))) a1, (wrap64 (s0_1 + 1))))) else (none)) = some (r1, r2) := by first | (rw [hji9] at H; exact H) | (simp only [hji9] at H ⊢; exact H)
    (try rw [hji9] at c8b0)
    have hji9w : (IntKind.i64.wrap ((wrap64 (s0_1 + 1)) - 1)) = ji9 := (i64_w _).trans hji9
    by_cases c10 : 0 ≤ (ji9)
    rotate_left
    ·rw [if_neg c10] at H
     exact absurd H (by simp)
    rw [if_pos c10] at H
    have c10b0 : decide (0 ≤ (ji9)) = true := decide_eq_true c10
    clear c10
    by_cases c11 : a1 = 0
    ·rw [if_pos c11] at H
     exact absurd H (by simp)
    rw [if_neg c11] at H
    have c11b0 : (a1 == 0) = false := beq_eq_false_iff_ne.mpr c11
    have c11b1 : (a1 != 0) = true := bne_iff_ne.mpr c11
    simp only [Option.some.injEq, Prod.mk.injEq] at H
    obtain ⟨rfl, rfl⟩ := H
    obtain ⟨ASz12_0, cSz12_0, HGz12, hgz12, HSz12_0⟩ := HI0.out
    have hcz12_0 := cellS79_0 HGz12
    have hcz12_1 := cellS79_1 HGz12
    have hfz12_1 := blk_frozen HGz12 1
    clear HGz12 hgz12
    have p226 : 0 ≤ ((ji9) : Int) := of_decide_eq_true (by first | (with_reducible assumption) | assumption)
    have q226 : (ji9) < (s0_0.length : Int) := of_decide_eq_true (by first | (with_reducible assumption) | assumption)
    obtain ⟨ad226, e226, hx226_0⟩ := Kd.at_int HSz12_0 (ji9) p226 q226
    cases e226
    replace hx226_0 := pw_cell_below HB.out hx226_0
    replace p226 := eq_true p226
    replace q226 := eq_true q226
    go_wp2
    repeat (go_quiet (fail); try go_wp2)
    go_ret
    exact ⟨by first | rfl | (simp [errW_none, errW_some] <;> rfl) | (simp only [← hji9]; first | rfl | (simp [errW_none, errW_some] <;> rfl)) | (simp [*, errW_none, errW_some] <;> rfl), by repeat (first | (with_reducible first | exact HI0.out | apply IsS79.alloc | apply IsS79.drewN | apply IsS79.drew | apply IsS79.set_1) | exact HI0.out), by repeat (first | (with_reducible first | exact HB.out | apply below_alloc | apply pw_below_drewN | apply below_drew1 | refine below_set ?_ (IsS79.ge HI0.out)) | exact HB.out), by repeat (first | (with_reducible first | exact HK.out | apply KeepBut.set_ | apply keep_drewN | apply keep_drew | apply keep_alloc) | exact HK.out)⟩
   rw [if_neg c8] at H
   have c8b0 : decide ((wrap64 ((wrap64 (s0_1 + 1)) - 1)) < (s0_0.length : Int)) = false := decide_eq_false c8
   clear c8
   by_cases c13 : (s0_0.length : Int) = 0
   ·rw [if_pos c13] at H
    exact absurd H (by simp)
   rw [if_neg c13] at H
   have c13b0 : ((s0_0.length : Int) == 0) = false := beq_eq_false_iff_ne.mpr c13
   have c13b1 : ((s0_0.length : Int) != 0) = true := bne_iff_ne.mpr c13
   have c13b2 : ¬ (s0_0 = []) := fun h_ => c13 (by rw [h_]; rfl)
   obtain ⟨ji14, hji14⟩ : ∃ j_ : Int, (Int.tmod (wrap64 ((wrap64 (s0_1 + 1)) - 1)) (s0_0.length : Int)) = j_ := ⟨_, rfl⟩
   replace H : (if 0 ≤ (ji14) then (if (ji14) < (s0_0.length : Int) then (if 0 ≤ (Int.tmod (wrap64 ((wrap64 ((wrap64 ((wrap64 (s0_1 + 1)) - 1)) * 7)) + 3)) (s0_0.length : Int)) then (if (Int.tmod (wrap64 ((wrap64 ((wrap64 ((wrap64 (s0_1 + 1)) - 1)) * 7)) + 3)) (s0_0.length : Int)) < (s0_0.length : Int) then (if a1 = 0 then (none) else (some (Int.tmod (Go.bits .xor .i64 (wrap64 ((wrap64 ((wrap64 ((wrap64 ((wrap64 (rd s0_0 (ji14))) * 131)) + (wrap64 ((wrap64 (rd s0_0 (Int.tmod (wrap64 ((wrap64 ((wrap64 ((wrap64 (s0_1 + 1)) - 1)) * 7)) + 3)) (s0_0.length : Int)))) * 1117)))) + (wrap64 ((wrap64 ((wrap64 (s0_1 + 1)) - 1)) * 29)))) + (wrap64 ((wrap64 (Int.tdiv (wrap64 ((wrap64 (s0_1 + 1)) - 1)) (s0_0.length : Int))) * 53)))) (wrap64 (Int.tdiv (wrap64 ((wrap64 ((wrap64 ((wrap64 ((wrap64 (rd s0_0 (ji14))) * 131)) + (wrap64 ((wrap64 (rd s0_0 (Int.tmod (wrap64 ((wrap64 ((wrap64 ((wrap64 (s0_1 + 1)) - 1)) * 7)) + 3)) (s0_0.length : Int)))) * 1117)))) + (wrap64 ((wrap64 ((wrap64 (s0_1 + 1)) - 1)) * 29)))) + (wrap64 ((wrap64 (Int.tdiv (wrap64 ((wrap64 (s0_1 + 1)) - 1)) (s0_0.length : Int))) * 53)))) 64))) a1, (wrap64 (s0_1 + 1))))) else (none)) else (none)) else (none)) else (none)) = some (r1, r2) := by first | (rw [hji14] at H; exact H) | (simp only [hji14] at H ⊢; exact H)
   by_cases c15 : 0 ≤ (ji14)
   rotate_left
   ·rw [if_neg c15] at H
    exact absurd H (by simp)
   rw [if_pos c15] at H
   have c15b0 : decide (0 ≤ (ji14)) = true := decide_eq_true c15
   clear c15
   by_cases c16 : (ji14) < (s0_0.length : Int)
   rotate_left
   ·rw [if_neg c16] at H
    exact absurd H (by simp)
   rw [if_pos c16] at H
   have c16b0 : decide ((ji14) < (s0_0.length : Int)) = true := decide_eq_true c16
   clear c16
   obtain ⟨ji17, hji17⟩ : ∃ j_ : Int, (Int.tmod (wrap64 ((wrap64 ((wrap64 ((wrap64 (s0_1 + 1)) - 1)) * 7)) + 3)) (s0_0.length : Int)) = j_ := ⟨_, rfl⟩
   replace H : (if 0 ≤ (ji17) then (if (ji17) < (s0_0.length : Int) then (if a1 = 0 then (none) else (some (Int.tmod (Go.bits .xor .i64 (wrap64 ((wrap64 ((wrap64 ((wrap64 ((wrap64 (rd s0_0 (ji14))) * 131)) + (wrap64 ((wrap64 (rd s0_0 (ji17))) * 1117)))) + (wrap64 ((wrap64 ((wrap64 (s0_1 + 1)) - 1)) * 29)))) + (wrap64 ((wrap64 (Int.tdiv (wrap64 ((wrap64 (s0_1 + 1)) - 1)) (s0_0.length : Int))) * 53)))) (wrap64 (Int.tdiv (wrap64 ((wrap64 ((wrap64 ((wrap64 ((wrap64 (rd s0_0 (ji14))) * 131)) + (wrap64 ((wrap64 (rd s0_0 (ji17))) * 1117)))) + (wrap64 ((wrap64 ((wrap64 (s0_1 + 1)) - 1)) * 29)))) + (wrap64 ((wrap64 (Int.tdiv (wrap64 ((wrap64 (s0_1 + 1)) - 1)) (s0_0.length : Int))) * 53)))) 64))) a1, (wrap64 (s0_1 + 1))))) else (none)) else (none)) = some (r1, r2) := by first | (rw [hji17] at H; exact H) | (simp only [hji17] at H ⊢; exact H)
   by_cases c18 : 0 ≤ (ji17)
   rotate_left
   ·rw [if_neg c18] at H
    exact absurd H (by simp)
   rw [if_pos c18] at H
   have c18b0 : decide (0 ≤ (ji17)) = true := decide_eq_true c18
   clear c18
   by_cases c19 : (ji17) < (s0_0.length : Int)
   rotate_left
   ·rw [if_neg c19] at H
    exact absurd H (by simp)
   rw [if_pos c19] at H
   have c19b0 : decide ((ji17) < (s0_0.length : Int)) = true := decide_eq_true c19
   clear c19
   by_cases c20 : a1 = 0
   ·rw [if_pos c20] at H
    exact absurd H (by simp)
   rw [if_neg c20] at H
   have c20b0 : (a1 == 0) = false := beq_eq_false_iff_ne.mpr c20
   have c20b1 : (a1 != 0) = true := bne_iff_ne.mpr c20
   simp only [Option.some.injEq, Prod.mk.injEq] at H
   obtain ⟨rfl, rfl⟩ := H
   obtain ⟨ASz21_0, cSz21_0, HGz21, hgz21, HSz21_0⟩ := HI0.out
   have hcz21_0 := cellS79_0 HGz21
   have hcz21_1 := cellS79_1 HGz21
   have hfz21_1 := blk_frozen HGz21 1
   clear HGz21 hgz21
   have p227 : 0 ≤ ((ji14) : Int) := of_decide_eq_true (by first | (with_reducible assumption) | assumption)
   have q227 : (ji14) < (s0_0.length : Int) := of_decide_eq_true (by first | (with_reducible assumption) | assumption)
   obtain ⟨ad227, e227, hx227_0⟩ := Kd.at_int HSz21_0 (ji14) p227 q227
   cases e227
   replace hx227_0 := pw_cell_below HB.out hx227_0
   replace p227 := eq_true p227
   replace q227 := eq_true q227
   have p228 : 0 ≤ ((ji17) : Int) := of_decide_eq_true (by first | (with_reducible assumption) | assumption)
   have q228 : (ji17) < (s0_0.length : Int) := of_decide_eq_true (by first | (with_reducible assumption) | assumption)
   obtain ⟨ad228, e228, hx228_0⟩ := Kd.at_int HSz21_0 (ji17) p228 q228
   obtain rfl : ad227 = ad228 := (by injection e228)
   replace hx228_0 := pw_cell_below HB.out hx228_0
   replace p228 := eq_true p228
   replace q228 := eq_true q228
   go_wp2
   repeat (go_quiet (fail); try go_wp2)
   go_ret
   exact ⟨by first | rfl | (simp [errW_none, errW_some] <;> rfl) | (simp only [← hji14, ← hji17]; first | rfl | (simp [errW_none, errW_some] <;> rfl)) | (simp [*, errW_none, errW_some] <;> rfl), by repeat (first | (with_reducible first | exact HI0.out | apply IsS79.alloc | apply IsS79.drewN | apply IsS79.drew | apply IsS79.set_1) | exact HI0.out), by repeat (first | (with_reducible first | exact HB.out | apply below_alloc | apply pw_below_drewN | apply below_drew1 | refine below_set ?_ (IsS79.ge HI0.out)) | exact HB.out), by repeat (first | (with_reducible first | exact HK.out | apply KeepBut.set_ | apply keep_drewN | apply keep_drew | apply keep_alloc) | exact HK.out)⟩
end Go.Proofs.YtejoneninbdjbaaDoor.E
end
section
namespace Go.Proofs.YtejoneninbdjbaaDoor.E
open Go.RowKit Go.Proofs.YtejoneninbdjbaaDoorW.PrintWords Go.Proofs.YtejoneninbdjbaaDoorW.PrintLast Go.Proofs.YtejoneninbdjbaaDoorW.PrintMore
attribute [local go_sem] max2_int min2_int max_two min_two max_three min_three max_four min_four
set_option linter.unusedVariables false
set_option linter.unusedSimpArgs false
attribute [local go_sem] str_leq_ str_gtr_ str_geq_
def spec_l6Rd_of.f (k : Nat) (s0_0 : List Int) (s0_1 : Int) (l1 : List ByteArray) : Option (ByteArray × Int) := (spec_l6Rd_pick.f k s0_0 s0_1 (l1.length : Int)).bind fun bt229 => (if 0 ≤ bt229.1 then (if bt229.1 < (l1.length : Int) then (some (rdOf ByteArray.empty l1 bt229.1, bt229.2)) else (none)) else (none))
set_option maxHeartbeats 8000000 in
set_option maxRecDepth 100000 in
theorem spec_l6Rd_of.calls (k : Nat) (g : Nat) (s0_0 : List Int) (s0_1 : Int) (A1 : Option Addr) (c1 : Nat) (l1 : List ByteArray) (r1 : ByteArray) (r2 : Int) (w0 w : World) (hI : IsS79 w0 w g s0_0 s0_1) (hB : Below w0.heap.size w0 w) (hr1 : Kd.C Kd.string w A1 l1.length l1) (hc1 : l1.length ≤ c1) (hf1 : ∀ ad, A1 = some ad → 0 < l1.length → ad.block ≠ g) (h : spec_l6Rd_of.f k s0_0 s0_1 l1 = some (r1, r2)) :
  Calls Tryd.prog 82 #[.pointer (some ⟨g, 0, none⟩), .slice A1 l1.length c1] w fun e w' => e = .returned (.string r1) ∧ IsS79 w0 w' g s0_0 r2 ∧ Below w0.heap.size w0 w' ∧ KeepBut w w' g none := by
 have HR1 := Aside0.mk hr1
 have HC1 := Aside0.mk hc1
 clear hr1 hc1
 have HI0 := Aside0.mk hI
 have HK := Aside0.mk (KeepBut.refl w g none)
 have HL := Aside0.mk hB.size
 clear hI
 have HW0 := Aside0.mk hB.size
 have HB := Aside0.mk hB
 clear hB
 have H : ((spec_l6Rd_pick.f k s0_0 s0_1 (l1.length : Int)).bind fun bt229 => (if 0 ≤ bt229.1 then (if bt229.1 < (l1.length : Int) then (some (rdOf ByteArray.empty l1 bt229.1, bt229.2)) else (none)) else (none))) = some (r1, r2) := h
 clear h
 replace H := Option.bind_eq_some_iff.mp H
 obtain ⟨⟨t229, t230⟩, A30, H⟩ := H
 replace H : (if 0 ≤ t229 then (if t229 < (l1.length : Int) then (some (rdOf ByteArray.empty l1 t229, t230)) else (none)) else (none)) = some (r1, r2) := H
 have A3 := Aside0.mk A30
 clear A30
 by_cases c4 : 0 ≤ t229
 rotate_left
 ·rw [if_neg c4] at H
  exact absurd H (by simp)
 rw [if_pos c4] at H
 have c4b0 : decide (0 ≤ t229) = true := decide_eq_true c4
 clear c4
 by_cases c5 : t229 < (l1.length : Int)
 rotate_left
 ·rw [if_neg c5] at H
  exact absurd H (by simp)
 rw [if_pos c5] at H
 have c5b0 : decide (t229 < (l1.length : Int)) = true := decide_eq_true c5
 clear c5
 simp only [Option.some.injEq, Prod.mk.injEq] at H
 obtain ⟨rfl, rfl⟩ := H
 go_enter Tryd.func82, Tryd.ntmps82
 go_wp2_with (first | ((with_reducible refine gate_callee (f := 81) rfl ?_); refine goesL_ (some 9) rfl rfl Tryd.func81 (by kernel_rfl) rfl #[.pointer (some ⟨g, 0, none⟩), .int .i64 (l1.length : Int)] rfl (by (try simp only [List.map_toArray, List.map_cons, List.map_nil]); first | done | rfl | (simp only [List.length_drop, List.length_take]; rfl)) ?_; (with_reducible refine (spec_l6Rd_pick.calls k g s0_0 s0_1 (l1.length : Int) t229 t230 w0 _ ?side1 ?side2 A3.out).mono ?_); (case side1 => repeat (first | (with_reducible first | exact HI0.out | apply IsS79.alloc | apply IsS79.drewN | apply IsS79.drew | apply IsS79.set_1) | exact HI0.out)); (case side2 => repeat (first | (with_reducible first | exact HB.out | apply below_alloc | apply pw_below_drewN | apply below_drew1 | refine below_set ?_ (IsS79.ge HI0.out)) | exact HB.out)); rintro e w6 ⟨rfl, hi, hb, hk⟩; refine ⟨_, rfl, ?_⟩; have n0_ := Aside0.mk (KeepBut.trans (by repeat (first | (with_reducible first | exact HK.out | apply KeepBut.set_ | apply keep_drewN | apply keep_drew | apply keep_alloc) | exact HK.out)) hk (.inl rfl)); have n1_ := Aside0.mk (hb); have n2_ := Aside0.mk (hi); clear HK; clear HB; clear HI0; have HK := n0_; have HB := n1_; have HI0 := n2_; clear n0_ n1_ n2_; (try clear hb); (try clear hb2); (try clear hk); (try clear hi); have p231 : 0 ≤ (t229 : Int) := of_decide_eq_true (by first | (with_reducible assumption) | assumption); have q231 : t229 < (l1.length : Int) := of_decide_eq_true (by first | (with_reducible assumption) | assumption); obtain ⟨ad231, e231, hx231_0⟩ := Kd.at_string HR1.out t229 p231 q231; cases e231; replace hx231_0 := keep_cell HK.out hx231_0 (by first | (rw [add_block]; exact hf1 _ rfl (by omega)) | exact hf1 _ rfl (by omega) | exact hf1 ad231 rfl (by omega)); replace p231 := eq_true p231; replace q231 := eq_true q231))
 go_ret
 exact ⟨by first | rfl | (simp [errW_none, errW_some] <;> rfl) | (simp [*, errW_none, errW_some] <;> rfl), by repeat (first | (with_reducible first | exact HI0.out | apply IsS79.alloc | apply IsS79.drewN | apply IsS79.drew | apply IsS79.set_1) | exact HI0.out), by repeat (first | (with_reducible first | exact HB.out | apply below_alloc | apply pw_below_drewN | apply below_drew1 | refine below_set ?_ (IsS79.ge HI0.out)) | exact HB.out), by repeat (first | (with_reducible first | exact HK.out | apply KeepBut.set_ | apply keep_drewN | apply keep_drew | apply keep_alloc) | exact HK.out)⟩
end Go.Proofs.YtejoneninbdjbaaDoor.E
end
