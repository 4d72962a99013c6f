/- Proved: for all arguments the given program's laws.FnExactStemBest returns true, and its arguments read afterwards as they read before (the given constant Rows.FnExactStemBestCardSaid).
Conditions: none ahead of the given statement; the statement itself begins in a world whose listed package-level variables hold what the program's text lays there, and its card ties them to that text. -/
import Derived.Test.YtejoneninbdjbaaDoorRowFnExactStemBestK0
section
namespace Go.Proofs.YtejoneninbdjbaaDoor.E
open Go.RowKit Go.Proofs.YtejoneninbdjbaaDoorW.PrintWords Go.Proofs.YtejoneninbdjbaaDoorW.PrintLast Go.Proofs.YtejoneninbdjbaaDoorW.PrintMore
attribute [local go_sem] max2_int min2_int max_two min_two max_three min_three max_four min_four
set_option linter.unusedVariables false
set_option linter.unusedSimpArgs false
attribute [local go_sem] str_leq_ str_gtr_ str_geq_
mutual
def impl_StemBest.l0 : Nat → List ByteArray → List Int → Int → Option (List Int × Bool)
 | 0, _, _, _ => none
 | k + 1, x0, x4, x5 => if x5 < (x0.length : Int) then (impl_StemBest.l1 k x0 x4 x5 0 1) else (some (x4, true))
def impl_StemBest.l1 : Nat → List ByteArray → List Int → Int → Int → Int → Option (List Int × Bool)
 | 0, _, _, _, _, _ => none
 | k + 1, x0, x4, x5, x6, x7 => if x7 < x5 then (if 0 ≤ x5 then (if x5 < (x0.length : Int) then (if 0 ≤ x7 then (if x7 < (x0.length : Int) then ((impl_farBetween.f k (rdOf ByteArray.empty x0 x5) (rdOf ByteArray.empty x0 x7)).bind fun t446 => (if 0 ≤ x6 then (if x6 < (x0.length : Int) then ((impl_farBetween.f k (rdOf ByteArray.empty x0 x5) (rdOf ByteArray.empty x0 x6)).bind fun t449 => (if t446 < t449 then (impl_StemBest.l1 k x0 x4 x5 x7 (wrap64 (x7 + 1))) else (impl_StemBest.l1 k x0 x4 x5 x6 (wrap64 (x7 + 1))))) else (none)) else (none))) else (none)) else (none)) else (none)) else (none)) else (if x4.length < 17592186044416 then (impl_StemBest.l0 k x0 (x4 ++ [x6]) (wrap64 (x5 + 1))) else (none))
end
def impl_StemBest.f (k : Nat) (l0 : List ByteArray) : Option (List Int × Bool) := (impl_BooksValid.f k l0).bind fun t437 => (if t437 = true then (impl_StemBest.l0 k l0 (([(-1)] : List Int)) 1) else (some (([] : List Int), false)))
set_option maxHeartbeats 8000000 in
set_option maxRecDepth 100000 in
theorem impl_StemBest.calls (k : Nat) (A0 : Option Addr) (c0 : Nat) (l0 : List ByteArray) (r1 : List Int) (r2 : Bool) (w : World) (hr0 : Kd.C Kd.string w A0 l0.length l0) (hc0 : l0.length ≤ c0) (h : impl_StemBest.f k l0 = some (r1, r2)) :
  Calls Tryd.prog 46 #[.slice A0 l0.length c0] w fun e w' => ∃ v0_ : Value, e = .returned (.tuple #[v0_, .bool r2]) ∧ Kd.R (Kd.int .i64) 3 w' w.heap.size (fun _ => True) v0_ r1 ∧ Below w.heap.size w w' := by
 have HR0 := Aside0.mk hr0
 have HC0 := Aside0.mk hc0
 clear hr0 hc0
 have HB := Aside0.mk (Below.refl w.heap.size w)
 have H : ((impl_BooksValid.f k l0).bind fun t437 => (if t437 = true then (impl_StemBest.l0 k l0 (([(-1)] : List Int)) 1) else (some (([] : List Int), false)))) = some (r1, r2) := h
 clear h
 replace H := Option.bind_eq_some_iff.mp H
 obtain ⟨t437, A20, H⟩ := H
 replace H : (if t437 = true then (impl_StemBest.l0 k l0 (([(-1)] : List Int)) 1) else (some (([] : List Int), false))) = some (r1, r2) := H
 have A2 := Aside0.mk A20
 clear A20
 by_cases c3 : t437 = true
 rotate_left
 ·replace c3 := Bool.eq_false_iff.mpr c3
  subst c3
  have H1 : (some (([] : List Int), false)) = some (r1, r2) := by rw [if_neg (show ¬ (false = true) by decide)] at H; exact H
  clear H
  have H := H1
  clear H1
  simp only [Option.some.injEq, Prod.mk.injEq] at H
  obtain ⟨rfl, rfl⟩ := H
  go_enter Tryd.func46, Tryd.ntmps46
  go_wp2_with (first | (go_at_call 24; (with_reducible refine (impl_BooksValid.calls k _ _ l0 false _ ?side1 ?side2 A2.out).mono ?_); (case side1 => repeat (first | exact HR0.out | (with_reducible refine Kd.C_alloc ?_ _) | (with_reducible refine Kd.C_drewN ?_ _) | (with_reducible refine Kd.C_drew ?_))); (case side2 => exact HC0.out); rintro e w20 ⟨rfl, hb⟩; have n0_ := Aside0.mk (below_step (by repeat (first | (with_reducible first | exact HB.out | apply below_alloc | apply pw_below_drewN | apply below_drew1) | exact HB.out)) hb); clear HB; have HB := n0_; clear n0_; (try clear hb); (try clear hb2); (try clear hk); (try clear hi)))
  repeat (go_quiet (first | (go_at_call 24; (with_reducible refine (impl_BooksValid.calls k _ _ l0 false _ ?side1 ?side2 A2.out).mono ?_); (case side1 => repeat (first | exact HR0.out | (with_reducible refine Kd.C_alloc ?_ _) | (with_reducible refine Kd.C_drewN ?_ _) | (with_reducible refine Kd.C_drew ?_))); (case side2 => exact HC0.out); rintro e w20 ⟨rfl, hb⟩; have n0_ := Aside0.mk (below_step (by repeat (first | (with_reducible first | exact HB.out | apply below_alloc | apply pw_below_drewN | apply below_drew1) | exact HB.out)) hb); clear HB; have HB := n0_; clear n0_; (try clear hb); (try clear hb2); (try clear hk); (try clear hi))); try go_wp2_with (first | (go_at_call 24; (with_reducible refine (impl_BooksValid.calls k _ _ l0 false _ ?side1 ?side2 A2.out).mono ?_); (case side1 => repeat (first | exact HR0.out | (with_reducible refine Kd.C_alloc ?_ _) | (with_reducible refine Kd.C_drewN ?_ _) | (with_reducible refine Kd.C_drew ?_))); (case side2 => exact HC0.out); rintro e w20 ⟨rfl, hb⟩; have n0_ := Aside0.mk (below_step (by repeat (first | (with_reducible first | exact HB.out | apply below_alloc | apply pw_below_drewN | apply below_drew1) | exact HB.out)) hb); clear HB; have HB := n0_; clear n0_; (try clear hb); (try clear hb2); (try clear hk); (try clear hi))))
  go_ret2
  exact ⟨_, by first | rfl | (simp [errW_none, errW_some] <;> rfl) | (simp [*, errW_none, errW_some] <;> rfl), by first | exact Kd.R_nil _ _ _ _ _ | exact Kd.N_nil _ _ _ _ _ | exact Kd.V_nil _ _ _ _ _ | exact Kd.Q_nil _ _ _ _ _ | exact Kd.S_nil _ _ _ _ _, by repeat (first | (with_reducible first | exact HB.out | apply below_alloc | apply pw_below_drewN | apply below_drew1) | exact HB.out)⟩
 subst c3
 have H1 : (impl_StemBest.l0 k l0 (([(-1)] : List Int)) 1) = some (r1, r2) := by rw [if_pos rfl] at H; exact H
 clear H
 have H := H1
 clear H1
 obtain ⟨y438, hy438⟩ : ∃ y_ : List Int, y_ = (([(-1)] : List Int)) := ⟨_, rfl⟩
 replace H : (impl_StemBest.l0 k l0 y438 1) = some (r1, r2) := by first | (rw [hy438]; with_reducible exact H) | (have H2_ := (Option.bind_some _ _).symm.trans H; rw [hy438]; with_reducible exact H2_) | (have H2_ := (Option.bind_some _ _).symm.trans H; with_reducible exact H2_) | with_reducible exact H | (rw [hy438]; exact H) | exact H
 have Ny438 := Aside0.mk hy438
 clear hy438
 have H' := Aside0.mk H
 clear H
 go_enter Tryd.func46, Tryd.ntmps46
 go_wp2_with (first | (go_at_call 24; (with_reducible refine (impl_BooksValid.calls k _ _ l0 true _ ?side1 ?side2 A2.out).mono ?_); (case side1 => repeat (first | exact HR0.out | (with_reducible refine Kd.C_alloc ?_ _) | (with_reducible refine Kd.C_drewN ?_ _) | (with_reducible refine Kd.C_drew ?_))); (case side2 => exact HC0.out); rintro e w4 ⟨rfl, hb⟩; have n0_ := Aside0.mk (below_step (by repeat (first | (with_reducible first | exact HB.out | apply below_alloc | apply pw_below_drewN | apply below_drew1) | exact HB.out)) hb); clear HB; have HB := n0_; clear n0_; (try clear hb); (try clear hb2); (try clear hk); (try clear hi)) | ((with_reducible refine gate_dst (N := 11) rfl ?_); refine Kd.R_lit (Kd.int .i64) _ 3 ?hg (N := 11) ?hd (xs := ([(-1)] : List Int)) (inner := [.int .i64 (-1)]) (ok := fun _ => True) (okp := fun _ => True) ?hr ?hp (fun _ hk => hk) trivial (Below.refl _ _) (Nat.le_refl _) (by simp) ?_; (case hd => rfl); (case hg => rfl); (case hr => first | (go_simp; done) | (go_simp; rfl)); (case hp => exact (Reps.one (show Kd.M (Kd.int .i64) _ _ _ (-1) [.int .i64 (-1)] from rfl) (Reps.none _ _))); intro v439 w5 ho6 hb hg_ hnew_; clear hg_ hnew_; (first | rw [← Ny438.out] at ho6 | (simp only [Int.reduceToNat] at ho6; rw [← Ny438.out] at ho6)); have n0_ := Aside0.mk (Kd.R_lower ho6 (below_size (by repeat (first | (with_reducible first | exact HB.out | apply below_alloc | apply pw_below_drewN | apply below_drew1) | exact HB.out)))); have n1_ := Aside0.mk (below_step (by repeat (first | (with_reducible first | exact HB.out | apply below_alloc | apply pw_below_drewN | apply below_drew1) | exact HB.out)) hb); clear HB; have HO440 := n0_; have HB := n1_; clear n0_ n1_; clear hb ho6))
 repeat (go_quiet (first | (go_at_call 24; (with_reducible refine (impl_BooksValid.calls k _ _ l0 true _ ?side1 ?side2 A2.out).mono ?_); (case side1 => repeat (first | exact HR0.out | (with_reducible refine Kd.C_alloc ?_ _) | (with_reducible refine Kd.C_drewN ?_ _) | (with_reducible refine Kd.C_drew ?_))); (case side2 => exact HC0.out); rintro e w4 ⟨rfl, hb⟩; have n0_ := Aside0.mk (below_step (by repeat (first | (with_reducible first | exact HB.out | apply below_alloc | apply pw_below_drewN | apply below_drew1) | exact HB.out)) hb); clear HB; have HB := n0_; clear n0_; (try clear hb); (try clear hb2); (try clear hk); (try clear hi)) | ((with_reducible refine gate_dst (N := 11) rfl ?_); refine Kd.R_lit (Kd.int .i64) _ 3 ?hg (N := 11) ?hd (xs := ([(-1)] : List Int)) (inner := [.int .i64 (-1)]) (ok := fun _ => True) (okp := fun _ => True) ?hr ?hp (fun _ hk => hk) trivial (Below.refl _ _) (Nat.le_refl _) (by simp) ?_; (case hd => rfl); (case hg => rfl); (case hr => first | (go_simp; done) | (go_simp; rfl)); (case hp => exact (Reps.one (show Kd.M (Kd.int .i64) _ _ _ (-1) [.int .i64 (-1)] from rfl) (Reps.none _ _))); intro v439 w5 ho6 hb hg_ hnew_; clear hg_ hnew_; (first | rw [← Ny438.out] at ho6 | (simp only [Int.reduceToNat] at ho6; rw [← Ny438.out] at ho6)); have n0_ := Aside0.mk (Kd.R_lower ho6 (below_size (by repeat (first | (with_reducible first | exact HB.out | apply below_alloc | apply pw_below_drewN | apply below_drew1) | exact HB.out)))); have n1_ := Aside0.mk (below_step (by repeat (first | (with_reducible first | exact HB.out | apply below_alloc | apply pw_below_drewN | apply below_drew1) | exact HB.out)) hb); clear HB; have HO440 := n0_; have HB := n1_; clear n0_ n1_; clear hb ho6)); try go_wp2_with (first | (go_at_call 24; (with_reducible refine (impl_BooksValid.calls k _ _ l0 true _ ?side1 ?side2 A2.out).mono ?_); (case side1 => repeat (first | exact HR0.out | (with_reducible refine Kd.C_alloc ?_ _) | (with_reducible refine Kd.C_drewN ?_ _) | (with_reducible refine Kd.C_drew ?_))); (case side2 => exact HC0.out); rintro e w4 ⟨rfl, hb⟩; have n0_ := Aside0.mk (below_step (by repeat (first | (with_reducible first | exact HB.out | apply below_alloc | apply pw_below_drewN | apply below_drew1) | exact HB.out)) hb); clear HB; have HB := n0_; clear n0_; (try clear hb); (try clear hb2); (try clear hk); (try clear hi)) | ((with_reducible refine gate_dst (N := 11) rfl ?_); refine Kd.R_lit (Kd.int .i64) _ 3 ?hg (N := 11) ?hd (xs := ([(-1)] : List Int)) (inner := [.int .i64 (-1)]) (ok := fun _ => True) (okp := fun _ => True) ?hr ?hp (fun _ hk => hk) trivial (Below.refl _ _) (Nat.le_refl _) (by simp) ?_; (case hd => rfl); (case hg => rfl); (case hr => first | (go_simp; done) | (go_simp; rfl)); (case hp => exact (Reps.one (show Kd.M (Kd.int .i64) _ _ _ (-1) [.int .i64 (-1)] from rfl) (Reps.none _ _))); intro v439 w5 ho6 hb hg_ hnew_; clear hg_ hnew_; (first | rw [← Ny438.out] at ho6 | (simp only [Int.reduceToNat] at ho6; rw [← Ny438.out] at ho6)); have n0_ := Aside0.mk (Kd.R_lower ho6 (below_size (by repeat (first | (with_reducible first | exact HB.out | apply below_alloc | apply pw_below_drewN | apply below_drew1) | exact HB.out)))); have n1_ := Aside0.mk (below_step (by repeat (first | (with_reducible first | exact HB.out | apply below_alloc | apply pw_below_drewN | apply below_drew1) | exact HB.out)) hb); clear HB; have HO440 := n0_; have HB := n1_; clear n0_ n1_; clear hb ho6)))
 go_loopg [4, 5] k (fun kq v4 v5 w' => ∃ (x4_1 : List Int) (x5_1 : Int), v5 = .int .i64 x5_1 ∧ Aside0 (impl_StemBest.l0 kq l0 x4_1 x5_1 = some (r1, r2)) ∧ Aside0 (kq ≤ k) ∧ Aside0 (Kd.R (Kd.int .i64) 3 w' w.heap.size (fun _ => True) v4 x4_1) ∧ Aside0 (Below w.heap.size w w'))
 case atStart => exact ⟨(y438), (1), (by first | rfl | (simp; done) | (simp [*]; done)), H', ⟨Nat.le_refl _⟩, ⟨by (with_reducible repeat (first | apply Kd.R_alloc | apply Kd.R_drewN | apply Kd.R_drew)); exact HO440.out⟩, ⟨by repeat (first | (with_reducible first | exact HB.out | apply below_alloc | apply pw_below_drewN | apply below_drew1) | exact HB.out)⟩⟩
 case round =>
  clear H'
  try clear p2
  try clear c3
  try clear c4
  obtain ⟨x4_1, x5_1, rfl, HA, HK1, HO_4, HB⟩ := hrel
  cases gk with
  | zero => exact absurd HA.out (by simp [impl_StemBest.l0])
  | succ k1 =>
   have H := HA.out
   clear HA
   simp only [impl_StemBest.l0] at H
   by_cases c7 : x5_1 < (l0.length : Int)
   rotate_left
   ·rw [if_neg c7] at H
    have c7b0 : decide (x5_1 < (l0.length : Int)) = false := decide_eq_false c7
    clear c7
    simp only [Option.some.injEq, Prod.mk.injEq] at H
    obtain ⟨rfl, rfl⟩ := H
    go_wp2
    repeat (go_quiet (fail); try go_wp2)
    go_ret2
    exact ⟨_, by first | rfl | (simp [errW_none, errW_some] <;> rfl) | (simp [*, errW_none, errW_some] <;> rfl), by (with_reducible repeat (first | apply Kd.R_alloc | apply Kd.R_drewN | apply Kd.R_drew)); exact HO_4.out, by repeat (first | (with_reducible first | exact HB.out | apply below_alloc | apply pw_below_drewN | apply below_drew1) | exact HB.out)⟩
   rw [if_pos c7] at H
   have c7b0 : decide (x5_1 < (l0.length : Int)) = true := decide_eq_true c7
   clear c7
   have H' := Aside0.mk H
   clear H
   go_wp2
   repeat (go_quiet (fail); try go_wp2)
   go_loopg [6, 7] k1 (fun kq v6 v7 w' => ∃ (x6_2 : Int) (x7_2 : Int), v6 = .int .i64 x6_2 ∧ v7 = .int .i64 x7_2 ∧ Aside0 (impl_StemBest.l1 kq l0 x4_1 x5_1 x6_2 x7_2 = some (r1, r2)) ∧ Aside0 (kq ≤ k1) ∧ Aside0 (Kd.R (Kd.int .i64) 3 w' w.heap.size (fun _ => True) u4 x4_1) ∧ Aside0 (Below w.heap.size w w'))
   case atStart => exact ⟨(0), (1), (by first | rfl | (simp; done) | (simp [*]; done)), (by first | rfl | (simp; done) | (simp [*]; done)), H', ⟨Nat.le_refl _⟩, ⟨by (with_reducible repeat (first | apply Kd.R_alloc | apply Kd.R_drewN | apply Kd.R_drew)); exact HO_4.out⟩, ⟨by repeat (first | (with_reducible first | exact HB.out | apply below_alloc | apply pw_below_drewN | apply below_drew1) | exact HB.out)⟩⟩
   case round =>
    clear H'
    try clear p2
    try clear c3
    try clear c4
    try clear c7
    try clear c7b0
    try clear p2
    obtain ⟨x6_2, x7_2, rfl, rfl, HA, HK2, HO_4, HB⟩ := hrel
    cases gk with
    | zero => exact absurd HA.out (by simp [impl_StemBest.l1])
    | succ k2 =>
     have H := HA.out
     clear HA
     simp only [impl_StemBest.l1] at H
     by_cases c8 : x7_2 < x5_1
     rotate_left
     ·rw [if_neg c8] at H
      have c8b0 : decide (x7_2 < x5_1) = false := decide_eq_false c8
      clear c8
      by_cases c18 : x4_1.length < 17592186044416
      rotate_left
      ·rw [if_neg c18] at H
       exact absurd H (by simp)
      rw [if_pos c18] at H
      have LMc18 := Aside0.mk c18
      clear c18
      obtain ⟨y441, hy441⟩ : ∃ y_ : List Int, y_ = (x4_1 ++ [x6_2]) := ⟨_, rfl⟩
      replace H : (impl_StemBest.l0 k2 l0 y441 (wrap64 (x5_1 + 1))) = some (r1, r2) := by first | (rw [hy441]; with_reducible exact H) | (have H2_ := (Option.bind_some _ _).symm.trans H; rw [hy441]; with_reducible exact H2_) | (have H2_ := (Option.bind_some _ _).symm.trans H; with_reducible exact H2_) | with_reducible exact H | (rw [hy441]; exact H) | exact H
      have Ny441 := Aside0.mk hy441
      clear hy441
      have H' := Aside0.mk H
      clear H
      go_wp2_with (first | ((with_reducible refine gate_builtin (b := .append) (xs := #[.tmp 43, .tmp 45]) rfl ?_); at_builtin; refine Kd.R_append (Kd.int .i64) (w0 := w) w.heap.size rfl (.tmp 43) (.tmp 45) 29 3 (.int .i64 0) 8 rfl Tryd.underlying29 info3 rfl (by decide) (by omega) u4 x4_1 x6_2 [.int .i64 x6_2] (fun _ => True) (fun _ => False) rfl rfl ?aP (fun _ hk => hk.elim) ?aF ?aO ?aB ?aS ?aL ?_; (case aP => exact rfl); (case aB => exact (by repeat (first | (with_reducible first | exact HB.out | apply below_alloc | apply pw_below_drewN | apply below_drew1) | exact HB.out))); (case aF => exact (fun _ _ => trivial)); (case aO => exact (by (with_reducible repeat (first | apply Kd.R_alloc | apply Kd.R_drewN | apply Kd.R_drew)); exact HO_4.out)); (case aS => exact (below_size (by repeat (first | (with_reducible first | exact HB.out | apply below_alloc | apply pw_below_drewN | apply below_drew1) | exact HB.out)))); (case aL => have := LMc18.out; omega); intro v442 w19 ho hb hg hat; rw [← Ny441.out] at ho; have n0_ := Aside0.mk (hb); have n1_ := Aside0.mk (ho); clear HB; clear HO_4; have HB := n0_; have HO443 := n1_; clear n0_ n1_; clear ho hb hg hat))
      repeat (go_quiet (first | ((with_reducible refine gate_builtin (b := .append) (xs := #[.tmp 43, .tmp 45]) rfl ?_); at_builtin; refine Kd.R_append (Kd.int .i64) (w0 := w) w.heap.size rfl (.tmp 43) (.tmp 45) 29 3 (.int .i64 0) 8 rfl Tryd.underlying29 info3 rfl (by decide) (by omega) u4 x4_1 x6_2 [.int .i64 x6_2] (fun _ => True) (fun _ => False) rfl rfl ?aP (fun _ hk => hk.elim) ?aF ?aO ?aB ?aS ?aL ?_; (case aP => exact rfl); (case aB => exact (by repeat (first | (with_reducible first | exact HB.out | apply below_alloc | apply pw_below_drewN | apply below_drew1) | exact HB.out))); (case aF => exact (fun _ _ => trivial)); (case aO => exact (by (with_reducible repeat (first | apply Kd.R_alloc | apply Kd.R_drewN | apply Kd.R_drew)); exact HO_4.out)); (case aS => exact (below_size (by repeat (first | (with_reducible first | exact HB.out | apply below_alloc | apply pw_below_drewN | apply below_drew1) | exact HB.out)))); (case aL => have := LMc18.out; omega); intro v442 w19 ho hb hg hat; rw [← Ny441.out] at ho; have n0_ := Aside0.mk (hb); have n1_ := Aside0.mk (ho); clear HB; clear HO_4; have HB := n0_; have HO443 := n1_; clear n0_ n1_; clear ho hb hg hat)); try go_wp2_with (first | ((with_reducible refine gate_builtin (b := .append) (xs := #[.tmp 43, .tmp 45]) rfl ?_); at_builtin; refine Kd.R_append (Kd.int .i64) (w0 := w) w.heap.size rfl (.tmp 43) (.tmp 45) 29 3 (.int .i64 0) 8 rfl Tryd.underlying29 info3 rfl (by decide) (by omega) u4 x4_1 x6_2 [.int .i64 x6_2] (fun _ => True) (fun _ => False) rfl rfl ?aP (fun _ hk => hk.elim) ?aF ?aO ?aB ?aS ?aL ?_; (case aP => exact rfl); (case aB => exact (by repeat (first | (with_reducible first | exact HB.out | apply below_alloc | apply pw_below_drewN | apply below_drew1) | exact HB.out))); (case aF => exact (fun _ _ => trivial)); (case aO => exact (by (with_reducible repeat (first | apply Kd.R_alloc | apply Kd.R_drewN | apply Kd.R_drew)); exact HO_4.out)); (case aS => exact (below_size (by repeat (first | (with_reducible first | exact HB.out | apply below_alloc | apply pw_below_drewN | apply below_drew1) | exact HB.out)))); (case aL => have := LMc18.out; omega); intro v442 w19 ho hb hg hat; rw [← Ny441.out] at ho; have n0_ := Aside0.mk (hb); have n1_ := Aside0.mk (ho); clear HB; clear HO_4; have HB := n0_; have HO443 := n1_; clear n0_ n1_; clear ho hb hg hat)))
      go_roundg k2
      case measure => have := HK1.out; have := HK2.out; omega
      case rel => exact ⟨(y441), (wrap64 (x5_1 + 1)), (by first | rfl | (simp; done) | (simp [*]; done)), H', ⟨by have := HK1.out; have := HK2.out; omega⟩, ⟨by (with_reducible repeat (first | apply Kd.R_alloc | apply Kd.R_drewN | apply Kd.R_drew)); exact HO443.out⟩, ⟨by repeat (first | (with_reducible first | exact HB.out | apply below_alloc | apply pw_below_drewN | apply below_drew1) | exact HB.out)⟩⟩
     rw [if_pos c8] at H
     have c8b0 : decide (x7_2 < x5_1) = true := decide_eq_true c8
     clear c8
     by_cases c9 : 0 ≤ x5_1
     rotate_left
     ·rw [if_neg c9] at H
      exact absurd H (by simp)
     rw [if_pos c9] at H
     have c9b0 : decide (0 ≤ x5_1) = true := decide_eq_true c9
     clear c9
     by_cases c10 : x5_1 < (l0.length : Int)
     rotate_left
     ·rw [if_neg c10] at H
      exact absurd H (by simp)
     rw [if_pos c10] at H
     have c10b0 : decide (x5_1 < (l0.length : Int)) = true := decide_eq_true c10
     clear c10
     by_cases c11 : 0 ≤ x7_2
     rotate_left
     ·rw [if_neg c11] at H
      exact absurd H (by simp)
     rw [if_pos c11] at H
     have c11b0 : decide (0 ≤ x7_2) = true := decide_eq_true c11
     clear c11
     by_cases c12 : x7_2 < (l0.length : Int)
     rotate_left
     ·rw [if_neg c12] at H
      exact absurd H (by simp)
     rw [if_pos c12] at H
     have c12b0 : decide (x7_2 < (l0.length : Int)) = true := decide_eq_true c12
     clear c12
     replace H := Option.bind_eq_some_iff.mp H
     obtain ⟨t446, A130, H⟩ := H
     replace H : (if 0 ≤ x6_2 then (if x6_2 < (l0.length : Int) then ((impl_farBetween.f k2 (rdOf ByteArray.empty l0 x5_1) (rdOf ByteArray.empty l0 x6_2)).bind fun t449 => (if t446 < t449 then (impl_StemBest.l1 k2 l0 x4_1 x5_1 x7_2 (wrap64 (x7_2 + 1))) else (impl_StemBest.l1 k2 l0 x4_1 x5_1 x6_2 (wrap64 (x7_2 + 1))))) else (none)) else (none)) = some (r1, r2) := H
     have A13 := Aside0.mk A130
     clear A130
     by_cases c14 : 0 ≤ x6_2
     rotate_left
     ·rw [if_neg c14] at H
      exact absurd H (by simp)
     rw [if_pos c14] at H
     have c14b0 : decide (0 ≤ x6_2) = true := decide_eq_true c14
     clear c14
     by_cases c15 : x6_2 < (l0.length : Int)
     rotate_left
     ·rw [if_neg c15] at H
      exact absurd H (by simp)
     rw [if_pos c15] at H
     have c15b0 : decide (x6_2 < (l0.length : Int)) = true := decide_eq_true c15
     clear c15
     replace H := Option.bind_eq_some_iff.mp H
     obtain ⟨t449, A160, H⟩ := H
     replace H : (if t446 < t449 then (impl_StemBest.l1 k2 l0 x4_1 x5_1 x7_2 (wrap64 (x7_2 + 1))) else (impl_StemBest.l1 k2 l0 x4_1 x5_1 x6_2 (wrap64 (x7_2 + 1)))) = some (r1, r2) := H
     have A16 := Aside0.mk A160
     clear A160
     by_cases c17 : t446 < t449
     rotate_left
     ·rw [if_neg c17] at H
      have c17b0 : decide (t446 < t449) = false := decide_eq_false c17
      clear c17
      have H' := Aside0.mk H
      clear H
      have p444 : 0 ≤ (x5_1 : Int) := of_decide_eq_true (by first | (with_reducible assumption) | assumption)
      have q444 : x5_1 < (l0.length : Int) := of_decide_eq_true (by first | (with_reducible assumption) | assumption)
      obtain ⟨ad444, e444, hx444_0⟩ := Kd.at_string HR0.out x5_1 p444 q444
      cases e444
      replace hx444_0 := (HB.out.cell (World.block_lt_of_cell? w _ hx444_0)).trans hx444_0
      replace p444 := eq_true p444
      replace q444 := eq_true q444
      have p445 : 0 ≤ (x7_2 : Int) := of_decide_eq_true (by first | (with_reducible assumption) | assumption)
      have q445 : x7_2 < (l0.length : Int) := of_decide_eq_true (by first | (with_reducible assumption) | assumption)
      obtain ⟨ad445, e445, hx445_0⟩ := Kd.at_string HR0.out x7_2 p445 q445
      obtain rfl : ad444 = ad445 := (by injection e445)
      replace hx445_0 := (HB.out.cell (World.block_lt_of_cell? w _ hx445_0)).trans hx445_0
      replace p445 := eq_true p445
      replace q445 := eq_true q445
      go_wp2_with (first | (go_at_call 64; (with_reducible refine (impl_farBetween.calls k2 (rdOf ByteArray.empty l0 x5_1) (rdOf ByteArray.empty l0 x7_2) t446 _ A13.out).mono ?_); rintro e w' ⟨rfl, ⟨nd, rfl⟩⟩; (try first | exact ⟨rfl, _, World.drewN_drewN _ _ _⟩ | exact ⟨rfl, _, Eq.trans (World.drewN_drewN _ _ _) (congrArg (World.drewN _) (Nat.add_assoc _ _ _))⟩); have p447 : 0 ≤ (x5_1 : Int) := of_decide_eq_true (by first | (with_reducible assumption) | assumption); have q447 : x5_1 < (l0.length : Int) := of_decide_eq_true (by first | (with_reducible assumption) | assumption); obtain ⟨ad447, e447, hx447_0⟩ := Kd.at_string HR0.out x5_1 p447 q447; obtain rfl : ad444 = ad447 := (by injection e447); replace hx447_0 := (HB.out.cell (World.block_lt_of_cell? w _ hx447_0)).trans hx447_0; replace p447 := eq_true p447; replace q447 := eq_true q447; have p448 : 0 ≤ (x6_2 : Int) := of_decide_eq_true (by first | (with_reducible assumption) | assumption); have q448 : x6_2 < (l0.length : Int) := of_decide_eq_true (by first | (with_reducible assumption) | assumption); obtain ⟨ad448, e448, hx448_0⟩ := Kd.at_string HR0.out x6_2 p448 q448; obtain rfl : ad444 = ad448 := (by injection e448); replace hx448_0 := (HB.out.cell (World.block_lt_of_cell? w _ hx448_0)).trans hx448_0; replace p448 := eq_true p448; replace q448 := eq_true q448) | (go_at_call 64; (with_reducible refine (impl_farBetween.calls k2 (rdOf ByteArray.empty l0 x5_1) (rdOf ByteArray.empty l0 x6_2) t449 _ A16.out).mono ?_); rintro e w' ⟨rfl, ⟨nd, rfl⟩⟩; (try first | exact ⟨rfl, _, World.drewN_drewN _ _ _⟩ | exact ⟨rfl, _, Eq.trans (World.drewN_drewN _ _ _) (congrArg (World.drewN _) (Nat.add_assoc _ _ _))⟩)))
      repeat (go_quiet (first | (go_at_call 64; (with_reducible refine (impl_farBetween.calls k2 (rdOf ByteArray.empty l0 x5_1) (rdOf ByteArray.empty l0 x7_2) t446 _ A13.out).mono ?_); rintro e w' ⟨rfl, ⟨nd, rfl⟩⟩; (try first | exact ⟨rfl, _, World.drewN_drewN _ _ _⟩ | exact ⟨rfl, _, Eq.trans (World.drewN_drewN _ _ _) (congrArg (World.drewN _) (Nat.add_assoc _ _ _))⟩); have p447 : 0 ≤ (x5_1 : Int) := of_decide_eq_true (by first | (with_reducible assumption) | assumption); have q447 : x5_1 < (l0.length : Int) := of_decide_eq_true (by first | (with_reducible assumption) | assumption); obtain ⟨ad447, e447, hx447_0⟩ := Kd.at_string HR0.out x5_1 p447 q447; obtain rfl : ad444 = ad447 := (by injection e447); replace hx447_0 := (HB.out.cell (World.block_lt_of_cell? w _ hx447_0)).trans hx447_0; replace p447 := eq_true p447; replace q447 := eq_true q447; have p448 : 0 ≤ (x6_2 : Int) := of_decide_eq_true (by first | (with_reducible assumption) | assumption); have q448 : x6_2 < (l0.length : Int) := of_decide_eq_true (by first | (with_reducible assumption) | assumption); obtain ⟨ad448, e448, hx448_0⟩ := Kd.at_string HR0.out x6_2 p448 q448; obtain rfl : ad444 = ad448 := (by injection e448); replace hx448_0 := (HB.out.cell (World.block_lt_of_cell? w _ hx448_0)).trans hx448_0; replace p448 := eq_true p448; replace q448 := eq_true q448) | (go_at_call 64; (with_reducible refine (impl_farBetween.calls k2 (rdOf ByteArray.empty l0 x5_1) (rdOf ByteArray.empty l0 x6_2) t449 _ A16.out).mono ?_); rintro e w' ⟨rfl, ⟨nd, rfl⟩⟩; (try first | exact ⟨rfl, _, World.drewN_drewN _ _ _⟩ | exact ⟨rfl, _, Eq.trans (World.drewN_drewN _ _ _) (congrArg (World.drewN _) (Nat.add_assoc _ _ _))⟩))); try go_wp2_with (first | (go_at_call 64; (with_reducible refine (impl_farBetween.calls k2 (rdOf ByteArray.empty l0 x5_1) (rdOf ByteArray.empty l0 x7_2) t446 _ A13.out).mono ?_); rintro e w' ⟨rfl, ⟨nd, rfl⟩⟩; (try first | exact ⟨rfl, _, World.drewN_drewN _ _ _⟩ | exact ⟨rfl, _, Eq.trans (World.drewN_drewN _ _ _) (congrArg (World.drewN _) (Nat.add_assoc _ _ _))⟩); have p447 : 0 ≤ (x5_1 : Int) := of_decide_eq_true (by first | (with_reducible assumption) | assumption); have q447 : x5_1 < (l0.length : Int) := of_decide_eq_true (by first | (with_reducible assumption) | assumption); obtain ⟨ad447, e447, hx447_0⟩ := Kd.at_string HR0.out x5_1 p447 q447; obtain rfl : ad444 = ad447 := (by injection e447); replace hx447_0 := (HB.out.cell (World.block_lt_of_cell? w _ hx447_0)).trans hx447_0; replace p447 := eq_true p447; replace q447 := eq_true q447; have p448 : 0 ≤ (x6_2 : Int) := of_decide_eq_true (by first | (with_reducible assumption) | assumption); have q448 : x6_2 < (l0.length : Int) := of_decide_eq_true (by first | (with_reducible assumption) | assumption); obtain ⟨ad448, e448, hx448_0⟩ := Kd.at_string HR0.out x6_2 p448 q448; obtain rfl : ad444 = ad448 := (by injection e448); replace hx448_0 := (HB.out.cell (World.block_lt_of_cell? w _ hx448_0)).trans hx448_0; replace p448 := eq_true p448; replace q448 := eq_true q448) | (go_at_call 64; (with_reducible refine (impl_farBetween.calls k2 (rdOf ByteArray.empty l0 x5_1) (rdOf ByteArray.empty l0 x6_2) t449 _ A16.out).mono ?_); rintro e w' ⟨rfl, ⟨nd, rfl⟩⟩; (try first | exact ⟨rfl, _, World.drewN_drewN _ _ _⟩ | exact ⟨rfl, _, Eq.trans (World.drewN_drewN _ _ _) (congrArg (World.drewN _) (Nat.add_assoc _ _ _))⟩))))
      go_roundg k2
      case measure => have := HK1.out; have := HK2.out; omega
      case rel => exact ⟨(x6_2), (wrap64 (x7_2 + 1)), (by first | rfl | (simp; done) | (simp [*]; done)), (by first | rfl | (simp; done) | (simp [*]; done)), H', ⟨by have := HK1.out; have := HK2.out; omega⟩, ⟨by (with_reducible repeat (first | apply Kd.R_alloc | apply Kd.R_drewN | apply Kd.R_drew)); exact HO_4.out⟩, ⟨by repeat (first | (with_reducible first | exact HB.out | apply below_alloc | apply pw_below_drewN | apply below_drew1) | exact HB.out)⟩⟩
     rw [if_pos c17] at H
     have c17b0 : decide (t446 < t449) = true := decide_eq_true c17
     clear c17
     have H' := Aside0.mk H
     clear H
     have p444 : 0 ≤ (x5_1 : Int) := of_decide_eq_true (by first | (with_reducible assumption) | assumption)
     have q444 : x5_1 < (l0.length : Int) := of_decide_eq_true (by first | (with_reducible assumption) | assumption)
     obtain ⟨ad444, e444, hx444_0⟩ := Kd.at_string HR0.out x5_1 p444 q444
     cases e444
     replace hx444_0 := (HB.out.cell (World.block_lt_of_cell? w _ hx444_0)).trans hx444_0
     replace p444 := eq_true p444
     replace q444 := eq_true q444
     have p445 : 0 ≤ (x7_2 : Int) := of_decide_eq_true (by first | (with_reducible assumption) | assumption)
     have q445 : x7_2 < (l0.length : Int) := of_decide_eq_true (by first | (with_reducible assumption) | assumption)
     obtain ⟨ad445, e445, hx445_0⟩ := Kd.at_string HR0.out x7_2 p445 q445
     obtain rfl : ad444 = ad445 := (by injection e445)
     replace hx445_0 := (HB.out.cell (World.block_lt_of_cell? w _ hx445_0)).trans hx445_0
     replace p445 := eq_true p445
     replace q445 := eq_true q445
     go_wp2_with (first | (go_at_call 64; (with_reducible refine (impl_farBetween.calls k2 (rdOf ByteArray.empty l0 x5_1) (rdOf ByteArray.empty l0 x7_2) t446 _ A13.out).mono ?_); rintro e w' ⟨rfl, ⟨nd, rfl⟩⟩; (try first | exact ⟨rfl, _, World.drewN_drewN _ _ _⟩ | exact ⟨rfl, _, Eq.trans (World.drewN_drewN _ _ _) (congrArg (World.drewN _) (Nat.add_assoc _ _ _))⟩); have p447 : 0 ≤ (x5_1 : Int) := of_decide_eq_true (by first | (with_reducible assumption) | assumption); have q447 : x5_1 < (l0.length : Int) := of_decide_eq_true (by first | (with_reducible assumption) | assumption); obtain ⟨ad447, e447, hx447_0⟩ := Kd.at_string HR0.out x5_1 p447 q447; obtain rfl : ad444 = ad447 := (by injection e447); replace hx447_0 := (HB.out.cell (World.block_lt_of_cell? w _ hx447_0)).trans hx447_0; replace p447 := eq_true p447; replace q447 := eq_true q447; have p448 : 0 ≤ (x6_2 : Int) := of_decide_eq_true (by first | (with_reducible assumption) | assumption); have q448 : x6_2 < (l0.length : Int) := of_decide_eq_true (by first | (with_reducible assumption) | assumption); obtain ⟨ad448, e448, hx448_0⟩ := Kd.at_string HR0.out x6_2 p448 q448; obtain rfl : ad444 = ad448 := (by injection e448); replace hx448_0 := (HB.out.cell (World.block_lt_of_cell? w _ hx448_0)).trans hx448_0; replace p448 := eq_true p448; replace q448 := eq_true q448) | (go_at_call 64; (with_reducible refine (impl_farBetween.calls k2 (rdOf ByteArray.empty l0 x5_1) (rdOf ByteArray.empty l0 x6_2) t449 _ A16.out).mono ?_); rintro e w' ⟨rfl, ⟨nd, rfl⟩⟩; (try first | exact ⟨rfl, _, World.drewN_drewN _ _ _⟩ | exact ⟨rfl, _, Eq.trans (World.drewN_drewN _ _ _) (congrArg (World.drewN _) (Nat.add_assoc _ _ _))⟩)))
     repeat (go_quiet (first | (go_at_call 64; (with_reducible refine (impl_farBetween.calls k2 (rdOf ByteArray.empty l0 x5_1) (rdOf ByteArray.empty l0 x7_2) t446 _ A13.out).mono ?_); rintro e w' ⟨rfl, ⟨nd, rfl⟩⟩; (try first | exact ⟨rfl, _, World.drewN_drewN _ _ _⟩ | exact ⟨rfl, _, Eq.trans (World.drewN_drewN _ _ _) (congrArg (World.drewN _) (Nat.add_assoc _ _ _))⟩); have p447 : 0 ≤ (x5_1 : Int) := of_decide_eq_true (by first | (with_reducible assumption) | assumption); have q447 : x5_1 < (l0.length : Int) := of_decide_eq_true (by first | (with_reducible assumption) | assumption); obtain ⟨ad447, e447, hx447_0⟩ := Kd.at_string HR0.out x5_1 p447 q447; obtain rfl : ad444 = ad447 := (by injection e447); replace hx447_0 := (HB.out.cell (World.block_lt_of_cell? w _ hx447_0)).trans hx447_0; replace p447 := eq_true p447; replace q447 := eq_true q447; have p448 : 0 ≤ (x6_2 : Int) := of_decide_eq_true (by first | (with_reducible assumption) | assumption); have q448 : x6_2 < (l0.length : Int) := of_decide_eq_true (by first | (with_reducible assumption) | assumption); obtain ⟨ad448, e448, hx448_0⟩ := Kd.at_string HR0.out x6_2 p448 q448; obtain rfl : ad444 = ad448 := (by injection e448); replace hx448_0 := (HB.out.cell (World.block_lt_of_cell? w _ hx448_0)).trans hx448_0; replace p448 := eq_true p448; replace q448 := eq_true q448) | (go_at_call 64; (with_reducible refine (impl_farBetween.calls k2 (rdOf ByteArray.empty l0 x5_1) (rdOf ByteArray.empty l0 x6_2) t449 _ A16.out).mono ?_); rintro e w' ⟨rfl, ⟨nd, rfl⟩⟩; (try first | exact ⟨rfl, _, World.drewN_drewN _ _ _⟩ | exact ⟨rfl, _, Eq.trans (World.drewN_drewN _ _ _) (congrArg (World.drewN _) (Nat.add_assoc _ _ _))⟩))); try go_wp2_with (first | (go_at_call 64; (with_reducible refine (impl_farBetween.calls k2 (rdOf ByteArray.empty l0 x5_1) (rdOf ByteArray.empty l0 x7_2) t446 _ A13.out).mono ?_); rintro e w' ⟨rfl, ⟨nd, rfl⟩⟩; (try first | exact ⟨rfl, _, World.drewN_drewN _ _ _⟩ | exact ⟨rfl, _, Eq.trans (World.drewN_drewN _ _ _) (congrArg (World.drewN _) (Nat.add_assoc _ _ _))⟩); have p447 : 0 ≤ (x5_1 : Int) := of_decide_eq_true (by first | (with_reducible assumption) | assumption); have q447 : x5_1 < (l0.length : Int) := of_decide_eq_true (by first | (with_reducible assumption) | assumption); obtain ⟨ad447, e447, hx447_0⟩ := Kd.at_string HR0.out x5_1 p447 q447; obtain rfl : ad444 = ad447 := (by injection e447); replace hx447_0 := (HB.out.cell (World.block_lt_of_cell? w _ hx447_0)).trans hx447_0; replace p447 := eq_true p447; replace q447 := eq_true q447; have p448 : 0 ≤ (x6_2 : Int) := of_decide_eq_true (by first | (with_reducible assumption) | assumption); have q448 : x6_2 < (l0.length : Int) := of_decide_eq_true (by first | (with_reducible assumption) | assumption); obtain ⟨ad448, e448, hx448_0⟩ := Kd.at_string HR0.out x6_2 p448 q448; obtain rfl : ad444 = ad448 := (by injection e448); replace hx448_0 := (HB.out.cell (World.block_lt_of_cell? w _ hx448_0)).trans hx448_0; replace p448 := eq_true p448; replace q448 := eq_true q448) | (go_at_call 64; (with_reducible refine (impl_farBetween.calls k2 (rdOf ByteArray.empty l0 x5_1) (rdOf ByteArray.empty l0 x6_2) t449 _ A16.out).mono ?_); rintro e w' ⟨rfl, ⟨nd, rfl⟩⟩; (try first | exact ⟨rfl, _, World.drewN_drewN _ _ _⟩ | exact ⟨rfl, _, Eq.trans (World.drewN_drewN _ _ _) (congrArg (World.drewN _) (Nat.add_assoc _ _ _))⟩))))
     go_roundg k2
     case measure => have := HK1.out; have := HK2.out; omega
     case rel => exact ⟨(x7_2), (wrap64 (x7_2 + 1)), (by first | rfl | (simp; done) | (simp [*]; done)), (by first | rfl | (simp; done) | (simp [*]; done)), H', ⟨by have := HK1.out; have := HK2.out; omega⟩, ⟨by (with_reducible repeat (first | apply Kd.R_alloc | apply Kd.R_drewN | apply Kd.R_drew)); exact HO_4.out⟩, ⟨by repeat (first | (with_reducible first | exact HB.out | apply below_alloc | apply pw_below_drewN | apply below_drew1) | exact HB.out)⟩⟩
end Go.Proofs.YtejoneninbdjbaaDoor.E
end
section
namespace Go.Proofs.YtejoneninbdjbaaDoor.E
open Go.RowKit Go.Proofs.YtejoneninbdjbaaDoorW.PrintWords Go.Proofs.YtejoneninbdjbaaDoorW.PrintLast Go.Proofs.YtejoneninbdjbaaDoorW.PrintMore
attribute [local go_sem] max2_int min2_int max_two min_two max_three min_three max_four min_four
set_option linter.unusedVariables false
set_option linter.unusedSimpArgs false
attribute [local go_sem] str_leq_ str_gtr_ str_geq_
mutual
def laws_FnExactStemBest.j0 : Nat → List ByteArray → List Int → Bool → List ByteArray → List Int → Bool → Bool → Option (Bool)
 | 0, _, _, _, _, _, _, _ => none
 | k + 1, x0, x4, x5, x6, x7, x8, x40 => if x40 = true then (some false) else ((laws_toStringS.f k x0).bind fun t466 => ((laws_eqStringS.f k x6 t466).bind fun t469 => (if t469 = true then ((laws_markStringS.f k x6 1).bind fun bt470 => (if bt470.1 < 0 then (laws_FnExactStemBest.j1 k x0 x4 x5 x7 true) else ((laws_eqIntS.f k x7 x4).bind fun t472 => (if t472 = true then (laws_FnExactStemBest.j1 k x0 x4 x5 x7 (x8 != x5)) else (laws_FnExactStemBest.j1 k x0 x4 x5 x7 true))))) else (some false))))
def laws_FnExactStemBest.j1 : Nat → List ByteArray → List Int → Bool → List Int → Bool → Option (Bool)
 | 0, _, _, _, _, _ => none
 | k + 1, x0, x4, x5, x7, x61 => if x61 = true then (some false) else ((laws_markIntS.f k x7 1).bind fun bt473 => ((laws_heldIntS.f k bt473.2 1).bind fun t475 => (if t475 < 0 then (some false) else (if t475 = bt473.1 then ((laws_toStringS.f k x0).bind fun t476 => ((impl_StemBest.f k t476).bind fun bt479 => ((laws_eqIntS.f k bt479.1 x4).bind fun t483 => (if t483 = true then (laws_FnExactStemBest.j2 k bt473.2 bt473.1 (bt479.2 != x5)) else (laws_FnExactStemBest.j2 k bt473.2 bt473.1 true))))) else (some false)))))
def laws_FnExactStemBest.j2 : Nat → List Int → Int → Bool → Option (Bool)
 | 0, _, _, _ => none
 | k + 1, x7, x10, x87 => if x87 = true then (some false) else ((laws_heldIntS.f k x7 1).bind fun t484 => (if t484 < 0 then (some false) else (if t484 = x10 then (some true) else (some false))))
end
def laws_FnExactStemBest.f (k : Nat) (l0 : List ByteArray) : Option (Bool) := (laws_szStringS.f k l0 1048576).bind fun t450 => (if t450 < 0 then (some true) else ((laws_toStringS.f k l0).bind fun t451 => ((spec_StemBest.f k t451).bind fun bt454 => ((laws_toStringS.f k l0).bind fun t458 => ((impl_StemBest.f k t458).bind fun bt461 => ((laws_eqIntS.f k bt461.1 bt454.1).bind fun t465 => (if t465 = true then (laws_FnExactStemBest.j0 k l0 bt454.1 bt454.2 t458 bt461.1 bt461.2 (bt461.2 != bt454.2)) else (laws_FnExactStemBest.j0 k l0 bt454.1 bt454.2 t458 bt461.1 bt461.2 true))))))))
set_option maxHeartbeats 8000000 in
set_option maxRecDepth 100000 in
theorem laws_FnExactStemBest.calls (k : Nat) (A0 : Option Addr) (c0 : Nat) (l0 : List ByteArray) (r : Bool) (w : World) (hr0 : Kd.C Kd.string w A0 l0.length l0) (hc0 : l0.length ≤ c0) (h : laws_FnExactStemBest.f k l0 = some r) :
  Calls Tryd.prog 12 #[.slice A0 l0.length c0] w fun e w' => e = .returned (.bool r) ∧ Below w.heap.size w w' := by
 have HR0 := Aside0.mk hr0
 have HC0 := Aside0.mk hc0
 clear hr0 hc0
 have HB := Aside0.mk (Below.refl w.heap.size w)
 have H : ((laws_szStringS.f k l0 1048576).bind fun t450 => (if t450 < 0 then (some true) else ((laws_toStringS.f k l0).bind fun t451 => ((spec_StemBest.f k t451).bind fun bt454 => ((laws_toStringS.f k l0).bind fun t458 => ((impl_StemBest.f k t458).bind fun bt461 => ((laws_eqIntS.f k bt461.1 bt454.1).bind fun t465 => (if t465 = true then (laws_FnExactStemBest.j0 k l0 bt454.1 bt454.2 t458 bt461.1 bt461.2 (bt461.2 != bt454.2)) else (laws_FnExactStemBest.j0 k l0 bt454.1 bt454.2 t458 bt461.1 bt461.2 true))))))))) = some r := h
 clear h
 replace H := Option.bind_eq_some_iff.mp H
 obtain ⟨t450, A20, H⟩ := H
 replace H : (if t450 < 0 then (some true) else ((laws_toStringS.f k l0).bind fun t451 => ((spec_StemBest.f k t451).bind fun bt454 => ((laws_toStringS.f k l0).bind fun t458 => ((impl_StemBest.f k t458).bind fun bt461 => ((laws_eqIntS.f k bt461.1 bt454.1).bind fun t465 => (if t465 = true then (laws_FnExactStemBest.j0 k l0 bt454.1 bt454.2 t458 bt461.1 bt461.2 (bt461.2 != bt454.2)) else (laws_FnExactStemBest.j0 k l0 bt454.1 bt454.2 t458 bt461.1 bt461.2 true)))))))) = some r := H
 have A2 := Aside0.mk A20
 clear A20
 by_cases c3 : t450 < 0
 ·rw [if_pos c3] at H
  have c3b0 : decide (t450 < 0) = true := decide_eq_true c3
  clear c3
  obtain rfl := Option.some.inj H
  go_enter Tryd.func12, Tryd.ntmps12
  go_wp2_with (first | ((with_reducible refine gate_callee (f := 21) rfl ?_); refine goesL_ (some 16) rfl rfl Tryd.func21 (by kernel_rfl) rfl #[.slice A0 l0.length c0, .int .i64 1048576] rfl (by (try simp only [List.map_toArray, List.map_cons, List.map_nil]); first | done | rfl | (simp only [List.length_drop, List.length_take]; rfl)) ?_; (with_reducible refine (laws_szStringS.calls k _ _ l0 1048576 t450 _ ?side1 ?side2 A2.out).mono ?_); (case side1 => repeat (first | exact HR0.out | (with_reducible refine Kd.C_alloc ?_ _) | (with_reducible refine Kd.C_drewN ?_ _) | (with_reducible refine Kd.C_drew ?_))); (case side2 => exact HC0.out); rintro e w' ⟨rfl, ⟨nd, rfl⟩⟩; refine ⟨_, rfl, ?_⟩))
  go_ret
  exact ⟨by first | rfl | (simp [errW_none, errW_some] <;> rfl) | (simp [*, errW_none, errW_some] <;> rfl), by repeat (first | (with_reducible first | exact HB.out | apply below_alloc | apply pw_below_drewN | apply below_drew1) | exact HB.out)⟩
 rw [if_neg c3] at H
 have c3b0 : decide (t450 < 0) = false := decide_eq_false c3
 clear c3
 replace H := Option.bind_eq_some_iff.mp H
 obtain ⟨t451, A40, H⟩ := H
 replace H : ((spec_StemBest.f k t451).bind fun bt454 => ((laws_toStringS.f k l0).bind fun t458 => ((impl_StemBest.f k t458).bind fun bt461 => ((laws_eqIntS.f k bt461.1 bt454.1).bind fun t465 => (if t465 = true then (laws_FnExactStemBest.j0 k l0 bt454.1 bt454.2 t458 bt461.1 bt461.2 (bt461.2 != bt454.2)) else (laws_FnExactStemBest.j0 k l0 bt454.1 bt454.2 t458 bt461.1 bt461.2 true)))))) = some r := H
 have A4 := Aside0.mk A40
 clear A40
 replace H := Option.bind_eq_some_iff.mp H
 obtain ⟨⟨t454, t455⟩, A50, H⟩ := H
 replace H : ((laws_toStringS.f k l0).bind fun t458 => ((impl_StemBest.f k t458).bind fun bt461 => ((laws_eqIntS.f k bt461.1 t454).bind fun t465 => (if t465 = true then (laws_FnExactStemBest.j0 k l0 t454 t455 t458 bt461.1 bt461.2 (bt461.2 != t455)) else (laws_FnExactStemBest.j0 k l0 t454 t455 t458 bt461.1 bt461.2 true))))) = some r := H
 have A5 := Aside0.mk A50
 clear A50
 replace H := Option.bind_eq_some_iff.mp H
 obtain ⟨t458, A60, H⟩ := H
 replace H : ((impl_StemBest.f k t458).bind fun bt461 => ((laws_eqIntS.f k bt461.1 t454).bind fun t465 => (if t465 = true then (laws_FnExactStemBest.j0 k l0 t454 t455 t458 bt461.1 bt461.2 (bt461.2 != t455)) else (laws_FnExactStemBest.j0 k l0 t454 t455 t458 bt461.1 bt461.2 true)))) = some r := H
 have A6 := Aside0.mk A60
 clear A60
 replace H := Option.bind_eq_some_iff.mp H
 obtain ⟨⟨t461, t462⟩, A70, H⟩ := H
 replace H : ((laws_eqIntS.f k t461 t454).bind fun t465 => (if t465 = true then (laws_FnExactStemBest.j0 k l0 t454 t455 t458 t461 t462 (t462 != t455)) else (laws_FnExactStemBest.j0 k l0 t454 t455 t458 t461 t462 true))) = some r := H
 have A7 := Aside0.mk A70
 clear A70
 have HC8 := Aside0.mk H
 clear H
 go_enter Tryd.func12, Tryd.ntmps12
 go_upto_region 8 with (first | ((with_reducible refine gate_callee (f := 21) rfl ?_); refine goesL_ (some 16) rfl rfl Tryd.func21 (by kernel_rfl) rfl #[.slice A0 l0.length c0, .int .i64 1048576] rfl (by (try simp only [List.map_toArray, List.map_cons, List.map_nil]); first | done | rfl | (simp only [List.length_drop, List.length_take]; rfl)) ?_; (with_reducible refine (laws_szStringS.calls k _ _ l0 1048576 t450 _ ?side1 ?side2 A2.out).mono ?_); (case side1 => repeat (first | exact HR0.out | (with_reducible refine Kd.C_alloc ?_ _) | (with_reducible refine Kd.C_drewN ?_ _) | (with_reducible refine Kd.C_drew ?_))); (case side2 => exact HC0.out); rintro e w' ⟨rfl, ⟨nd, rfl⟩⟩; refine ⟨_, rfl, ?_⟩) | ((with_reducible refine gate_callee (f := 23) rfl ?_); refine goesL_ (some 21) rfl rfl Tryd.func23 (by kernel_rfl) rfl #[.slice A0 l0.length c0] rfl (by (try simp only [List.map_toArray, List.map_cons, List.map_nil]); first | done | rfl | (simp only [List.length_drop, List.length_take]; rfl)) ?_; (with_reducible refine (laws_toStringS.calls k _ _ l0 t451 _ ?side1 ?side2 A4.out).mono ?_); (case side1 => repeat (first | exact HR0.out | (with_reducible refine Kd.C_alloc ?_ _) | (with_reducible refine Kd.C_drewN ?_ _) | (with_reducible refine Kd.C_drew ?_))); (case side2 => exact HC0.out); rintro e w9 ⟨v452, rfl, ho0, hb⟩; refine ⟨_, rfl, ?_⟩; have n0_ := Aside0.mk (Kd.R_lower ho0 (below_size (by repeat (first | (with_reducible first | exact HB.out | apply below_alloc | apply pw_below_drewN | apply below_drew1) | exact HB.out)))); have n1_ := Aside0.mk (below_step (by repeat (first | (with_reducible first | exact HB.out | apply below_alloc | apply pw_below_drewN | apply below_drew1) | exact HB.out)) hb); clear HB; have HO453 := n0_; have HB := n1_; clear n0_ n1_; (try clear hb); (try clear hb2); (try clear hk); (try clear hi); (try clear ho0); obtain ⟨Ao10, co10, eo10⟩ := Kd.R_slice HO453.out; subst eo10) | ((with_reducible refine gate_callee (f := 45) rfl ?_); refine goesL_ (some 22) rfl rfl Tryd.func45 (by kernel_rfl) rfl #[.slice Ao10 t451.length co10] rfl (by (try simp only [List.map_toArray, List.map_cons, List.map_nil]); first | done | rfl | (simp only [List.length_drop, List.length_take]; rfl)) ?_; (with_reducible refine (spec_StemBest.calls k _ _ t451 t454 t455 _ ?side1 ?side2 A5.out).mono ?_); (case side1 => repeat (first | exact (Kd.R_reads' HO453.out).2.2 | (with_reducible refine Kd.C_alloc ?_ _) | (with_reducible refine Kd.C_drewN ?_ _) | (with_reducible refine Kd.C_drew ?_))); (case side2 => exact (Kd.R_reads' HO453.out).2.1); rintro e w11 ⟨v456, rfl, ho0, hb⟩; refine ⟨_, rfl, ?_⟩; have n0_ := Aside0.mk (Kd.R_below (by (with_reducible repeat (first | apply Kd.R_alloc | apply Kd.R_drewN | apply Kd.R_drew)); exact HO453.out) hb); have n1_ := Aside0.mk (Kd.R_lower ho0 (below_size (by repeat (first | (with_reducible first | exact HB.out | apply below_alloc | apply pw_below_drewN | apply below_drew1) | exact HB.out)))); have n2_ := Aside0.mk (below_step (by repeat (first | (with_reducible first | exact HB.out | apply below_alloc | apply pw_below_drewN | apply below_drew1) | exact HB.out)) hb); clear HO453; clear HB; have HO453 := n0_; have HO457 := n1_; have HB := n2_; clear n0_ n1_ n2_; (try clear hb); (try clear hb2); (try clear hk); (try clear hi); (try clear ho0)) | ((with_reducible refine gate_callee (f := 23) rfl ?_); refine goesL_ (some 26) rfl rfl Tryd.func23 (by kernel_rfl) rfl #[.slice A0 l0.length c0] rfl (by (try simp only [List.map_toArray, List.map_cons, List.map_nil]); first | done | rfl | (simp only [List.length_drop, List.length_take]; rfl)) ?_; (with_reducible refine (laws_toStringS.calls k _ _ l0 t458 _ ?side1 ?side2 A6.out).mono ?_); (case side1 => repeat (first | exact (Kd.C_below HR0.out HB.out) | (with_reducible refine Kd.C_alloc ?_ _) | (with_reducible refine Kd.C_drewN ?_ _) | (with_reducible refine Kd.C_drew ?_))); (case side2 => exact HC0.out); rintro e w12 ⟨v459, rfl, ho0, hb⟩; refine ⟨_, rfl, ?_⟩; have n0_ := Aside0.mk (Kd.R_elder' (by (with_reducible repeat (first | apply Kd.R_alloc | apply Kd.R_drewN | apply Kd.R_drew)); exact HO453.out) (Kd.R_base ho0) hb); have n1_ := Aside0.mk (Kd.R_below (by (with_reducible repeat (first | apply Kd.R_alloc | apply Kd.R_drewN | apply Kd.R_drew)); exact HO457.out) hb); have n2_ := Aside0.mk (Kd.R_lower (Kd.R_new' ho0 (Kd.R_lt (by (with_reducible repeat (first | apply Kd.R_alloc | apply Kd.R_drewN | apply Kd.R_drew)); exact HO453.out))) (below_size (by repeat (first | (with_reducible first | exact HB.out | apply below_alloc | apply pw_below_drewN | apply below_drew1) | exact HB.out)))); have n3_ := Aside0.mk (below_step (by repeat (first | (with_reducible first | exact HB.out | apply below_alloc | apply pw_below_drewN | apply below_drew1) | exact HB.out)) hb); clear HO453; clear HO457; clear HB; have HO453 := n0_; have HO457 := n1_; have HO460 := n2_; have HB := n3_; clear n0_ n1_ n2_ n3_; (try clear hb); (try clear hb2); (try clear hk); (try clear hi); (try clear ho0); obtain ⟨Ao13, co13, eo13⟩ := Kd.R_slice HO460.out; subst eo13) | ((with_reducible refine gate_callee (f := 46) rfl ?_); refine goesL_ (some 29) rfl rfl Tryd.func46 (by kernel_rfl) rfl #[.slice Ao13 t458.length co13] rfl (by (try simp only [List.map_toArray, List.map_cons, List.map_nil]); first | done | rfl | (simp only [List.length_drop, List.length_take]; rfl)) ?_; (with_reducible refine (impl_StemBest.calls k _ _ t458 t461 t462 _ ?side1 ?side2 A7.out).mono ?_); (case side1 => repeat (first | exact (Kd.R_reads' HO460.out).2.2 | (with_reducible refine Kd.C_alloc ?_ _) | (with_reducible refine Kd.C_drewN ?_ _) | (with_reducible refine Kd.C_drew ?_))); (case side2 => exact (Kd.R_reads' HO460.out).2.1); rintro e w14 ⟨v463, rfl, ho0, hb⟩; refine ⟨_, rfl, ?_⟩; have n0_ := Aside0.mk (Kd.R_below (by (with_reducible repeat (first | apply Kd.R_alloc | apply Kd.R_drewN | apply Kd.R_drew)); exact HO453.out) hb); have n1_ := Aside0.mk (Kd.R_elder' (by (with_reducible repeat (first | apply Kd.R_alloc | apply Kd.R_drewN | apply Kd.R_drew)); exact HO457.out) (Kd.R_base ho0) hb); have n2_ := Aside0.mk (Kd.R_below (by (with_reducible repeat (first | apply Kd.R_alloc | apply Kd.R_drewN | apply Kd.R_drew)); exact HO460.out) hb); have n3_ := Aside0.mk (Kd.R_lower (Kd.R_new' ho0 (Kd.R_lt (by (with_reducible repeat (first | apply Kd.R_alloc | apply Kd.R_drewN | apply Kd.R_drew)); exact HO457.out))) (below_size (by repeat (first | (with_reducible first | exact HB.out | apply below_alloc | apply pw_below_drewN | apply below_drew1) | exact HB.out)))); have n4_ := Aside0.mk (below_step (by repeat (first | (with_reducible first | exact HB.out | apply below_alloc | apply pw_below_drewN | apply below_drew1) | exact HB.out)) hb); clear HO453; clear HO457; clear HO460; clear HB; have HO453 := n0_; have HO457 := n1_; have HO460 := n2_; have HO464 := n3_; have HB := n4_; clear n0_ n1_ n2_ n3_ n4_; (try clear hb); (try clear hb2); (try clear hk); (try clear hi); (try clear ho0)))
 (try simp only [Act.put, List.setIfInBounds_toArray, List.set_cons_zero, List.set_cons_succ])
 go_cut [40] (fun v40 wc => ∃ (kq : Nat) (x40_7 : Bool), v40 = .bool x40_7 ∧ Aside0 (laws_FnExactStemBest.j0 kq l0 t454 t455 t458 t461 t462 x40_7 = some r) ∧ Aside0 (kq ≤ k) ∧ Aside0 (Kd.R (Kd.int .i64) 3 wc w.heap.size (fun k_ => some k_ ≠ (v463 : Value).ownBlock) v456 t454) ∧ Aside0 (Kd.R Kd.string 9 wc w.heap.size (fun _ => True) (.slice Ao13 t458.length co13) t458) ∧ Aside0 (Kd.R (Kd.int .i64) 3 wc w.heap.size (fun k_ => some k_ ≠ (v456 : Value).ownBlock) v463 t461) ∧ Aside0 (Below w.heap.size w wc))
 case first =>
  have H := HC8.out
  clear HC8
  replace H := Option.bind_eq_some_iff.mp H
  obtain ⟨t465, A150, H⟩ := H
  replace H : (if t465 = true then (laws_FnExactStemBest.j0 k l0 t454 t455 t458 t461 t462 (t462 != t455)) else (laws_FnExactStemBest.j0 k l0 t454 t455 t458 t461 t462 true)) = some r := H
  have A15 := Aside0.mk A150
  clear A150
  by_cases c16 : t465 = true
  ·subst c16
   have H1 : (laws_FnExactStemBest.j0 k l0 t454 t455 t458 t461 t462 (t462 != t455)) = some r := by rw [if_pos rfl] at H; exact H
   clear H
   have H := H1
   clear H1
   have H' := Aside0.mk H
   clear H
   obtain ⟨Ao17, co17, eo17⟩ := Kd.R_slice HO464.out
   subst eo17
   obtain ⟨Ao18, co18, eo18⟩ := Kd.R_slice HO457.out
   subst eo18
   go_wp2_with (first | ((with_reducible refine gate_callee (f := 31) rfl ?_); refine goesL_ (some 34) rfl rfl Tryd.func31 (by kernel_rfl) rfl #[.slice Ao17 t461.length co17, .slice Ao18 t454.length co18] rfl (by (try simp only [List.map_toArray, List.map_cons, List.map_nil]); first | done | rfl | (simp only [List.length_drop, List.length_take]; rfl)) ?_; (with_reducible refine (laws_eqIntS.calls k _ _ t461 _ _ t454 true _ ?side1 ?side2 ?side3 ?side4 A15.out).mono ?_); (case side1 => repeat (first | exact (Kd.R_reads' HO464.out).2.2 | (with_reducible refine Kd.C_alloc ?_ _) | (with_reducible refine Kd.C_drewN ?_ _) | (with_reducible refine Kd.C_drew ?_))); (case side2 => exact (Kd.R_reads' HO464.out).2.1); (case side3 => repeat (first | exact (Kd.R_reads' HO457.out).2.2 | (with_reducible refine Kd.C_alloc ?_ _) | (with_reducible refine Kd.C_drewN ?_ _) | (with_reducible refine Kd.C_drew ?_))); (case side4 => exact (Kd.R_reads' HO457.out).2.1); rintro e w' ⟨rfl, ⟨nd, rfl⟩⟩; refine ⟨_, rfl, ?_⟩))
   go_meet
   case rel => exact ⟨_, ((t462 != t455)), (by first | rfl | (simp; done) | (simp [*]; done)), H', ⟨by first | omega | exact Nat.le_refl _⟩, ⟨by (with_reducible repeat (first | apply Kd.R_alloc | apply Kd.R_drewN | apply Kd.R_drew)); exact Kd.R_mono HO457.out (fun _ hk => hk.2)⟩, ⟨by (with_reducible repeat (first | apply Kd.R_alloc | apply Kd.R_drewN | apply Kd.R_drew)); exact Kd.R_mono HO460.out (fun _ hk => trivial)⟩, ⟨by (with_reducible repeat (first | apply Kd.R_alloc | apply Kd.R_drewN | apply Kd.R_drew)); exact Kd.R_mono HO464.out (fun _ hk => hk.2)⟩, ⟨by repeat (first | (with_reducible first | exact HB.out | apply below_alloc | apply pw_below_drewN | apply below_drew1) | exact HB.out)⟩⟩
  replace c16 := Bool.eq_false_iff.mpr c16
  subst c16
  have H1 : (laws_FnExactStemBest.j0 k l0 t454 t455 t458 t461 t462 true) = some r := by rw [if_neg (show ¬ (false = true) by decide)] at H; exact H
  clear H
  have H := H1
  clear H1
  have H' := Aside0.mk H
  clear H
  obtain ⟨Ao19, co19, eo19⟩ := Kd.R_slice HO464.out
  subst eo19
  obtain ⟨Ao20, co20, eo20⟩ := Kd.R_slice HO457.out
  subst eo20
  go_wp2_with (first | ((with_reducible refine gate_callee (f := 31) rfl ?_); refine goesL_ (some 34) rfl rfl Tryd.func31 (by kernel_rfl) rfl #[.slice Ao19 t461.length co19, .slice Ao20 t454.length co20] rfl (by (try simp only [List.map_toArray, List.map_cons, List.map_nil]); first | done | rfl | (simp only [List.length_drop, List.length_take]; rfl)) ?_; (with_reducible refine (laws_eqIntS.calls k _ _ t461 _ _ t454 false _ ?side1 ?side2 ?side3 ?side4 A15.out).mono ?_); (case side1 => repeat (first | exact (Kd.R_reads' HO464.out).2.2 | (with_reducible refine Kd.C_alloc ?_ _) | (with_reducible refine Kd.C_drewN ?_ _) | (with_reducible refine Kd.C_drew ?_))); (case side2 => exact (Kd.R_reads' HO464.out).2.1); (case side3 => repeat (first | exact (Kd.R_reads' HO457.out).2.2 | (with_reducible refine Kd.C_alloc ?_ _) | (with_reducible refine Kd.C_drewN ?_ _) | (with_reducible refine Kd.C_drew ?_))); (case side4 => exact (Kd.R_reads' HO457.out).2.1); rintro e w' ⟨rfl, ⟨nd, rfl⟩⟩; refine ⟨_, rfl, ?_⟩))
  go_meet
  case rel => exact ⟨_, (true), (by first | rfl | (simp; done) | (simp [*]; done)), H', ⟨by first | omega | exact Nat.le_refl _⟩, ⟨by (with_reducible repeat (first | apply Kd.R_alloc | apply Kd.R_drewN | apply Kd.R_drew)); exact Kd.R_mono HO457.out (fun _ hk => hk.2)⟩, ⟨by (with_reducible repeat (first | apply Kd.R_alloc | apply Kd.R_drewN | apply Kd.R_drew)); exact Kd.R_mono HO460.out (fun _ hk => trivial)⟩, ⟨by (with_reducible repeat (first | apply Kd.R_alloc | apply Kd.R_drewN | apply Kd.R_drew)); exact Kd.R_mono HO464.out (fun _ hk => hk.2)⟩, ⟨by repeat (first | (with_reducible first | exact HB.out | apply below_alloc | apply pw_below_drewN | apply below_drew1) | exact HB.out)⟩⟩
 case rest =>
  clear HC8
  try clear c1
  try clear c2
  try clear p2
  try clear c3
  try clear c3b0
  try clear c4
  try clear c12
  try clear c16
  obtain ⟨kq, x40_7, rfl, HA, HJ7, HO_4, HO_6, HO_7, HB⟩ := hcut
  cases kq with
  | zero => exact absurd HA.out (by simp [laws_FnExactStemBest.j0])
  | succ kj7 =>
   have H := HA.out
   clear HA
   simp only [laws_FnExactStemBest.j0] at H
   by_cases c21 : x40_7 = true
   ·subst c21
    have H1 : (some false) = some r := by rw [if_pos rfl] at H; exact H
    clear H
    have H := H1
    clear H1
    obtain rfl := Option.some.inj H
    go_wp2
    go_ret
    exact ⟨by first | rfl | (simp [errW_none, errW_some] <;> rfl) | (simp [*, errW_none, errW_some] <;> rfl), by repeat (first | (with_reducible first | exact HB.out | apply below_alloc | apply pw_below_drewN | apply below_drew1) | exact HB.out)⟩
   replace c21 := Bool.eq_false_iff.mpr c21
   subst c21
   have H1 : ((laws_toStringS.f kj7 l0).bind fun t466 => ((laws_eqStringS.f kj7 t458 t466).bind fun t469 => (if t469 = true then ((laws_markStringS.f kj7 t458 1).bind fun bt470 => (if bt470.1 < 0 then (laws_FnExactStemBest.j1 kj7 l0 t454 t455 t461 true) else ((laws_eqIntS.f kj7 t461 t454).bind fun t472 => (if t472 = true then (laws_FnExactStemBest.j1 kj7 l0 t454 t455 t461 (t462 != t455)) else (laws_FnExactStemBest.j1 kj7 l0 t454 t455 t461 true))))) else (some false)))) = some r := by rw [if_neg (show ¬ (false = true) by decide)] at H; exact H
   clear H
   have H := H1
   clear H1
   replace H := Option.bind_eq_some_iff.mp H
   obtain ⟨t466, A220, H⟩ := H
   replace H : ((laws_eqStringS.f kj7 t458 t466).bind fun t469 => (if t469 = true then ((laws_markStringS.f kj7 t458 1).bind fun bt470 => (if bt470.1 < 0 then (laws_FnExactStemBest.j1 kj7 l0 t454 t455 t461 true) else ((laws_eqIntS.f kj7 t461 t454).bind fun t472 => (if t472 = true then (laws_FnExactStemBest.j1 kj7 l0 t454 t455 t461 (t462 != t455)) else (laws_FnExactStemBest.j1 kj7 l0 t454 t455 t461 true))))) else (some false))) = some r := H
   have A22 := Aside0.mk A220
   clear A220
   replace H := Option.bind_eq_some_iff.mp H
   obtain ⟨t469, A230, H⟩ := H
   replace H : (if t469 = true then ((laws_markStringS.f kj7 t458 1).bind fun bt470 => (if bt470.1 < 0 then (laws_FnExactStemBest.j1 kj7 l0 t454 t455 t461 true) else ((laws_eqIntS.f kj7 t461 t454).bind fun t472 => (if t472 = true then (laws_FnExactStemBest.j1 kj7 l0 t454 t455 t461 (t462 != t455)) else (laws_FnExactStemBest.j1 kj7 l0 t454 t455 t461 true))))) else (some false)) = some r := H
   have A23 := Aside0.mk A230
   clear A230
   by_cases c24 : t469 = true
   rotate_left
   ·replace c24 := Bool.eq_false_iff.mpr c24
    subst c24
    have H1 : (some false) = some r := by rw [if_neg (show ¬ (false = true) by decide)] at H; exact H
    clear H
    have H := H1
    clear H1
    obtain rfl := Option.some.inj H
    go_wp2_with (first | ((with_reducible refine gate_callee (f := 23) rfl ?_); refine goesL_ (some 43) rfl rfl Tryd.func23 (by kernel_rfl) rfl #[.slice A0 l0.length c0] rfl (by (try simp only [List.map_toArray, List.map_cons, List.map_nil]); first | done | rfl | (simp only [List.length_drop, List.length_take]; rfl)) ?_; (with_reducible refine (laws_toStringS.calls kj7 _ _ l0 t466 _ ?side1 ?side2 A22.out).mono ?_); (case side1 => repeat (first | exact (Kd.C_below HR0.out HB.out) | (with_reducible refine Kd.C_alloc ?_ _) | (with_reducible refine Kd.C_drewN ?_ _) | (with_reducible refine Kd.C_drew ?_))); (case side2 => exact HC0.out); rintro e w64 ⟨v467, rfl, ho0, hb⟩; refine ⟨_, rfl, ?_⟩; have n0_ := Aside0.mk (Kd.R_below (by (with_reducible repeat (first | apply Kd.R_alloc | apply Kd.R_drewN | apply Kd.R_drew)); exact HO_4.out) hb); have n1_ := Aside0.mk (Kd.R_elder' (by (with_reducible repeat (first | apply Kd.R_alloc | apply Kd.R_drewN | apply Kd.R_drew)); exact HO_6.out) (Kd.R_base ho0) hb); have n2_ := Aside0.mk (Kd.R_below (by (with_reducible repeat (first | apply Kd.R_alloc | apply Kd.R_drewN | apply Kd.R_drew)); exact HO_7.out) hb); have n3_ := Aside0.mk (Kd.R_lower (Kd.R_new' ho0 (Kd.R_lt (by (with_reducible repeat (first | apply Kd.R_alloc | apply Kd.R_drewN | apply Kd.R_drew)); exact HO_6.out))) (below_size (by repeat (first | (with_reducible first | exact HB.out | apply below_alloc | apply pw_below_drewN | apply below_drew1) | exact HB.out)))); have n4_ := Aside0.mk (below_step (by repeat (first | (with_reducible first | exact HB.out | apply below_alloc | apply pw_below_drewN | apply below_drew1) | exact HB.out)) hb); clear HO_4; clear HO_6; clear HO_7; clear HB; have HO_4 := n0_; have HO_6 := n1_; have HO_7 := n2_; have HO468 := n3_; have HB := n4_; clear n0_ n1_ n2_ n3_ n4_; (try clear hb); (try clear hb2); (try clear hk); (try clear hi); (try clear ho0); obtain ⟨Ao65, co65, eo65⟩ := Kd.R_slice HO468.out; subst eo65) | ((with_reducible refine gate_callee (f := 25) rfl ?_); refine goesL_ (some 44) rfl rfl Tryd.func25 (by kernel_rfl) rfl #[.slice Ao13 t458.length co13, .slice Ao65 t466.length co65] rfl (by (try simp only [List.map_toArray, List.map_cons, List.map_nil]); first | done | rfl | (simp only [List.length_drop, List.length_take]; rfl)) ?_; (with_reducible refine (laws_eqStringS.calls kj7 _ _ t458 _ _ t466 false _ ?side1 ?side2 ?side3 ?side4 A23.out).mono ?_); (case side1 => repeat (first | exact (Kd.R_reads' HO_6.out).2.2 | (with_reducible refine Kd.C_alloc ?_ _) | (with_reducible refine Kd.C_drewN ?_ _) | (with_reducible refine Kd.C_drew ?_))); (case side2 => exact (Kd.R_reads' HO_6.out).2.1); (case side3 => repeat (first | exact (Kd.R_reads' HO468.out).2.2 | (with_reducible refine Kd.C_alloc ?_ _) | (with_reducible refine Kd.C_drewN ?_ _) | (with_reducible refine Kd.C_drew ?_))); (case side4 => exact (Kd.R_reads' HO468.out).2.1); rintro e w' ⟨rfl, ⟨nd, rfl⟩⟩; refine ⟨_, rfl, ?_⟩))
    go_ret
    exact ⟨by first | rfl | (simp [errW_none, errW_some] <;> rfl) | (simp [*, errW_none, errW_some] <;> rfl), by repeat (first | (with_reducible first | exact HB.out | apply below_alloc | apply pw_below_drewN | apply below_drew1) | exact HB.out)⟩
   subst c24
   have H1 : ((laws_markStringS.f kj7 t458 1).bind fun bt470 => (if bt470.1 < 0 then (laws_FnExactStemBest.j1 kj7 l0 t454 t455 t461 true) else ((laws_eqIntS.f kj7 t461 t454).bind fun t472 => (if t472 = true then (laws_FnExactStemBest.j1 kj7 l0 t454 t455 t461 (t462 != t455)) else (laws_FnExactStemBest.j1 kj7 l0 t454 t455 t461 true))))) = some r := by rw [if_pos rfl] at H; exact H
   clear H
   have H := H1
   clear H1
   replace H := Option.bind_eq_some_iff.mp H
   obtain ⟨⟨t470, t471⟩, A250, H⟩ := H
   replace H : (if t470 < 0 then (laws_FnExactStemBest.j1 kj7 l0 t454 t455 t461 true) else ((laws_eqIntS.f kj7 t461 t454).bind fun t472 => (if t472 = true then (laws_FnExactStemBest.j1 kj7 l0 t454 t455 t461 (t462 != t455)) else (laws_FnExactStemBest.j1 kj7 l0 t454 t455 t461 true)))) = some r := H
   have A25 := Aside0.mk A250
   clear A250
   have HC26 := Aside0.mk H
   clear H
   go_upto_region 14 with (first | ((with_reducible refine gate_callee (f := 23) rfl ?_); refine goesL_ (some 43) rfl rfl Tryd.func23 (by kernel_rfl) rfl #[.slice A0 l0.length c0] rfl (by (try simp only [List.map_toArray, List.map_cons, List.map_nil]); first | done | rfl | (simp only [List.length_drop, List.length_take]; rfl)) ?_; (with_reducible refine (laws_toStringS.calls kj7 _ _ l0 t466 _ ?side1 ?side2 A22.out).mono ?_); (case side1 => repeat (first | exact (Kd.C_below HR0.out HB.out) | (with_reducible refine Kd.C_alloc ?_ _) | (with_reducible refine Kd.C_drewN ?_ _) | (with_reducible refine Kd.C_drew ?_))); (case side2 => exact HC0.out); rintro e w27 ⟨v467, rfl, ho0, hb⟩; refine ⟨_, rfl, ?_⟩; have n0_ := Aside0.mk (Kd.R_below (by (with_reducible repeat (first | apply Kd.R_alloc | apply Kd.R_drewN | apply Kd.R_drew)); exact HO_4.out) hb); have n1_ := Aside0.mk (Kd.R_elder' (by (with_reducible repeat (first | apply Kd.R_alloc | apply Kd.R_drewN | apply Kd.R_drew)); exact HO_6.out) (Kd.R_base ho0) hb); have n2_ := Aside0.mk (Kd.R_below (by (with_reducible repeat (first | apply Kd.R_alloc | apply Kd.R_drewN | apply Kd.R_drew)); exact HO_7.out) hb); have n3_ := Aside0.mk (Kd.R_lower (Kd.R_new' ho0 (Kd.R_lt (by (with_reducible repeat (first | apply Kd.R_alloc | apply Kd.R_drewN | apply Kd.R_drew)); exact HO_6.out))) (below_size (by repeat (first | (with_reducible first | exact HB.out | apply below_alloc | apply pw_below_drewN | apply below_drew1) | exact HB.out)))); have n4_ := Aside0.mk (below_step (by repeat (first | (with_reducible first | exact HB.out | apply below_alloc | apply pw_below_drewN | apply below_drew1) | exact HB.out)) hb); clear HO_4; clear HO_6; clear HO_7; clear HB; have HO_4 := n0_; have HO_6 := n1_; have HO_7 := n2_; have HO468 := n3_; have HB := n4_; clear n0_ n1_ n2_ n3_ n4_; (try clear hb); (try clear hb2); (try clear hk); (try clear hi); (try clear ho0); obtain ⟨Ao28, co28, eo28⟩ := Kd.R_slice HO468.out; subst eo28) | ((with_reducible refine gate_callee (f := 25) rfl ?_); refine goesL_ (some 44) rfl rfl Tryd.func25 (by kernel_rfl) rfl #[.slice Ao13 t458.length co13, .slice Ao28 t466.length co28] rfl (by (try simp only [List.map_toArray, List.map_cons, List.map_nil]); first | done | rfl | (simp only [List.length_drop, List.length_take]; rfl)) ?_; (with_reducible refine (laws_eqStringS.calls kj7 _ _ t458 _ _ t466 true _ ?side1 ?side2 ?side3 ?side4 A23.out).mono ?_); (case side1 => repeat (first | exact (Kd.R_reads' HO_6.out).2.2 | (with_reducible refine Kd.C_alloc ?_ _) | (with_reducible refine Kd.C_drewN ?_ _) | (with_reducible refine Kd.C_drew ?_))); (case side2 => exact (Kd.R_reads' HO_6.out).2.1); (case side3 => repeat (first | exact (Kd.R_reads' HO468.out).2.2 | (with_reducible refine Kd.C_alloc ?_ _) | (with_reducible refine Kd.C_drewN ?_ _) | (with_reducible refine Kd.C_drew ?_))); (case side4 => exact (Kd.R_reads' HO468.out).2.1); rintro e w' ⟨rfl, ⟨nd, rfl⟩⟩; refine ⟨_, rfl, ?_⟩) | ((with_reducible refine gate_callee (f := 42) rfl ?_); refine goesL_ (some 48) rfl rfl Tryd.func42 (by kernel_rfl) rfl #[.slice Ao13 t458.length co13, .int .i64 1] rfl (by (try simp only [List.map_toArray, List.map_cons, List.map_nil]); first | done | rfl | (simp only [List.length_drop, List.length_take]; rfl)) ?_; (with_reducible refine (laws_markStringS.calls kj7 (fun k_ => some k_ = (.slice Ao13 t458.length co13 : Value).ownBlock) (.slice Ao13 t458.length co13) t458 1 t470 t471 w _ ?side1 ?side2 A25.out).mono ?_); (case side1 => repeat (first | (with_reducible first | exact HB.out | apply below_alloc | apply pw_below_drewN | apply below_drew1) | exact HB.out)); (case side2 => exact Kd.R_tight rfl HO_6.out); rintro e w29 ⟨rfl, hy0, hb, hkp⟩; refine ⟨_, rfl, ?_⟩; have n0_ := Aside0.mk (Kd.R_mono (ok' := fun k_ => some k_ ≠ (v463 : Value).ownBlock) (Kd.R_keptB ((Kd.R_apart' HO_4.out (Kd.R_typed HO_6.out) (by decide))) hkp (fun k_ hk_ hs_ => (hk_.2) hs_)) (fun k_ hk_ => hk_.1.1)); have n1_ := Aside0.mk (Kd.R_reok rfl hy0 (fun k_ e_ => HO_6.out.1 k_ e_)); have n2_ := Aside0.mk (Kd.R_mono (ok' := fun k_ => some k_ ≠ (v456 : Value).ownBlock) (Kd.R_keptB ((Kd.R_apart' HO_7.out (Kd.R_typed HO_6.out) (by decide))) hkp (fun k_ hk_ hs_ => (hk_.2) hs_)) (fun k_ hk_ => hk_.1.1)); have n3_ := Aside0.mk (Kd.R_mono (ok' := fun k_ => some k_ ≠ (.slice Ao13 t458.length co13 : Value).ownBlock) (Kd.R_keptB (HO468.out) hkp (fun k_ hk_ hs_ => (hk_.2) hs_)) (fun k_ hk_ => hk_.1.2)); have n4_ := Aside0.mk (hb); clear HO_4; clear HO_6; clear HO_7; clear HO468; clear HB; have HO_4 := n0_; have HO_6 := n1_; have HO_7 := n2_; have HO468 := n3_; have HB := n4_; clear n0_ n1_ n2_ n3_ n4_; (try clear hb); (try clear hkp); (try clear hy0)))
   (try simp only [Act.put, List.setIfInBounds_toArray, List.set_cons_zero, List.set_cons_succ])
   go_cut [61] (fun v61 wc => ∃ (kq : Nat) (x61_25 : Bool), v61 = .bool x61_25 ∧ Aside0 (laws_FnExactStemBest.j1 kq l0 t454 t455 t461 x61_25 = some r) ∧ Aside0 (kq ≤ kj7) ∧ Aside0 (Kd.R (Kd.int .i64) 3 wc w.heap.size (fun k_ => some k_ ≠ (v463 : Value).ownBlock) v456 t454) ∧ Aside0 (Kd.R (Kd.int .i64) 3 wc w.heap.size (fun k_ => some k_ ≠ (v456 : Value).ownBlock) v463 t461) ∧ Aside0 (Below w.heap.size w wc))
   case first =>
    have H := HC26.out
    clear HC26
    by_cases c30 : t470 < 0
    ·rw [if_pos c30] at H
     have c30b0 : decide (t470 < 0) = true := decide_eq_true c30
     clear c30
     (first | rw [c30b0] | (simp only [i64_w, i32_w]; rw [c30b0]) | skip)
     have H' := Aside0.mk H
     clear H
     go_wp2
     go_meet
     case rel => exact ⟨_, (true), (by first | rfl | (simp; done) | (simp [*]; done)), H', ⟨by have := HJ7.out; first | omega | exact Nat.le_refl _⟩, ⟨by (with_reducible repeat (first | apply Kd.R_alloc | apply Kd.R_drewN | apply Kd.R_drew)); exact HO_4.out⟩, ⟨by (with_reducible repeat (first | apply Kd.R_alloc | apply Kd.R_drewN | apply Kd.R_drew)); exact HO_7.out⟩, ⟨by repeat (first | (with_reducible first | exact HB.out | apply below_alloc | apply pw_below_drewN | apply below_drew1) | exact HB.out)⟩⟩
    rw [if_neg c30] at H
    have c30b0 : decide (t470 < 0) = false := decide_eq_false c30
    clear c30
    (first | rw [c30b0] | (simp only [i64_w, i32_w]; rw [c30b0]) | skip)
    replace H := Option.bind_eq_some_iff.mp H
    obtain ⟨t472, A310, H⟩ := H
    replace H : (if t472 = true then (laws_FnExactStemBest.j1 kj7 l0 t454 t455 t461 (t462 != t455)) else (laws_FnExactStemBest.j1 kj7 l0 t454 t455 t461 true)) = some r := H
    have A31 := Aside0.mk A310
    clear A310
    by_cases c32 : t472 = true
    ·subst c32
     have H1 : (laws_FnExactStemBest.j1 kj7 l0 t454 t455 t461 (t462 != t455)) = some r := by rw [if_pos rfl] at H; exact H
     clear H
     have H := H1
     clear H1
     have H' := Aside0.mk H
     clear H
     obtain ⟨Ao33, co33, eo33⟩ := Kd.R_slice HO_7.out
     subst eo33
     obtain ⟨Ao34, co34, eo34⟩ := Kd.R_slice HO_4.out
     subst eo34
     go_wp2_with (first | (go_at_call 31; (with_reducible refine (laws_eqIntS.calls kj7 _ _ t461 _ _ t454 true _ ?side1 ?side2 ?side3 ?side4 A31.out).mono ?_); (case side1 => repeat (first | exact (Kd.R_reads' HO_7.out).2.2 | (with_reducible refine Kd.C_alloc ?_ _) | (with_reducible refine Kd.C_drewN ?_ _) | (with_reducible refine Kd.C_drew ?_))); (case side2 => exact (Kd.R_reads' HO_7.out).2.1); (case side3 => repeat (first | exact (Kd.R_reads' HO_4.out).2.2 | (with_reducible refine Kd.C_alloc ?_ _) | (with_reducible refine Kd.C_drewN ?_ _) | (with_reducible refine Kd.C_drew ?_))); (case side4 => exact (Kd.R_reads' HO_4.out).2.1); rintro e w' ⟨rfl, ⟨nd, rfl⟩⟩))
     go_meet
     case rel => exact ⟨_, ((t462 != t455)), (by first | rfl | (simp; done) | (simp [*]; done)), H', ⟨by have := HJ7.out; first | omega | exact Nat.le_refl _⟩, ⟨by (with_reducible repeat (first | apply Kd.R_alloc | apply Kd.R_drewN | apply Kd.R_drew)); exact HO_4.out⟩, ⟨by (with_reducible repeat (first | apply Kd.R_alloc | apply Kd.R_drewN | apply Kd.R_drew)); exact HO_7.out⟩, ⟨by repeat (first | (with_reducible first | exact HB.out | apply below_alloc | apply pw_below_drewN | apply below_drew1) | exact HB.out)⟩⟩
    replace c32 := Bool.eq_false_iff.mpr c32
    subst c32
    have H1 : (laws_FnExactStemBest.j1 kj7 l0 t454 t455 t461 true) = some r := by rw [if_neg (show ¬ (false = true) by decide)] at H; exact H
    clear H
    have H := H1
    clear H1
    have H' := Aside0.mk H
    clear H
    obtain ⟨Ao35, co35, eo35⟩ := Kd.R_slice HO_7.out
    subst eo35
    obtain ⟨Ao36, co36, eo36⟩ := Kd.R_slice HO_4.out
    subst eo36
    go_wp2_with (first | (go_at_call 31; (with_reducible refine (laws_eqIntS.calls kj7 _ _ t461 _ _ t454 false _ ?side1 ?side2 ?side3 ?side4 A31.out).mono ?_); (case side1 => repeat (first | exact (Kd.R_reads' HO_7.out).2.2 | (with_reducible refine Kd.C_alloc ?_ _) | (with_reducible refine Kd.C_drewN ?_ _) | (with_reducible refine Kd.C_drew ?_))); (case side2 => exact (Kd.R_reads' HO_7.out).2.1); (case side3 => repeat (first | exact (Kd.R_reads' HO_4.out).2.2 | (with_reducible refine Kd.C_alloc ?_ _) | (with_reducible refine Kd.C_drewN ?_ _) | (with_reducible refine Kd.C_drew ?_))); (case side4 => exact (Kd.R_reads' HO_4.out).2.1); rintro e w' ⟨rfl, ⟨nd, rfl⟩⟩))
    go_meet
    case rel => exact ⟨_, (true), (by first | rfl | (simp; done) | (simp [*]; done)), H', ⟨by have := HJ7.out; first | omega | exact Nat.le_refl _⟩, ⟨by (with_reducible repeat (first | apply Kd.R_alloc | apply Kd.R_drewN | apply Kd.R_drew)); exact HO_4.out⟩, ⟨by (with_reducible repeat (first | apply Kd.R_alloc | apply Kd.R_drewN | apply Kd.R_drew)); exact HO_7.out⟩, ⟨by repeat (first | (with_reducible first | exact HB.out | apply below_alloc | apply pw_below_drewN | apply below_drew1) | exact HB.out)⟩⟩
   case rest =>
    clear HC26
    try clear c1
    try clear c2
    try clear p2
    try clear c3
    try clear c3b0
    try clear c4
    try clear c12
    try clear c16
    try clear c21
    try clear c23
    try clear c24
    try clear c25
    try clear c30
    try clear c30b0
    try clear c31
    try clear c32
    try clear p2
    obtain ⟨kq, x61_25, rfl, HA, HJ25, HO_4, HO_7, HB⟩ := hcut
    cases kq with
    | zero => exact absurd HA.out (by simp [laws_FnExactStemBest.j1])
    | succ kj25 =>
     have H := HA.out
     clear HA
     simp only [laws_FnExactStemBest.j1] at H
     by_cases c37 : x61_25 = true
     ·subst c37
      have H1 : (some false) = some r := by rw [if_pos rfl] at H; exact H
      clear H
      have H := H1
      clear H1
      obtain rfl := Option.some.inj H
      go_wp2
      go_ret
      exact ⟨by first | rfl | (simp [errW_none, errW_some] <;> rfl) | (simp [*, errW_none, errW_some] <;> rfl), by repeat (first | (with_reducible first | exact HB.out | apply below_alloc | apply pw_below_drewN | apply below_drew1) | exact HB.out)⟩
     replace c37 := Bool.eq_false_iff.mpr c37
     subst c37
     have H1 : ((laws_markIntS.f kj25 t461 1).bind fun bt473 => ((laws_heldIntS.f kj25 bt473.2 1).bind fun t475 => (if t475 < 0 then (some false) else (if t475 = bt473.1 then ((laws_toStringS.f kj25 l0).bind fun t476 => ((impl_StemBest.f kj25 t476).bind fun bt479 => ((laws_eqIntS.f kj25 bt479.1 t454).bind fun t483 => (if t483 = true then (laws_FnExactStemBest.j2 kj25 bt473.2 bt473.1 (bt479.2 != t455)) else (laws_FnExactStemBest.j2 kj25 bt473.2 bt473.1 true))))) else (some false))))) = some r := by rw [if_neg (show ¬ (false = true) by decide)] at H; exact H
     clear H
     have H := H1
     clear H1
     replace H := Option.bind_eq_some_iff.mp H
     obtain ⟨⟨t473, t474⟩, A380, H⟩ := H
     replace H : ((laws_heldIntS.f kj25 t474 1).bind fun t475 => (if t475 < 0 then (some false) else (if t475 = t473 then ((laws_toStringS.f kj25 l0).bind fun t476 => ((impl_StemBest.f kj25 t476).bind fun bt479 => ((laws_eqIntS.f kj25 bt479.1 t454).bind fun t483 => (if t483 = true then (laws_FnExactStemBest.j2 kj25 t474 t473 (bt479.2 != t455)) else (laws_FnExactStemBest.j2 kj25 t474 t473 true))))) else (some false)))) = some r := H
     have A38 := Aside0.mk A380
     clear A380
     replace H := Option.bind_eq_some_iff.mp H
     obtain ⟨t475, A390, H⟩ := H
     replace H : (if t475 < 0 then (some false) else (if t475 = t473 then ((laws_toStringS.f kj25 l0).bind fun t476 => ((impl_StemBest.f kj25 t476).bind fun bt479 => ((laws_eqIntS.f kj25 bt479.1 t454).bind fun t483 => (if t483 = true then (laws_FnExactStemBest.j2 kj25 t474 t473 (bt479.2 != t455)) else (laws_FnExactStemBest.j2 kj25 t474 t473 true))))) else (some false))) = some r := H
     have A39 := Aside0.mk A390
     clear A390
     by_cases c40 : t475 < 0
     ·rw [if_pos c40] at H
      have c40b0 : decide (t475 < 0) = true := decide_eq_true c40
      clear c40
      obtain rfl := Option.some.inj H
      obtain ⟨Ao41, co41, eo41⟩ := Kd.R_slice HO_7.out
      subst eo41
      go_wp2_with (first | ((with_reducible refine gate_callee (f := 43) rfl ?_); refine goesL_ (some 64) rfl rfl Tryd.func43 (by kernel_rfl) rfl #[.slice Ao41 t461.length co41, .int .i64 1] rfl (by (try simp only [List.map_toArray, List.map_cons, List.map_nil]); first | done | rfl | (simp only [List.length_drop, List.length_take]; rfl)) ?_; (with_reducible refine (laws_markIntS.calls kj25 (fun k_ => some k_ = (.slice Ao41 t461.length co41 : Value).ownBlock) (.slice Ao41 t461.length co41) t461 1 t473 t474 w _ ?side1 ?side2 A38.out).mono ?_); (case side1 => repeat (first | (with_reducible first | exact HB.out | apply below_alloc | apply pw_below_drewN | apply below_drew1) | exact HB.out)); (case side2 => exact Kd.R_tight rfl HO_7.out); rintro e w42 ⟨rfl, hy0, hb, hkp⟩; refine ⟨_, rfl, ?_⟩; have n0_ := Aside0.mk (Kd.R_mono (ok' := fun k_ => some k_ ≠ (.slice Ao41 t461.length co41 : Value).ownBlock) (Kd.R_keptB (HO_4.out) hkp (fun k_ hk_ hs_ => (hk_) hs_)) (fun k_ hk_ => hk_.1)); have n1_ := Aside0.mk (Kd.R_reok rfl hy0 (fun k_ e_ => HO_7.out.1 k_ e_)); have n2_ := Aside0.mk (hb); clear HO_4; clear HO_7; clear HB; have HO_4 := n0_; have HO_7 := n1_; have HB := n2_; clear n0_ n1_ n2_; (try clear hb); (try clear hkp); (try clear hy0)) | ((with_reducible refine gate_callee (f := 44) rfl ?_); refine goesL_ (some 67) rfl rfl Tryd.func44 (by kernel_rfl) rfl #[.slice Ao41 t474.length co41, .int .i64 1] rfl (by (try simp only [List.map_toArray, List.map_cons, List.map_nil]); first | done | (rw [show t474.length = t461.length from (Kd.R_reads' HO_7.out).1.symm] <;> rfl) | rfl | (simp only [List.length_drop, List.length_take]; rfl)) ?_; (with_reducible refine (laws_heldIntS.calls kj25 _ _ t474 1 t475 _ ?side1 ?side2 A39.out).mono ?_); (case side1 => repeat (first | exact (Kd.R_reads' HO_7.out).2.2 | (with_reducible refine Kd.C_alloc ?_ _) | (with_reducible refine Kd.C_drewN ?_ _) | (with_reducible refine Kd.C_drew ?_))); (case side2 => rw [show t474.length = t461.length from (Kd.R_reads' HO_7.out).1.symm]; exact (Kd.R_reads' HO_7.out).2.1); rintro e w' ⟨rfl, ⟨nd, rfl⟩⟩; refine ⟨_, rfl, ?_⟩))
      go_ret
      exact ⟨by first | rfl | (simp [errW_none, errW_some] <;> rfl) | (simp [*, errW_none, errW_some] <;> rfl), by repeat (first | (with_reducible first | exact HB.out | apply below_alloc | apply pw_below_drewN | apply below_drew1) | exact HB.out)⟩
     rw [if_neg c40] at H
     have c40b0 : decide (t475 < 0) = false := decide_eq_false c40
     clear c40
     by_cases c43 : t475 = t473
     rotate_left
     ·rw [if_neg c43] at H
      have c43b0 : (t475 == t473) = false := beq_eq_false_iff_ne.mpr c43
      have c43b1 : (t475 != t473) = true := bne_iff_ne.mpr c43
      obtain rfl := Option.some.inj H
      obtain ⟨Ao62, co62, eo62⟩ := Kd.R_slice HO_7.out
      subst eo62
      go_wp2_with (first | ((with_reducible refine gate_callee (f := 43) rfl ?_); refine goesL_ (some 64) rfl rfl Tryd.func43 (by kernel_rfl) rfl #[.slice Ao62 t461.length co62, .int .i64 1] rfl (by (try simp only [List.map_toArray, List.map_cons, List.map_nil]); first | done | rfl | (simp only [List.length_drop, List.length_take]; rfl)) ?_; (with_reducible refine (laws_markIntS.calls kj25 (fun k_ => some k_ = (.slice Ao62 t461.length co62 : Value).ownBlock) (.slice Ao62 t461.length co62) t461 1 t473 t474 w _ ?side1 ?side2 A38.out).mono ?_); (case side1 => repeat (first | (with_reducible first | exact HB.out | apply below_alloc | apply pw_below_drewN | apply below_drew1) | exact HB.out)); (case side2 => exact Kd.R_tight rfl HO_7.out); rintro e w63 ⟨rfl, hy0, hb, hkp⟩; refine ⟨_, rfl, ?_⟩; have n0_ := Aside0.mk (Kd.R_mono (ok' := fun k_ => some k_ ≠ (.slice Ao62 t461.length co62 : Value).ownBlock) (Kd.R_keptB (HO_4.out) hkp (fun k_ hk_ hs_ => (hk_) hs_)) (fun k_ hk_ => hk_.1)); have n1_ := Aside0.mk (Kd.R_reok rfl hy0 (fun k_ e_ => HO_7.out.1 k_ e_)); have n2_ := Aside0.mk (hb); clear HO_4; clear HO_7; clear HB; have HO_4 := n0_; have HO_7 := n1_; have HB := n2_; clear n0_ n1_ n2_; (try clear hb); (try clear hkp); (try clear hy0)) | ((with_reducible refine gate_callee (f := 44) rfl ?_); refine goesL_ (some 67) rfl rfl Tryd.func44 (by kernel_rfl) rfl #[.slice Ao62 t474.length co62, .int .i64 1] rfl (by (try simp only [List.map_toArray, List.map_cons, List.map_nil]); first | done | (rw [show t474.length = t461.length from (Kd.R_reads' HO_7.out).1.symm] <;> rfl) | rfl | (simp only [List.length_drop, List.length_take]; rfl)) ?_; (with_reducible refine (laws_heldIntS.calls kj25 _ _ t474 1 t475 _ ?side1 ?side2 A39.out).mono ?_); (case side1 => repeat (first | exact (Kd.R_reads' HO_7.out).2.2 | (with_reducible refine Kd.C_alloc ?_ _) | (with_reducible refine Kd.C_drewN ?_ _) | (with_reducible refine Kd.C_drew ?_))); (case side2 => rw [show t474.length = t461.length from (Kd.R_reads' HO_7.out).1.symm]; exact (Kd.R_reads' HO_7.out).2.1); rintro e w' ⟨rfl, ⟨nd, rfl⟩⟩; refine ⟨_, rfl, ?_⟩))
      go_ret
      exact ⟨by first | rfl | (simp [errW_none, errW_some] <;> rfl) | (simp [*, errW_none, errW_some] <;> rfl), by repeat (first | (with_reducible first | exact HB.out | apply below_alloc | apply pw_below_drewN | apply below_drew1) | exact HB.out)⟩
     rw [if_pos c43] at H
     have c43b0 : (t475 == t473) = true := beq_iff_eq.mpr c43
     have c43b1 : (t475 != t473) = false := bne_eq_false_iff_eq.mpr c43
     clear c43
     replace H := Option.bind_eq_some_iff.mp H
     obtain ⟨t476, A440, H⟩ := H
     replace H : ((impl_StemBest.f kj25 t476).bind fun bt479 => ((laws_eqIntS.f kj25 bt479.1 t454).bind fun t483 => (if t483 = true then (laws_FnExactStemBest.j2 kj25 t474 t473 (bt479.2 != t455)) else (laws_FnExactStemBest.j2 kj25 t474 t473 true)))) = some r := H
     have A44 := Aside0.mk A440
     clear A440
     replace H := Option.bind_eq_some_iff.mp H
     obtain ⟨⟨t479, t480⟩, A450, H⟩ := H
     replace H : ((laws_eqIntS.f kj25 t479 t454).bind fun t483 => (if t483 = true then (laws_FnExactStemBest.j2 kj25 t474 t473 (t480 != t455)) else (laws_FnExactStemBest.j2 kj25 t474 t473 true))) = some r := H
     have A45 := Aside0.mk A450
     clear A450
     have HC46 := Aside0.mk H
     clear H
     obtain ⟨Ao47, co47, eo47⟩ := Kd.R_slice HO_7.out
     subst eo47
     go_upto_region 25 with (first | ((with_reducible refine gate_callee (f := 43) rfl ?_); refine goesL_ (some 64) rfl rfl Tryd.func43 (by kernel_rfl) rfl #[.slice Ao47 t461.length co47, .int .i64 1] rfl (by (try simp only [List.map_toArray, List.map_cons, List.map_nil]); first | done | rfl | (simp only [List.length_drop, List.length_take]; rfl)) ?_; (with_reducible refine (laws_markIntS.calls kj25 (fun k_ => some k_ = (.slice Ao47 t461.length co47 : Value).ownBlock) (.slice Ao47 t461.length co47) t461 1 t473 t474 w _ ?side1 ?side2 A38.out).mono ?_); (case side1 => repeat (first | (with_reducible first | exact HB.out | apply below_alloc | apply pw_below_drewN | apply below_drew1) | exact HB.out)); (case side2 => exact Kd.R_tight rfl HO_7.out); rintro e w48 ⟨rfl, hy0, hb, hkp⟩; refine ⟨_, rfl, ?_⟩; have n0_ := Aside0.mk (Kd.R_mono (ok' := fun k_ => some k_ ≠ (.slice Ao47 t461.length co47 : Value).ownBlock) (Kd.R_keptB (HO_4.out) hkp (fun k_ hk_ hs_ => (hk_) hs_)) (fun k_ hk_ => hk_.1)); have n1_ := Aside0.mk (Kd.R_reok rfl hy0 (fun k_ e_ => HO_7.out.1 k_ e_)); have n2_ := Aside0.mk (hb); clear HO_4; clear HO_7; clear HB; have HO_4 := n0_; have HO_7 := n1_; have HB := n2_; clear n0_ n1_ n2_; (try clear hb); (try clear hkp); (try clear hy0)) | ((with_reducible refine gate_callee (f := 44) rfl ?_); refine goesL_ (some 67) rfl rfl Tryd.func44 (by kernel_rfl) rfl #[.slice Ao47 t474.length co47, .int .i64 1] rfl (by (try simp only [List.map_toArray, List.map_cons, List.map_nil]); first | done | (rw [show t474.length = t461.length from (Kd.R_reads' HO_7.out).1.symm] <;> rfl) | rfl | (simp only [List.length_drop, List.length_take]; rfl)) ?_; (with_reducible refine (laws_heldIntS.calls kj25 _ _ t474 1 t475 _ ?side1 ?side2 A39.out).mono ?_); (case side1 => repeat (first | exact (Kd.R_reads' HO_7.out).2.2 | (with_reducible refine Kd.C_alloc ?_ _) | (with_reducible refine Kd.C_drewN ?_ _) | (with_reducible refine Kd.C_drew ?_))); (case side2 => rw [show t474.length = t461.length from (Kd.R_reads' HO_7.out).1.symm]; exact (Kd.R_reads' HO_7.out).2.1); rintro e w' ⟨rfl, ⟨nd, rfl⟩⟩; refine ⟨_, rfl, ?_⟩) | ((with_reducible refine gate_callee (f := 23) rfl ?_); refine goesL_ (some 75) rfl rfl Tryd.func23 (by kernel_rfl) rfl #[.slice A0 l0.length c0] rfl (by (try simp only [List.map_toArray, List.map_cons, List.map_nil]); first | done | rfl | (simp only [List.length_drop, List.length_take]; rfl)) ?_; (with_reducible refine (laws_toStringS.calls kj25 _ _ l0 t476 _ ?side1 ?side2 A44.out).mono ?_); (case side1 => repeat (first | exact (Kd.C_below HR0.out (by repeat (first | (with_reducible first | exact HB.out | apply below_alloc | apply pw_below_drewN | apply below_drew1) | exact HB.out))) | (with_reducible refine Kd.C_alloc ?_ _) | (with_reducible refine Kd.C_drewN ?_ _) | (with_reducible refine Kd.C_drew ?_))); (case side2 => exact HC0.out); rintro e w49 ⟨v477, rfl, ho0, hb⟩; refine ⟨_, rfl, ?_⟩; have n0_ := Aside0.mk (Kd.R_below (by (with_reducible repeat (first | apply Kd.R_alloc | apply Kd.R_drewN | apply Kd.R_drew)); exact HO_4.out) hb); have n1_ := Aside0.mk (Kd.R_below (by (with_reducible repeat (first | apply Kd.R_alloc | apply Kd.R_drewN | apply Kd.R_drew)); exact HO_7.out) hb); have n2_ := Aside0.mk (Kd.R_lower ho0 (below_size (by repeat (first | (with_reducible first | exact HB.out | apply below_alloc | apply pw_below_drewN | apply below_drew1) | exact HB.out)))); have n3_ := Aside0.mk (below_step (by repeat (first | (with_reducible first | exact HB.out | apply below_alloc | apply pw_below_drewN | apply below_drew1) | exact HB.out)) hb); clear HO_4; clear HO_7; clear HB; have HO_4 := n0_; have HO_7 := n1_; have HO478 := n2_; have HB := n3_; clear n0_ n1_ n2_ n3_; (try clear hb); (try clear hb2); (try clear hk); (try clear hi); (try clear ho0); obtain ⟨Ao50, co50, eo50⟩ := Kd.R_slice HO478.out; subst eo50) | ((with_reducible refine gate_callee (f := 46) rfl ?_); refine goesL_ (some 76) rfl rfl Tryd.func46 (by kernel_rfl) rfl #[.slice Ao50 t476.length co50] rfl (by (try simp only [List.map_toArray, List.map_cons, List.map_nil]); first | done | rfl | (simp only [List.length_drop, List.length_take]; rfl)) ?_; (with_reducible refine (impl_StemBest.calls kj25 _ _ t476 t479 t480 _ ?side1 ?side2 A45.out).mono ?_); (case side1 => repeat (first | exact (Kd.R_reads' HO478.out).2.2 | (with_reducible refine Kd.C_alloc ?_ _) | (with_reducible refine Kd.C_drewN ?_ _) | (with_reducible refine Kd.C_drew ?_))); (case side2 => exact (Kd.R_reads' HO478.out).2.1); rintro e w51 ⟨v481, rfl, ho0, hb⟩; refine ⟨_, rfl, ?_⟩; have n0_ := Aside0.mk (Kd.R_elder' (by (with_reducible repeat (first | apply Kd.R_alloc | apply Kd.R_drewN | apply Kd.R_drew)); exact HO_4.out) (Kd.R_base ho0) hb); have n1_ := Aside0.mk (Kd.R_elder' (by (with_reducible repeat (first | apply Kd.R_alloc | apply Kd.R_drewN | apply Kd.R_drew)); exact HO_7.out) (Kd.R_base ho0) hb); have n2_ := Aside0.mk (Kd.R_below (by (with_reducible repeat (first | apply Kd.R_alloc | apply Kd.R_drewN | apply Kd.R_drew)); exact HO478.out) hb); have n3_ := Aside0.mk (Kd.R_lower (Kd.R_new' (Kd.R_new' ho0 (Kd.R_lt (by (with_reducible repeat (first | apply Kd.R_alloc | apply Kd.R_drewN | apply Kd.R_drew)); exact HO_4.out))) (Kd.R_lt (by (with_reducible repeat (first | apply Kd.R_alloc | apply Kd.R_drewN | apply Kd.R_drew)); exact HO_7.out))) (below_size (by repeat (first | (with_reducible first | exact HB.out | apply below_alloc | apply pw_below_drewN | apply below_drew1) | exact HB.out)))); have n4_ := Aside0.mk (below_step (by repeat (first | (with_reducible first | exact HB.out | apply below_alloc | apply pw_below_drewN | apply below_drew1) | exact HB.out)) hb); clear HO_4; clear HO_7; clear HO478; clear HB; have HO_4 := n0_; have HO_7 := n1_; have HO478 := n2_; have HO482 := n3_; have HB := n4_; clear n0_ n1_ n2_ n3_ n4_; (try clear hb); (try clear hb2); (try clear hk); (try clear hi); (try clear ho0)))
     (try simp only [Act.put, List.setIfInBounds_toArray, List.set_cons_zero, List.set_cons_succ])
     go_cut [87] (fun v87 wc => ∃ (kq : Nat) (x87_45 : Bool), v87 = .bool x87_45 ∧ Aside0 (laws_FnExactStemBest.j2 kq t474 t473 x87_45 = some r) ∧ Aside0 (kq ≤ kj25) ∧ Aside0 (Kd.R (Kd.int .i64) 3 wc w.heap.size (fun _ => True) (.slice Ao47 t461.length co47) t474) ∧ Aside0 (Below w.heap.size w wc))
     case first =>
      have H := HC46.out
      clear HC46
      replace H := Option.bind_eq_some_iff.mp H
      obtain ⟨t483, A520, H⟩ := H
      replace H : (if t483 = true then (laws_FnExactStemBest.j2 kj25 t474 t473 (t480 != t455)) else (laws_FnExactStemBest.j2 kj25 t474 t473 true)) = some r := H
      have A52 := Aside0.mk A520
      clear A520
      by_cases c53 : t483 = true
      ·subst c53
       have H1 : (laws_FnExactStemBest.j2 kj25 t474 t473 (t480 != t455)) = some r := by rw [if_pos rfl] at H; exact H
       clear H
       have H := H1
       clear H1
       have H' := Aside0.mk H
       clear H
       obtain ⟨Ao54, co54, eo54⟩ := Kd.R_slice HO482.out
       subst eo54
       obtain ⟨Ao55, co55, eo55⟩ := Kd.R_slice HO_4.out
       subst eo55
       go_wp2_with (first | ((with_reducible refine gate_callee (f := 31) rfl ?_); refine goesL_ (some 81) rfl rfl Tryd.func31 (by kernel_rfl) rfl #[.slice Ao54 t479.length co54, .slice Ao55 t454.length co55] rfl (by (try simp only [List.map_toArray, List.map_cons, List.map_nil]); first | done | rfl | (simp only [List.length_drop, List.length_take]; rfl)) ?_; (with_reducible refine (laws_eqIntS.calls kj25 _ _ t479 _ _ t454 true _ ?side1 ?side2 ?side3 ?side4 A52.out).mono ?_); (case side1 => repeat (first | exact (Kd.R_reads' HO482.out).2.2 | (with_reducible refine Kd.C_alloc ?_ _) | (with_reducible refine Kd.C_drewN ?_ _) | (with_reducible refine Kd.C_drew ?_))); (case side2 => exact (Kd.R_reads' HO482.out).2.1); (case side3 => repeat (first | exact (Kd.R_reads' HO_4.out).2.2 | (with_reducible refine Kd.C_alloc ?_ _) | (with_reducible refine Kd.C_drewN ?_ _) | (with_reducible refine Kd.C_drew ?_))); (case side4 => exact (Kd.R_reads' HO_4.out).2.1); rintro e w' ⟨rfl, ⟨nd, rfl⟩⟩; refine ⟨_, rfl, ?_⟩))
       go_meet
       case rel => exact ⟨_, ((t480 != t455)), (by first | rfl | (simp; done) | (simp [*]; done)), H', ⟨by have := HJ7.out; have := HJ25.out; first | omega | exact Nat.le_refl _⟩, ⟨by (with_reducible repeat (first | apply Kd.R_alloc | apply Kd.R_drewN | apply Kd.R_drew)); exact Kd.R_mono HO_7.out (fun _ hk => trivial)⟩, ⟨by repeat (first | (with_reducible first | exact HB.out | apply below_alloc | apply pw_below_drewN | apply below_drew1) | exact HB.out)⟩⟩
      replace c53 := Bool.eq_false_iff.mpr c53
      subst c53
      have H1 : (laws_FnExactStemBest.j2 kj25 t474 t473 true) = some r := by rw [if_neg (show ¬ (false = true) by decide)] at H; exact H
      clear H
      have H := H1
      clear H1
      have H' := Aside0.mk H
      clear H
      obtain ⟨Ao56, co56, eo56⟩ := Kd.R_slice HO482.out
      subst eo56
      obtain ⟨Ao57, co57, eo57⟩ := Kd.R_slice HO_4.out
      subst eo57
      go_wp2_with (first | ((with_reducible refine gate_callee (f := 31) rfl ?_); refine goesL_ (some 81) rfl rfl Tryd.func31 (by kernel_rfl) rfl #[.slice Ao56 t479.length co56, .slice Ao57 t454.length co57] rfl (by (try simp only [List.map_toArray, List.map_cons, List.map_nil]); first | done | rfl | (simp only [List.length_drop, List.length_take]; rfl)) ?_; (with_reducible refine (laws_eqIntS.calls kj25 _ _ t479 _ _ t454 false _ ?side1 ?side2 ?side3 ?side4 A52.out).mono ?_); (case side1 => repeat (first | exact (Kd.R_reads' HO482.out).2.2 | (with_reducible refine Kd.C_alloc ?_ _) | (with_reducible refine Kd.C_drewN ?_ _) | (with_reducible refine Kd.C_drew ?_))); (case side2 => exact (Kd.R_reads' HO482.out).2.1); (case side3 => repeat (first | exact (Kd.R_reads' HO_4.out).2.2 | (with_reducible refine Kd.C_alloc ?_ _) | (with_reducible refine Kd.C_drewN ?_ _) | (with_reducible refine Kd.C_drew ?_))); (case side4 => exact (Kd.R_reads' HO_4.out).2.1); rintro e w' ⟨rfl, ⟨nd, rfl⟩⟩; refine ⟨_, rfl, ?_⟩))
      go_meet
      case rel => exact ⟨_, (true), (by first | rfl | (simp; done) | (simp [*]; done)), H', ⟨by have := HJ7.out; have := HJ25.out; first | omega | exact Nat.le_refl _⟩, ⟨by (with_reducible repeat (first | apply Kd.R_alloc | apply Kd.R_drewN | apply Kd.R_drew)); exact Kd.R_mono HO_7.out (fun _ hk => trivial)⟩, ⟨by repeat (first | (with_reducible first | exact HB.out | apply below_alloc | apply pw_below_drewN | apply below_drew1) | exact HB.out)⟩⟩
     case rest =>
      clear HC46
      try clear c1
      try clear c2
      try clear p2
      try clear c3
      try clear c3b0
      try clear c4
      try clear c5
      try clear c12
      try clear c16
      try clear c21
      try clear c23
      try clear c24
      try clear c25
      try clear c30
      try clear c30b0
      try clear c31
      try clear c32
      try clear c37
      try clear c40
      try clear c40b0
      try clear c42
      try clear c43
      try clear c43b0
      try clear c43b1
      try clear c44
      try clear c45
      try clear c46
      try clear c53
      try clear p2
      obtain ⟨kq, x87_45, rfl, HA, HJ45, HO_7, HB⟩ := hcut
      have hl7_45 := (Kd.R_reads' HO_7.out).1
      rw [hl7_45] at HO_7
      (try simp only [hl7_45])
      cases kq with
      | zero => exact absurd HA.out (by simp [laws_FnExactStemBest.j2])
      | succ kj45 =>
       have H := HA.out
       clear HA
       simp only [laws_FnExactStemBest.j2] at H
       by_cases c58 : x87_45 = true
       ·subst c58
        have H1 : (some false) = some r := by rw [if_pos rfl] at H; exact H
        clear H
        have H := H1
        clear H1
        obtain rfl := Option.some.inj H
        go_wp2
        go_ret
        exact ⟨by first | rfl | (simp [errW_none, errW_some] <;> rfl) | (simp [*, errW_none, errW_some] <;> rfl), by repeat (first | (with_reducible first | exact HB.out | apply below_alloc | apply pw_below_drewN | apply below_drew1) | exact HB.out)⟩
       replace c58 := Bool.eq_false_iff.mpr c58
       subst c58
       have H1 : ((laws_heldIntS.f kj45 t474 1).bind fun t484 => (if t484 < 0 then (some false) else (if t484 = t473 then (some true) else (some false)))) = some r := by rw [if_neg (show ¬ (false = true) by decide)] at H; exact H
       clear H
       have H := H1
       clear H1
       replace H := Option.bind_eq_some_iff.mp H
       obtain ⟨t484, A590, H⟩ := H
       replace H : (if t484 < 0 then (some false) else (if t484 = t473 then (some true) else (some false))) = some r := H
       have A59 := Aside0.mk A590
       clear A590
       by_cases c60 : t484 < 0
       ·rw [if_pos c60] at H
        have c60b0 : decide (t484 < 0) = true := decide_eq_true c60
        clear c60
        obtain rfl := Option.some.inj H
        go_wp2_with (first | ((with_reducible refine gate_callee (f := 44) rfl ?_); refine goesL_ (some 90) rfl rfl Tryd.func44 (by kernel_rfl) rfl #[.slice Ao47 t474.length co47, .int .i64 1] rfl (by (try simp only [List.map_toArray, List.map_cons, List.map_nil]); first | done | rfl | (simp only [List.length_drop, List.length_take]; rfl)) ?_; (with_reducible refine (laws_heldIntS.calls kj45 _ _ t474 1 t484 _ ?side1 ?side2 A59.out).mono ?_); (case side1 => repeat (first | exact (Kd.R_reads' HO_7.out).2.2 | (with_reducible refine Kd.C_alloc ?_ _) | (with_reducible refine Kd.C_drewN ?_ _) | (with_reducible refine Kd.C_drew ?_))); (case side2 => exact (Kd.R_reads' HO_7.out).2.1); rintro e w' ⟨rfl, ⟨nd, rfl⟩⟩; refine ⟨_, rfl, ?_⟩))
        go_ret
        exact ⟨by first | rfl | (simp [errW_none, errW_some] <;> rfl) | (simp [*, errW_none, errW_some] <;> rfl), by repeat (first | (with_reducible first | exact HB.out | apply below_alloc | apply pw_below_drewN | apply below_drew1) | exact HB.out)⟩
       rw [if_neg c60] at H
       have c60b0 : decide (t484 < 0) = false := decide_eq_false c60
       clear c60
       by_cases c61 : t484 = t473
       rotate_left
       ·rw [if_neg c61] at H
        have c61b0 : (t484 == t473) = false := beq_eq_false_iff_ne.mpr c61
        have c61b1 : (t484 != t473) = true := bne_iff_ne.mpr c61
        obtain rfl := Option.some.inj H
        go_wp2_with (first | ((with_reducible refine gate_callee (f := 44) rfl ?_); refine goesL_ (some 90) rfl rfl Tryd.func44 (by kernel_rfl) rfl #[.slice Ao47 t474.length co47, .int .i64 1] rfl (by (try simp only [List.map_toArray, List.map_cons, List.map_nil]); first | done | rfl | (simp only [List.length_drop, List.length_take]; rfl)) ?_; (with_reducible refine (laws_heldIntS.calls kj45 _ _ t474 1 t484 _ ?side1 ?side2 A59.out).mono ?_); (case side1 => repeat (first | exact (Kd.R_reads' HO_7.out).2.2 | (with_reducible refine Kd.C_alloc ?_ _) | (with_reducible refine Kd.C_drewN ?_ _) | (with_reducible refine Kd.C_drew ?_))); (case side2 => exact (Kd.R_reads' HO_7.out).2.1); rintro e w' ⟨rfl, ⟨nd, rfl⟩⟩; refine ⟨_, rfl, ?_⟩))
        go_ret
        exact ⟨by first | rfl | (simp [errW_none, errW_some] <;> rfl) | (simp [*, errW_none, errW_some] <;> rfl), by repeat (first | (with_reducible first | exact HB.out | apply below_alloc | apply pw_below_drewN | apply below_drew1) | exact HB.out)⟩
       rw [if_pos c61] at H
       have c61b0 : (t484 == t473) = true := beq_iff_eq.mpr c61
       have c61b1 : (t484 != t473) = false := bne_eq_false_iff_eq.mpr c61
       clear c61
       obtain rfl := Option.some.inj H
       go_wp2_with (first | ((with_reducible refine gate_callee (f := 44) rfl ?_); refine goesL_ (some 90) rfl rfl Tryd.func44 (by kernel_rfl) rfl #[.slice Ao47 t474.length co47, .int .i64 1] rfl (by (try simp only [List.map_toArray, List.map_cons, List.map_nil]); first | done | rfl | (simp only [List.length_drop, List.length_take]; rfl)) ?_; (with_reducible refine (laws_heldIntS.calls kj45 _ _ t474 1 t484 _ ?side1 ?side2 A59.out).mono ?_); (case side1 => repeat (first | exact (Kd.R_reads' HO_7.out).2.2 | (with_reducible refine Kd.C_alloc ?_ _) | (with_reducible refine Kd.C_drewN ?_ _) | (with_reducible refine Kd.C_drew ?_))); (case side2 => exact (Kd.R_reads' HO_7.out).2.1); rintro e w' ⟨rfl, ⟨nd, rfl⟩⟩; refine ⟨_, rfl, ?_⟩))
       go_ret
       exact ⟨by first | rfl | (simp [errW_none, errW_some] <;> rfl) | (simp [*, errW_none, errW_some] <;> rfl), by repeat (first | (with_reducible first | exact HB.out | apply below_alloc | apply pw_below_drewN | apply below_drew1) | exact HB.out)⟩
end Go.Proofs.YtejoneninbdjbaaDoor.E
end
section
namespace Go.Proofs.YtejoneninbdjbaaDoor.Pur
open Go.RowKit Go.Proofs.YtejoneninbdjbaaDoorW.PrintWords
def EvP {α : Type} (g : Nat → Option α) (P : α → Prop) : Prop := ∃ r, Ev g r ∧ P r
section
variable {α β : Type}
theorem EvP.bind {g : Nat → Option α} {f : Nat → α → Option β} {P : α → Prop} {Q : β → Prop} (h : EvP g P) (k : ∀ a, P a → EvP (fun n => f n a) Q) : EvP (fun n => (g n).bind (f n)) Q := by
  obtain ⟨a, ha, hp⟩ := h
  obtain ⟨b, hb, hq⟩ := k a hp
  exact ⟨b, Ev.bind ha hb, hq⟩
theorem EvP.ret {P : α → Prop} {r : α} (h : P r) : EvP (fun _ => some r) P := ⟨r, Ev.now r, h⟩
theorem EvP.con {o : Option α} {P : α → Prop} {r : α} (h : o = some r) (hp : P r) : EvP (fun _ => o) P := by subst h; exact .ret hp
theorem EvP.ite {c : Prop} [Decidable c] {f g : Nat → Option α} {P : α → Prop} (h : c → EvP f P) (k : ¬ c → EvP g P) : EvP (fun n => if c then f n else g n) P := by
  by_cases hc : c
  · obtain ⟨r, hr, hp⟩ := h hc
    exact ⟨r, Ev.congr (fun n => if_pos hc) hr, hp⟩
  · obtain ⟨r, hr, hp⟩ := k hc
    exact ⟨r, Ev.congr (fun n => if_neg hc) hr, hp⟩
theorem EvP.yes {c : Prop} [Decidable c] {f g : Nat → Option α} {P : α → Prop} (hc : c) (h : EvP f P) : EvP (fun n => if c then f n else g n) P := .ite (fun _ => h) (fun k => absurd hc k)
theorem EvP.no {c : Prop} [Decidable c] {f g : Nat → Option α} {P : α → Prop} (hc : ¬ c) (h : EvP g P) : EvP (fun n => if c then f n else g n) P := .ite (fun k => absurd k hc) (fun _ => h)
theorem EvP.step {g f : Nat → Option α} {P : α → Prop} (h : ∀ k, g (k + 1) = f k) (k : EvP f P) : EvP g P := by
  obtain ⟨r, hr, hp⟩ := k
  exact ⟨r, Ev.step h hr, hp⟩
theorem EvP.succ {g : Nat → Option α} {P : α → Prop} (k : EvP (fun n => g (n + 1)) P) : EvP g P := EvP.step (fun _ => rfl) k
theorem EvP.mono {g : Nat → Option α} {P Q : α → Prop} (h : EvP g P) (k : ∀ r, P r → Q r) : EvP g Q := by
  obtain ⟨r, hr, hp⟩ := h
  exact ⟨r, hr, k r hp⟩
theorem EvP.rounds {g : Nat → Option α} {r : α} (h : EvP g (· = r)) : ∃ k, g k = some r := by
  obtain ⟨_, hr, rfl⟩ := h
  exact hr.rounds
end
structure Hd (p : Prop) : Prop where mk :: (out : p)
theorem w64 {i : Int} (h0 : -9223372036854775808 ≤ i) (h1 : i ≤ 9223372036854775807) : wrap64 i = i := by unfold wrap64; omega
theorem tdiv_pos {a : Int} (b : Int) (h : 0 ≤ a) : Int.tdiv a b = a / b := Int.tdiv_eq_ediv_of_nonneg h
theorem toNat_nat (n : Nat) : ((n : Int)).toNat = n := rfl
end Go.Proofs.YtejoneninbdjbaaDoor.Pur
end
section
namespace Go.Proofs.YtejoneninbdjbaaDoor.Pur
open Go.RowKit Go.Proofs.YtejoneninbdjbaaDoorW.PrintWords Go.Proofs.YtejoneninbdjbaaDoorW.PrintMore Go.Proofs.YtejoneninbdjbaaDoor.E
def lostB (t : ByteArray) : Bool := t.data.toList.all (fun b => b == 63)
def readB (t : ByteArray) : Bool := t.data.toList.all (fun b => decide (97 ≤ b.toNat) && decide (b.toNat ≤ 100))
theorem bt_at (t : ByteArray) (i : Nat) (h : i < t.size) : bt t (i : Int) = ((t.data.toList[i]'(by rw [Array.length_toList]; exact h)).toNat : Int) := by
  unfold bt
  rw [toNat_nat, dif_pos h, Array.getElem_toList]
  rfl
theorem list_len (t : ByteArray) : t.data.toList.length = t.size := Array.length_toList
theorem rd_at {l : List ByteArray} {i : Nat} (h : i < l.length) : rdOf ByteArray.empty l (i : Int) = l[i] := by
  unfold rdOf
  rw [toNat_nat, List.getD_eq_getElem?_getD, List.getElem?_eq_getElem h]
  rfl
theorem u8_eq {b : UInt8} {n : Nat} (hn : n < 256) : (b == UInt8.ofNat n) = decide (b.toNat = n) := by
  by_cases h : b.toNat = n
  · rw [decide_eq_true h, beq_iff_eq, ← UInt8.toNat_inj, h, UInt8.toNat_ofNat_of_lt' hn]
  · rw [decide_eq_false h, beq_eq_false_iff_ne]
    intro e
    rw [e, UInt8.toNat_ofNat_of_lt' hn] at h
    exact h rfl
theorem lost_loop (t : ByteArray) (ht : t.size ≤ 9223372036854775806) : ∀ d i : Nat, i + d = t.size → EvP (fun k => spec_l7Lost.l0 k t (i : Int)) (· = (t.data.toList.drop i).all (fun b => b == 63)) := by
  intro d
  induction d with
  | zero =>
    intro i hi
    refine EvP.succ ?_
    simp only [spec_l7Lost.l0]
    exact EvP.no (by omega) (EvP.ret (by rw [List.drop_of_length_le (by rw [list_len]; omega)]; rfl))
  | succ d ih =>
    intro i hi
    have hlt : i < t.size := by omega
    have hl : i < t.data.toList.length := by rw [list_len]; exact hlt
    have e2 : Hd (wrap64 ((i : Int) + 1) = ((i + 1 : Nat) : Int)) := ⟨w64 (by omega) (by omega)⟩
    refine EvP.succ ?_
    simp only [spec_l7Lost.l0]
    refine EvP.yes (by omega) (EvP.yes (by omega) ?_)
    rw [bt_at t i hlt, e2.out, List.drop_eq_getElem_cons hl, List.all_cons, show (63 : UInt8) = UInt8.ofNat 63 from rfl, u8_eq (by omega)]
    refine EvP.ite (fun h => ?_) (fun h => EvP.ret ?_)
    · rw [decide_eq_true (by omega), Bool.true_and]
      exact ih (i + 1) (by omega)
    · rw [decide_eq_false (by omega), Bool.false_and]
theorem spec_lost (t : ByteArray) (ht : t.size ≤ 9223372036854775806) : EvP (fun k => spec_l7Lost.f k t) (· = lostB t) := by
  unfold spec_l7Lost.f
  exact lost_loop t ht t.size 0 (by omega)
theorem read_loop (t : ByteArray) (ht : t.size ≤ 9223372036854775806) : ∀ d i : Nat, i + d = t.size → EvP (fun k => spec_l7Reading.l0 k t (i : Int)) (· = (t.data.toList.drop i).all (fun b => decide (97 ≤ b.toNat) && decide (b.toNat ≤ 100))) := by
  intro d
  induction d with
  | zero =>
    intro i hi
    refine EvP.succ ?_
    simp only [spec_l7Reading.l0]
    exact EvP.no (by omega) (EvP.ret (by rw [List.drop_of_length_le (by rw [list_len]; omega)]; rfl))
  | succ d ih =>
    intro i hi
    have hlt : i < t.size := by omega
    have hl : i < t.data.toList.length := by rw [list_len]; exact hlt
    have e2 : Hd (wrap64 ((i : Int) + 1) = ((i + 1 : Nat) : Int)) := ⟨w64 (by omega) (by omega)⟩
    refine EvP.succ ?_
    simp only [spec_l7Reading.l0]
    refine EvP.yes (by omega) (EvP.yes (by omega) ?_)
    rw [bt_at t i hlt, e2.out, List.drop_eq_getElem_cons hl, List.all_cons]
    refine EvP.ite (fun h => EvP.ret ?_) (fun h => EvP.ite (fun h' => EvP.ret ?_) (fun h' => ?_))
    · rw [decide_eq_false (by omega), Bool.false_and, Bool.false_and]
    · rw [decide_eq_false (p := _ ≤ 100) (by omega), Bool.and_false, Bool.false_and]
    · rw [decide_eq_true (by omega), decide_eq_true (by omega), Bool.true_and, Bool.true_and]
      exact ih (i + 1) (by omega)
theorem spec_read (t : ByteArray) (ht : t.size ≤ 9223372036854775806) : EvP (fun k => spec_l7Reading.f k t) (· = readB t) := by
  unfold spec_l7Reading.f
  exact read_loop t ht t.size 0 (by omega)
theorem dropWhile_nil {α : Type} (p : α → Bool) : ∀ l : List α, l.dropWhile p = [] ↔ l.all p = true
  | [] => by simp
  | a :: l => by
    by_cases h : p a = true
    · rw [List.dropWhile_cons_of_pos h, dropWhile_nil p l, List.all_cons, h, Bool.true_and]
    · rw [List.dropWhile_cons_of_neg h, List.all_cons, Bool.eq_false_iff.mpr h, Bool.false_and]; simp
theorem dropWhile_head {α : Type} (p : α → Bool) : ∀ l : List α, l.dropWhile p = [] ∨ ∃ a l', l.dropWhile p = a :: l' ∧ p a = false
  | [] => .inl rfl
  | a :: l => by
    by_cases h : p a = true
    · rw [List.dropWhile_cons_of_pos h]; exact dropWhile_head p l
    · rw [List.dropWhile_cons_of_neg h]; exact .inr ⟨a, l, rfl, Bool.eq_false_iff.mpr h⟩
theorem trim_nil (l cs : List UInt8) : Lib.trimS l cs = [] ↔ l.all (cs.contains ·) = true := by
  unfold Lib.trimS Lib.trimLeftS Lib.trimRightS
  rw [dropWhile_nil, List.all_reverse]
  refine ⟨fun h => ?_, fun h => ?_⟩
  · rcases dropWhile_head (cs.contains ·) l.reverse with e | ⟨a, l', e, ha⟩
    · rw [dropWhile_nil, List.all_reverse] at e; exact e
    · rw [e, List.all_cons, ha, Bool.false_and] at h; exact absurd h (by decide)
  · have : l.reverse.dropWhile (cs.contains ·) = [] := (dropWhile_nil _ _).mpr (by rw [List.all_reverse]; exact h)
    rw [this]; rfl
theorem trim_some (t c : ByteArray) (ht : t.size ≤ 9223372036854775806) (hc : c.size < 4294967281) (ha : c.data.toList.all (fun b => decide (b.toNat < 128)) = true) : strings_Trim.f t c = some ⟨(Lib.trimS t.data.toList c.data.toList).toArray⟩ := by
  unfold strings_Trim.f
  rw [if_pos (by omega), if_pos hc, if_pos ha]
theorem impl_lost (t : ByteArray) (ht : t.size ≤ 9223372036854775806) (h0 : t.size ≠ 0) : impl_isLost.f t = some (lostB t) := by
  unfold impl_isLost.f
  have hne : ¬ t.toList = ([] : List UInt8) := by
    rw [ByteArray.toList_eq]
    intro e
    have := congrArg List.length e
    rw [list_len] at this
    exact h0 this
  rw [if_neg hne, trim_some t _ ht (by decide) (by decide)]
  simp only [Option.bind_some]
  rw [ByteArray.toList_eq]
  congr 1
  show (Lib.trimS t.data.toList [63] == []) = lostB t
  have h := trim_nil t.data.toList [63]
  have e : (t.data.toList.all (fun b => [63].contains b)) = lostB t := by
    unfold lostB
    congr 1
    funext b
    rw [List.contains_cons]
    simp
  rw [e] at h
  by_cases hl : lostB t = true
  · rw [hl, beq_iff_eq]; exact h.mpr hl
  · rw [Bool.eq_false_iff.mpr hl, beq_eq_false_iff_ne]; exact fun e => hl (h.mp e)
theorem trim_read (t : ByteArray) (ht : t.size ≤ 9223372036854775806) : ∃ r, strings_Trim.f t (⟨#[97, 98, 99, 100]⟩ : ByteArray) = some r ∧ (r.toList = ([] : List UInt8) ↔ readB t = true) := by
  refine ⟨_, trim_some t _ ht (by decide) (by decide), ?_⟩
  rw [ByteArray.toList_eq]
  show Lib.trimS t.data.toList [97, 98, 99, 100] = [] ↔ _
  rw [trim_nil]
  have e : (t.data.toList.all (fun b => [97, 98, 99, 100].contains b)) = readB t := by
    unfold readB
    congr 1
    funext b
    have h : ∀ n : Nat, n < 256 → (b == UInt8.ofNat n) = decide (b.toNat = n) := fun n hn => u8_eq hn
    simp only [List.contains, List.elem]
    rw [show (97 : UInt8) = UInt8.ofNat 97 from rfl, show (98 : UInt8) = UInt8.ofNat 98 from rfl, show (99 : UInt8) = UInt8.ofNat 99 from rfl, show (100 : UInt8) = UInt8.ofNat 100 from rfl, h 97 (by omega), h 98 (by omega), h 99 (by omega), h 100 (by omega)]
    rcases Nat.lt_or_ge b.toNat 97 with g | g
    · rw [decide_eq_false (p := b.toNat = 97) (by omega), decide_eq_false (p := b.toNat = 98) (by omega), decide_eq_false (p := b.toNat = 99) (by omega), decide_eq_false (p := b.toNat = 100) (by omega), decide_eq_false (p := 97 ≤ b.toNat) (by omega)]; rfl
    · rcases Nat.lt_or_ge 100 b.toNat with g' | g'
      · rw [decide_eq_false (p := b.toNat = 97) (by omega), decide_eq_false (p := b.toNat = 98) (by omega), decide_eq_false (p := b.toNat = 99) (by omega), decide_eq_false (p := b.toNat = 100) (by omega), decide_eq_false (p := b.toNat ≤ 100) (by omega), Bool.and_false]
      · rw [decide_eq_true (p := 97 ≤ b.toNat) g, decide_eq_true (p := b.toNat ≤ 100) g', Bool.and_true]
        have : b.toNat = 97 ∨ b.toNat = 98 ∨ b.toNat = 99 ∨ b.toNat = 100 := by omega
        rcases this with e | e | e | e <;> rw [e] <;> rfl
  rw [e]
def goB (n : Nat) : List ByteArray → Int → Int × Bool
  | [], c => (c, true)
  | t :: ts, c => if t.size = n ∧ (readB t = true ∨ lostB t = true) then goB n ts (if lostB t = true then c + 1 else c) else (0, false)
def booksOf (l : List ByteArray) : Int × Bool := if 1 ≤ l.length ∧ l.length ≤ 6 ∧ 1 ≤ (l.getD 0 ByteArray.empty).size ∧ (l.getD 0 ByteArray.empty).size ≤ 8 then goB (l.getD 0 ByteArray.empty).size l 0 else (0, false)
theorem rd0 (l : List ByteArray) : rdOf ByteArray.empty l 0 = l.getD 0 ByteArray.empty := rfl
section
variable (l : List ByteArray) (hl : 1 ≤ l.length ∧ l.length ≤ 6) (hs : ∀ t ∈ l, t.size ≤ 9223372036854775806)
include hl hs
theorem spec_books_loop (_ : 1 ≤ (l.getD 0 ByteArray.empty).size ∧ (l.getD 0 ByteArray.empty).size ≤ 8) : ∀ (d i : Nat) (c : Int), i + d = l.length → 0 ≤ c → c ≤ i → EvP (fun k => spec_l7Books.l0 k l c (i : Int)) (· = goB (l.getD 0 ByteArray.empty).size (l.drop i) c) := by
  intro d
  induction d with
  | zero =>
    intro i c hi hc0 hc1
    refine EvP.succ ?_
    simp only [spec_l7Books.l0]
    exact EvP.no (by omega) (EvP.ret (by rw [List.drop_of_length_le (by omega)]; rfl))
  | succ d ih =>
    intro i c hi hc0 hc1
    have hlt : i < l.length := by omega
    have hsz := hs l[i] (List.getElem_mem hlt)
    have e1 : Hd (wrap64 (c + 1) = c + 1) := ⟨w64 (by omega) (by omega)⟩
    have e2 : Hd (wrap64 ((i : Int) + 1) = ((i + 1 : Nat) : Int)) := ⟨w64 (by omega) (by omega)⟩
    rw [List.drop_eq_getElem_cons hlt, goB]
    have J : ∀ B : Bool, (B = false ↔ (l[i].size = (l.getD 0 ByteArray.empty).size ∧ (readB l[i] = true ∨ lostB l[i] = true))) → EvP (fun k => spec_l7Books.j2 k l c (i : Int) B) (· = if l[i].size = (l.getD 0 ByteArray.empty).size ∧ (readB l[i] = true ∨ lostB l[i] = true) then goB (l.getD 0 ByteArray.empty).size (l.drop (i + 1)) (if lostB l[i] = true then c + 1 else c) else (0, false)) := by
      intro B hB
      refine EvP.succ ?_
      simp only [spec_l7Books.j2]
      refine EvP.ite (fun hb => EvP.ret ?_) (fun hb => ?_)
      · rw [if_neg (fun h => by rw [hB.mpr h] at hb; exact Bool.noConfusion hb)]
      · rw [if_pos (hB.mp (Bool.eq_false_iff.mpr hb))]
        refine EvP.yes (by omega) (EvP.yes (by omega) ?_)
        rw [rd_at hlt, e1.out, e2.out]
        refine EvP.bind (spec_lost _ hsz) (fun _ e => ?_)
        subst e
        refine EvP.ite (fun h => ?_) (fun h => ?_)
        · rw [if_pos h]; exact ih (i + 1) (c + 1) (by omega) (by omega) (by omega)
        · rw [if_neg h]; exact ih (i + 1) c (by omega) hc0 (by omega)
    refine EvP.succ ?_
    simp only [spec_l7Books.l0]
    refine EvP.yes (by omega) (EvP.yes (by omega) (EvP.yes (by omega) ?_))
    rw [rd_at hlt, rd0]
    refine EvP.ite (fun hz => ?_) (fun hz => J true ⟨fun h => Bool.noConfusion h, fun h => absurd (by rw [h.1]) hz⟩)
    have hz : l[i].size = (l.getD 0 ByteArray.empty).size := by omega
    refine EvP.bind (spec_read _ hsz) (fun _ e => ?_)
    subst e
    refine EvP.ite (fun h => J false ⟨fun _ => ⟨hz, .inl h⟩, fun _ => rfl⟩) (fun h => ?_)
    refine EvP.bind (spec_lost _ hsz) (fun _ e => ?_)
    subst e
    refine J _ ⟨fun h' => ⟨hz, .inr (by simpa using h')⟩, fun h' => ?_⟩
    rcases h'.2 with h' | h'
    · exact absurd h' h
    · rw [h']; rfl
theorem impl_books_loop : ∀ (d i : Nat) (c : Int), i + d = l.length → 0 ≤ c → c ≤ i → (i = 0 → 0 < d) → EvP (fun k => impl_lostOf.l0 k l c l (l.length : Int) (i : Int)) (· = if 1 ≤ (l.getD 0 ByteArray.empty).size ∧ (l.getD 0 ByteArray.empty).size ≤ 8 ∨ d = 0 then goB (l.getD 0 ByteArray.empty).size (l.drop i) c else (0, false)) := by
  intro d
  induction d with
  | zero =>
    intro i c hi hc0 hc1 _
    refine EvP.succ ?_
    simp only [impl_lostOf.l0]
    exact EvP.no (by omega) (EvP.ret (by rw [List.drop_of_length_le (by omega), if_pos (.inr trivial)]; rfl))
  | succ d ih =>
    intro i c hi hc0 hc1 _
    have hlt : i < l.length := by omega
    have hsz := hs l[i] (List.getElem_mem hlt)
    have e1 : Hd (wrap64 (c + 1) = c + 1) := ⟨w64 (by omega) (by omega)⟩
    have e2 : Hd (wrap64 ((i : Int) + 1) = ((i + 1 : Nat) : Int)) := ⟨w64 (by omega) (by omega)⟩
    rw [List.drop_eq_getElem_cons hlt, goB]
    have bad : ∀ v, v = ((0, false) : Int × Bool) → EvP (fun k => impl_lostOf.j2 k l c l[i] l (l.length : Int) (i : Int) true) (· = v) := by
      intro v hv
      refine EvP.succ ?_
      simp only [impl_lostOf.j2]
      exact EvP.yes trivial (EvP.ret hv.symm)
    refine EvP.succ ?_
    simp only [impl_lostOf.l0]
    refine EvP.yes (by omega) (EvP.yes (by omega) (EvP.yes (by omega) (EvP.yes (by omega) ?_)))
    rw [rd_at hlt, rd0]
    refine EvP.ite (fun hz => ?_) (fun hz => bad _ ?_)
    · have hz : l[i].size = (l.getD 0 ByteArray.empty).size := by omega
      refine EvP.ite (fun he => bad _ ?_) (fun he => ?_)
      · have : l[i].size = 0 := by
          rw [ByteArray.toList_eq] at he
          rw [← list_len, he]; rfl
        rw [if_neg (by omega)]
      · have hpos : l[i].size ≠ 0 := by
          intro h
          apply he
          rw [ByteArray.toList_eq]
          exact List.eq_nil_of_length_eq_zero (by rw [list_len]; exact h)
        by_cases h8 : (l[i].size : Int) > 8
        · rw [decide_eq_true h8]
          exact bad _ (by rw [if_neg (by omega)])
        · rw [decide_eq_false h8]
          rw [if_pos (.inl (by omega))]
          refine EvP.succ ?_
          simp only [impl_lostOf.j2]
          refine EvP.no (by decide) ?_
          rw [impl_lost _ hsz hpos, e1.out, e2.out]
          refine EvP.bind (P := (· = lostB l[i])) (EvP.ret rfl) (fun _ e => ?_)
          subst e
          refine EvP.ite (fun h => ?_) (fun h => ?_)
          · rw [if_pos ⟨hz, .inr h⟩, if_pos h]
            have := ih (i + 1) (c + 1) (by omega) (by omega) (by omega) (by omega)
            rw [if_pos (.inl (by omega))] at this
            exact this
          · obtain ⟨r, hr, hn⟩ := trim_read _ hsz
            rw [hr]
            refine EvP.bind (P := (· = r)) (EvP.ret rfl) (fun _ e => ?_)
            subst e
            refine EvP.ite (fun h' => ?_) (fun h' => EvP.ret ?_)
            · rw [if_pos ⟨hz, .inl (hn.mp h')⟩, if_neg h]
              have := ih (i + 1) c (by omega) hc0 (by omega) (by omega)
              rw [if_pos (.inl (by omega))] at this
              exact this
            · rw [if_neg (fun hh => hh.2.elim (fun a => h' (hn.mpr a)) (fun a => h a))]
    · rw [if_neg (fun h : l[i].size = _ ∧ _ => hz (by rw [h.1]))]
      split <;> rfl
end
theorem spec_books (l : List ByteArray) (hs : ∀ t ∈ l, t.size ≤ 9223372036854775806) : EvP (fun k => spec_l7Books.f k l) (· = booksOf l) := by
  unfold spec_l7Books.f spec_l6In.f
  have bad : ∀ v, v = ((0, false) : Int × Bool) → EvP (fun k => spec_l7Books.j0 k l 0 true) (· = v) := by
    intro v hv
    refine EvP.succ ?_
    simp only [spec_l7Books.j0]
    exact EvP.yes trivial (EvP.ret hv.symm)
  refine EvP.bind (P := (· = (decide (1 ≤ l.length ∧ l.length ≤ 6)))) ?_ (fun _ e => ?_)
  · refine EvP.ite (fun h => EvP.ret ?_) (fun h => EvP.ret ?_)
    · exact decide_eq_decide.mpr (by omega)
    · rw [decide_eq_false (by omega)]
  subst e
  refine EvP.ite (fun h => ?_) (fun h => bad _ ?_)
  · have hl := of_decide_eq_true h
    refine EvP.yes (by omega) ?_
    rw [rd0 l]
    refine EvP.bind (P := (· = (decide (1 ≤ (l.getD 0 ByteArray.empty).size ∧ (l.getD 0 ByteArray.empty).size ≤ 8)))) ?_ (fun _ e => ?_)
    · refine EvP.ite (fun h => EvP.ret ?_) (fun h => EvP.ret ?_)
      · exact decide_eq_decide.mpr (by omega)
      · rw [decide_eq_false (by omega)]
    subst e
    by_cases h8 : 1 ≤ (l.getD 0 ByteArray.empty).size ∧ (l.getD 0 ByteArray.empty).size ≤ 8
    · rw [decide_eq_true h8]
      refine EvP.succ ?_
      simp only [spec_l7Books.j0]
      refine EvP.no (by decide) ?_
      unfold booksOf
      rw [if_pos ⟨hl.1, hl.2, h8.1, h8.2⟩]
      exact spec_books_loop l hl hs h8 l.length 0 0 (by omega) (by omega) (by omega)
    · rw [decide_eq_false h8]
      refine bad _ ?_
      unfold booksOf
      rw [if_neg (fun hh => h8 ⟨hh.2.2.1, hh.2.2.2⟩)]
  · unfold booksOf
    rw [if_neg (fun hh => h (decide_eq_true ⟨hh.1, hh.2.1⟩))]
theorem impl_books (l : List ByteArray) (hs : ∀ t ∈ l, t.size ≤ 9223372036854775806) : EvP (fun k => impl_lostOf.f k l) (· = booksOf l) := by
  unfold impl_lostOf.f
  have bad : ∀ v, v = ((0, false) : Int × Bool) → EvP (fun k => impl_lostOf.j0 k l true) (· = v) := by
    intro v hv
    refine EvP.succ ?_
    simp only [impl_lostOf.j0]
    exact EvP.yes trivial (EvP.ret hv.symm)
  refine EvP.ite (fun h => bad _ ?_) (fun h => ?_)
  · unfold booksOf; rw [if_neg (fun hh => by omega)]
  by_cases h6 : (l.length : Int) > 6
  · rw [decide_eq_true h6]
    exact bad _ (by unfold booksOf; rw [if_neg (fun hh => by omega)])
  rw [decide_eq_false h6]
  have hl : 1 ≤ l.length ∧ l.length ≤ 6 := by omega
  refine EvP.succ ?_
  simp only [impl_lostOf.j0]
  refine EvP.no (by decide) ?_
  have := impl_books_loop l hl hs l.length 0 0 (by omega) (by omega) (by omega) (by omega)
  refine this.mono (fun r e => ?_)
  rw [e]
  unfold booksOf
  by_cases h8 : 1 ≤ (l.getD 0 ByteArray.empty).size ∧ (l.getD 0 ByteArray.empty).size ≤ 8
  · rw [if_pos (.inl h8), if_pos ⟨hl.1, hl.2, h8.1, h8.2⟩]; rfl
  · rw [if_neg (fun hh => hh.elim h8 (by omega)), if_neg (fun hh => h8 ⟨hh.2.2.1, hh.2.2.2⟩)]
def okBooks (l : List ByteArray) : Bool := (booksOf l).2 && ((booksOf l).1 == 0)
theorem spec_okBooks (l : List ByteArray) (hs : ∀ t ∈ l, t.size ≤ 9223372036854775806) : EvP (fun k => spec_BooksValid.f k l) (· = okBooks l) := by
  unfold spec_BooksValid.f okBooks
  refine EvP.bind (spec_books l hs) (fun _ e => ?_)
  subst e
  refine EvP.ite (fun h => EvP.ret (by rw [h, Bool.true_and])) (fun h => EvP.ret (by rw [Bool.eq_false_iff.mpr h, Bool.false_and]))
theorem impl_okBooks (l : List ByteArray) (hs : ∀ t ∈ l, t.size ≤ 9223372036854775806) : EvP (fun k => impl_BooksValid.f k l) (· = okBooks l) := by
  unfold impl_BooksValid.f okBooks
  refine EvP.bind (impl_books l hs) (fun _ e => ?_)
  subst e
  refine EvP.ite (fun h => EvP.ret (by rw [h, Bool.true_and])) (fun h => EvP.ret (by rw [Bool.eq_false_iff.mpr h, Bool.false_and]))
end Go.Proofs.YtejoneninbdjbaaDoor.Pur
end
section
namespace Go.Proofs.YtejoneninbdjbaaDoor.Pur
open Go.RowKit Go.Proofs.YtejoneninbdjbaaDoorW.PrintWords Go.Proofs.YtejoneninbdjbaaDoorW.PrintMore Go.Proofs.YtejoneninbdjbaaDoor.E
theorem rdS_at {l : List ByteArray} {i : Nat} (h : i < l.length) : rdOf ByteArray.empty l (i : Int) = l[i] := by
  unfold rdOf
  rw [toNat_nat, List.getD_eq_getElem?_getD, List.getElem?_eq_getElem h]
  rfl
theorem sz_strs_loop (l : List ByteArray) (hl : l.length ≤ 1048576) (hs : ∀ t ∈ l, t.size ≤ 9223372036854775807) : ∀ (d i : Nat) (n : Int), i + d = l.length → 0 ≤ n → n ≤ 1048576 → (∀ j (h : j < l.length), j < i → l[j].size ≤ 1048576) →
    EvP (fun k => laws_szStringS.l0 k l n (i : Int)) (fun r => r < 0 ∨ 0 ≤ r ∧ r ≤ n ∧ ∀ t ∈ l, t.size ≤ 1048576) := by
  intro d
  induction d with
  | zero =>
    intro i n hi h0 h1 hj
    refine EvP.succ ?_
    simp only [laws_szStringS.l0]
    refine EvP.no (by omega) (EvP.ret (.inr ⟨h0, Int.le_refl _, fun t ht => ?_⟩))
    obtain ⟨j, hjl, rfl⟩ := List.getElem_of_mem ht
    exact hj j hjl (by omega)
  | succ d ih =>
    intro i n hi h0 h1 hj
    have hlt : i < l.length := by omega
    have hsz := hs l[i] (List.getElem_mem hlt)
    have e1 : Hd (wrap64 (n - (l[i].size : Int)) = n - (l[i].size : Int)) := ⟨w64 (by omega) (by omega)⟩
    have e2 : Hd (wrap64 ((i : Int) + 1) = ((i + 1 : Nat) : Int)) := ⟨w64 (by omega) (by omega)⟩
    refine EvP.succ ?_
    simp only [laws_szStringS.l0]
    refine EvP.yes (by omega) (EvP.yes (by omega) ?_)
    rw [rdS_at hlt, e1.out, e2.out]
    refine EvP.ite (fun _ => EvP.ret (.inl (by omega))) (fun h => ?_)
    refine (ih (i + 1) _ (by omega) (by omega) (by omega) (fun j h' hji => ?_)).mono (fun r h' => h'.imp id (fun h' => ⟨h'.1, by omega, h'.2.2⟩))
    by_cases e : j = i
    · subst e; omega
    · exact hj j h' (by omega)
theorem sz_strs (l : List ByteArray) (hl : (l.length : Int) ≤ 9223372036854775807) (hs : ∀ t ∈ l, t.size ≤ 9223372036854775807) (n : Int) (h0 : 0 ≤ n) (h1 : n ≤ 1048576) :
    EvP (fun k => laws_szStringS.f k l n) (fun r => r < 0 ∨ 0 ≤ r ∧ r ≤ n ∧ l.length ≤ 1048576 ∧ ∀ t ∈ l, t.size ≤ 1048576) := by
  unfold laws_szStringS.f
  rw [w64 (by omega) (by omega)]
  refine EvP.ite (fun _ => EvP.ret (.inl (by omega))) (fun h => ?_)
  refine (sz_strs_loop l (by omega) hs l.length 0 _ (by omega) (by omega) (by omega) (fun j _ hj => by omega)).mono (fun r h' => h'.imp id (fun h' => ⟨h'.1, by omega, by omega, h'.2.2⟩))
theorem to_strs_loop (l : List ByteArray) (hl : l.length ≤ 1048576) : ∀ (d i : Nat) (xs : List ByteArray), i + d = l.length → xs.length = l.length → xs.take i = l.take i → EvP (fun k => laws_toStringS.l0 k l xs (i : Int)) (· = l) := by
  intro d
  induction d with
  | zero =>
    intro i xs hi hx ht
    refine EvP.succ ?_
    simp only [laws_toStringS.l0]
    refine EvP.no (by omega) (EvP.ret ?_)
    rw [List.take_of_length_le (by omega), List.take_of_length_le (by omega)] at ht
    exact ht
  | succ d ih =>
    intro i xs hi hx ht
    have hlt : i < l.length := by omega
    have e2 : Hd (wrap64 ((i : Int) + 1) = ((i + 1 : Nat) : Int)) := ⟨w64 (by omega) (by omega)⟩
    refine EvP.succ ?_
    simp only [laws_toStringS.l0]
    refine EvP.yes (by omega) (EvP.yes (by omega) (EvP.yes (by omega) ?_))
    rw [rdS_at hlt, e2.out, toNat_nat]
    refine ih (i + 1) _ (by omega) (by simpa using hx) ?_
    rw [List.take_succ_eq_append_getElem (by simp; omega), List.take_succ_eq_append_getElem hlt, List.take_set_of_le (Nat.le_refl _), ht]
    simp
theorem to_strs (l : List ByteArray) (hl : l.length ≤ 1048576) : EvP (fun k => laws_toStringS.f k l) (· = l) := by
  unfold laws_toStringS.f
  refine EvP.yes (by omega) (EvP.yes (by rw [toNat_nat]; omega) ?_)
  exact to_strs_loop l hl l.length 0 _ (by omega) (by rw [List.length_replicate, toNat_nat]) rfl
theorem eq_strs_loop (l : List ByteArray) (hl : l.length ≤ 1048576) : ∀ d i : Nat, i + d = l.length → EvP (fun k => laws_eqStringS.l0 k l l (i : Int)) (· = true) := by
  intro d
  induction d with
  | zero =>
    intro i hi
    refine EvP.succ ?_
    simp only [laws_eqStringS.l0]
    exact EvP.no (by omega) (EvP.ret rfl)
  | succ d ih =>
    intro i hi
    have e2 : Hd (wrap64 ((i : Int) + 1) = ((i + 1 : Nat) : Int)) := ⟨w64 (by omega) (by omega)⟩
    refine EvP.succ ?_
    simp only [laws_eqStringS.l0]
    refine EvP.yes (by omega) (EvP.yes (by omega) (EvP.yes (by omega) (EvP.yes trivial ?_)))
    rw [e2.out]
    exact ih (i + 1) (by omega)
theorem eq_strs (l : List ByteArray) (hl : l.length ≤ 1048576) : EvP (fun k => laws_eqStringS.f k l l) (· = true) := by
  unfold laws_eqStringS.f
  exact EvP.yes rfl (eq_strs_loop l hl l.length 0 (by omega))
end Go.Proofs.YtejoneninbdjbaaDoor.Pur
end
section
namespace Go.Proofs.YtejoneninbdjbaaDoor.E
open Go.RowKit Go.Proofs.YtejoneninbdjbaaDoorW.PrintWords Go.Proofs.YtejoneninbdjbaaDoorW.PrintLast Go.Proofs.YtejoneninbdjbaaDoorW.PrintMore
attribute [local go_sem] max2_int min2_int max_two min_two max_three min_three max_four min_four
set_option linter.unusedVariables false
set_option linter.unusedSimpArgs false
attribute [local go_sem] str_leq_ str_gtr_ str_geq_
def spec_BooksFar.f (k : Nat) (l0 : List ByteArray) (a1 : Int) (a2 : Int) : Option (Int) := (spec_BooksValid.f k l0).bind fun t142 => (if t142 = true then ((spec_l6In.f a1 0 (wrap64 ((l0.length : Int) - 1))).bind fun t143 => (if t143 = true then ((spec_l6In.f a2 0 (wrap64 ((l0.length : Int) - 1))).bind fun t144 => (if t144 = true then (if 0 ≤ a1 then (if a1 < (l0.length : Int) then (if 0 ≤ a2 then (if a2 < (l0.length : Int) then ((spec_l7Far.f k (rdOf ByteArray.empty l0 a1) (rdOf ByteArray.empty l0 a2)).bind fun t147 => (some t147)) else (none)) else (none)) else (none)) else (none)) else (some (-1)))) else (some (-1)))) else (some (-1)))
end Go.Proofs.YtejoneninbdjbaaDoor.E
end
section
namespace Go.Proofs.YtejoneninbdjbaaDoor.E
open Go.RowKit Go.Proofs.YtejoneninbdjbaaDoorW.PrintWords Go.Proofs.YtejoneninbdjbaaDoorW.PrintLast Go.Proofs.YtejoneninbdjbaaDoorW.PrintMore
attribute [local go_sem] max2_int min2_int max_two min_two max_three min_three max_four min_four
set_option linter.unusedVariables false
set_option linter.unusedSimpArgs false
attribute [local go_sem] str_leq_ str_gtr_ str_geq_
def impl_BooksFar.f (k : Nat) (l0 : List ByteArray) (a1 : Int) (a2 : Int) : Option (Int) := (impl_BooksValid.f k l0).bind fun t148 => (if t148 = true then (if (mn a1 a2) < 0 then (some (-1)) else (if (mx a1 a2) ≥ (l0.length : Int) then (some (-1)) else (if 0 ≤ a1 then (if a1 < (l0.length : Int) then (if 0 ≤ a2 then (if a2 < (l0.length : Int) then ((impl_farBetween.f k (rdOf ByteArray.empty l0 a1) (rdOf ByteArray.empty l0 a2)).bind fun t151 => (some t151)) else (none)) else (none)) else (none)) else (none)))) else (some (-1)))
end Go.Proofs.YtejoneninbdjbaaDoor.E
end
section
namespace Go.Proofs.YtejoneninbdjbaaDoor.E
open Go.RowKit Go.Proofs.YtejoneninbdjbaaDoorW.PrintWords Go.Proofs.YtejoneninbdjbaaDoorW.PrintLast Go.Proofs.YtejoneninbdjbaaDoorW.PrintMore
attribute [local go_sem] max2_int min2_int max_two min_two max_three min_three max_four min_four
set_option linter.unusedVariables false
set_option linter.unusedSimpArgs false
attribute [local go_sem] str_leq_ str_gtr_ str_geq_
def laws_FnExactBooksFar.f (k : Nat) (l0 : List ByteArray) (a1 : Int) (a2 : Int) : Option (Bool) := (laws_szStringS.f k l0 1048576).bind fun t152 => (if t152 < 0 then (some true) else ((laws_toStringS.f k l0).bind fun t153 => ((spec_BooksFar.f k t153 a1 a2).bind fun t156 => ((laws_toStringS.f k l0).bind fun t157 => ((impl_BooksFar.f k t157 a1 a2).bind fun t160 => (if t160 = t156 then ((laws_toStringS.f k l0).bind fun t161 => ((laws_eqStringS.f k t157 t161).bind fun t164 => (if t164 = true then (some true) else (some false)))) else (some false)))))))
end Go.Proofs.YtejoneninbdjbaaDoor.E
end
section
namespace Go.Proofs.YtejoneninbdjbaaDoor.Pur
open Go.RowKit Go.Proofs.YtejoneninbdjbaaDoorW.PrintWords Go.Proofs.YtejoneninbdjbaaDoorW.PrintMore Go.Proofs.YtejoneninbdjbaaDoor.E
def diffs : List UInt8 → List UInt8 → Nat
  | a :: x, b :: y => (if a = b then 0 else 1) + diffs x y
  | _, _ => 0
def farT (s t : ByteArray) : Int := (diffs s.data.toList t.data.toList : Nat)
theorem spec_far_loop (s t : ByteArray) (hs : s.size ≤ 1048576) (ht : s.size ≤ t.size) : ∀ (d i : Nat) (n : Int), i + d = s.size → 0 ≤ n → n ≤ i → EvP (fun k => spec_l7Far.l0 k s t n (i : Int)) (· = n + (diffs (s.data.toList.drop i) (t.data.toList.drop i) : Nat)) := by
  intro d
  induction d with
  | zero =>
    intro i n hi h0 h1
    refine EvP.succ ?_
    simp only [spec_l7Far.l0]
    refine EvP.no (by omega) (EvP.ret ?_)
    rw [List.drop_of_length_le (show s.data.toList.length ≤ i by rw [list_len]; omega)]
    simp [diffs]
  | succ d ih =>
    intro i n hi h0 h1
    have hlt : i < s.size := by omega
    have hlt' : i < t.size := by omega
    have e1 : Hd (wrap64 (n + 1) = n + 1) := ⟨w64 (by omega) (by omega)⟩
    have e2 : Hd (wrap64 ((i : Int) + 1) = ((i + 1 : Nat) : Int)) := ⟨w64 (by omega) (by omega)⟩
    refine EvP.succ ?_
    simp only [spec_l7Far.l0]
    refine EvP.yes (by omega) (EvP.yes (by omega) (EvP.yes (by omega) ?_))
    rw [bt_at s i hlt, bt_at t i hlt', e1.out, e2.out, List.drop_eq_getElem_cons (show i < s.data.toList.length by rw [list_len]; exact hlt), List.drop_eq_getElem_cons (show i < t.data.toList.length by rw [list_len]; exact hlt'), diffs]
    refine EvP.ite (fun h => ?_) (fun h => ?_)
    · rw [if_pos (UInt8.toNat_inj.mp (by omega)), Nat.zero_add]
      exact ih (i + 1) n (by omega) h0 (by omega)
    · rw [if_neg (fun e => h (by rw [e]))]
      refine (ih (i + 1) (n + 1) (by omega) (by omega) (by omega)).mono (fun r e => by rw [e]; omega)
theorem spec_far (s t : ByteArray) (hs : s.size ≤ 1048576) (ht : s.size ≤ t.size) : EvP (fun k => spec_l7Far.f k s t) (· = farT s t) := by
  unfold spec_l7Far.f
  refine (spec_far_loop s t hs ht s.size 0 0 (by omega) (by omega) (by omega)).mono (fun r e => by rw [e]; unfold farT; simp)
theorem impl_far_loop (s t : ByteArray) (hs : s.size ≤ 1048576) (ht : s.size ≤ t.size) : ∀ (d i : Nat) (n : Int), i + d = s.size → 0 ≤ n → n ≤ i → EvP (fun k => impl_farBetween.l0 k s t n (s.size : Int) (i : Int)) (· = n + (diffs (s.data.toList.drop i) (t.data.toList.drop i) : Nat)) := by
  intro d
  induction d with
  | zero =>
    intro i n hi h0 h1
    refine EvP.succ ?_
    simp only [impl_farBetween.l0]
    refine EvP.no (by omega) (EvP.ret ?_)
    rw [List.drop_of_length_le (show s.data.toList.length ≤ i by rw [list_len]; omega)]
    simp [diffs]
  | succ d ih =>
    intro i n hi h0 h1
    have hlt : i < s.size := by omega
    have hlt' : i < t.size := by omega
    have e1 : Hd (wrap64 (n + 1) = n + 1) := ⟨w64 (by omega) (by omega)⟩
    have e2 : Hd (wrap64 ((i : Int) + 1) = ((i + 1 : Nat) : Int)) := ⟨w64 (by omega) (by omega)⟩
    refine EvP.succ ?_
    simp only [impl_farBetween.l0]
    refine EvP.yes (by omega) (EvP.yes (by omega) (EvP.yes (by omega) (EvP.yes (by omega) ?_)))
    rw [bt_at s i hlt, bt_at t i hlt', e1.out, e2.out, List.drop_eq_getElem_cons (show i < s.data.toList.length by rw [list_len]; exact hlt), List.drop_eq_getElem_cons (show i < t.data.toList.length by rw [list_len]; exact hlt'), diffs]
    refine EvP.ite (fun h => ?_) (fun h => ?_)
    · rw [if_pos (UInt8.toNat_inj.mp (by omega)), Nat.zero_add]
      exact ih (i + 1) n (by omega) h0 (by omega)
    · rw [if_neg (fun e => h (by rw [e]))]
      refine (ih (i + 1) (n + 1) (by omega) (by omega) (by omega)).mono (fun r e => by rw [e]; omega)
theorem impl_far (s t : ByteArray) (hs : s.size ≤ 1048576) (ht : s.size ≤ t.size) : EvP (fun k => impl_farBetween.f k s t) (· = farT s t) := by
  unfold impl_farBetween.f
  refine (impl_far_loop s t hs ht s.size 0 0 (by omega) (by omega) (by omega)).mono (fun r e => by rw [e]; unfold farT; simp)
theorem goB_ok (n : Nat) : ∀ (l : List ByteArray) (c : Int), (goB n l c).2 = true → ∀ t ∈ l, t.size = n ∧ (readB t = true ∨ lostB t = true)
  | [], _, _, _, h => by cases h
  | t :: ts, c, h, x, hx => by
    rw [goB] at h
    by_cases g : t.size = n ∧ (readB t = true ∨ lostB t = true)
    · rw [if_pos g] at h
      rcases List.mem_cons.mp hx with rfl | hx
      · exact g
      · exact goB_ok n ts _ h x hx
    · rw [if_neg g] at h
      exact absurd h (by decide)
theorem books_ok {l : List ByteArray} (h : (booksOf l).2 = true) : 1 ≤ l.length ∧ l.length ≤ 6 ∧ ∃ n : Nat, 1 ≤ n ∧ n ≤ 8 ∧ ∀ t ∈ l, t.size = n ∧ (readB t = true ∨ lostB t = true) := by
  unfold booksOf at h
  by_cases g : 1 ≤ l.length ∧ l.length ≤ 6 ∧ 1 ≤ (l.getD 0 ByteArray.empty).size ∧ (l.getD 0 ByteArray.empty).size ≤ 8
  · rw [if_pos g] at h
    exact ⟨g.1, g.2.1, _, g.2.2.1, g.2.2.2, goB_ok _ l 0 h⟩
  · rw [if_neg g] at h
    exact absurd h (by decide)
theorem okBooks_ok {l : List ByteArray} (h : okBooks l = true) : 1 ≤ l.length ∧ l.length ≤ 6 ∧ ∃ n : Nat, 1 ≤ n ∧ n ≤ 8 ∧ ∀ t ∈ l, t.size = n ∧ (readB t = true ∨ lostB t = true) := by
  unfold okBooks at h
  rw [Bool.and_eq_true] at h
  exact books_ok h.1
def farOf (l : List ByteArray) (i k : Int) : Int := if okBooks l = true ∧ 0 ≤ i ∧ i < l.length ∧ 0 ≤ k ∧ k < l.length then farT (rdOf ByteArray.empty l i) (rdOf ByteArray.empty l k) else -1
theorem rd_mem {l : List ByteArray} {i : Int} (h0 : 0 ≤ i) (h1 : i < l.length) : rdOf ByteArray.empty l i ∈ l := by
  obtain ⟨j, rfl⟩ := Int.eq_ofNat_of_zero_le h0
  rw [rd_at (by omega)]
  exact List.getElem_mem _
end Go.Proofs.YtejoneninbdjbaaDoor.Pur
end
section
namespace Go.Proofs.YtejoneninbdjbaaDoor.E
open Go.RowKit Go.Proofs.YtejoneninbdjbaaDoorW.PrintWords Go.Proofs.YtejoneninbdjbaaDoorW.PrintLast Go.Proofs.YtejoneninbdjbaaDoorW.PrintMore
attribute [local go_sem] max2_int min2_int max_two min_two max_three min_three max_four min_four
set_option linter.unusedVariables false
set_option linter.unusedSimpArgs false
attribute [local go_sem] str_leq_ str_gtr_ str_geq_
def laws_toIntS.l0 : Nat → List Int → List Int → Int → Option (List Int)
 | 0, _, _, _ => none
 | k + 1, x0, x3, x4 => if x4 < (x0.length : Int) then (if 0 ≤ x4 then (if x4 < (x3.length : Int) then (laws_toIntS.l0 k x0 (x3.set (x4 : Int).toNat (rd x0 x4)) (wrap64 (x4 + 1))) else (none)) else (none)) else (some x3)
def laws_toIntS.f (k : Nat) (l0 : List Int) : Option (List Int) := if 0 ≤ (l0.length : Int) then (if ((l0.length : Int) : Int).toNat ≤ 35184372088832 then (laws_toIntS.l0 k l0 (List.replicate ((l0.length : Int) : Int).toNat 0) 0) else (none)) else (none)
end Go.Proofs.YtejoneninbdjbaaDoor.E
end
section
namespace Go.Proofs.YtejoneninbdjbaaDoor.Pur
open Go.RowKit Go.Proofs.YtejoneninbdjbaaDoorW.PrintWords Go.Proofs.YtejoneninbdjbaaDoorW.PrintMore Go.Proofs.YtejoneninbdjbaaDoor.E
theorem rdI_at {l : List Int} {i : Nat} (h : i < l.length) : rd l (i : Int) = l[i] := by
  unfold rd
  rw [toNat_nat, List.getD_eq_getElem?_getD, List.getElem?_eq_getElem h]
  rfl
theorem eq_ints_loop (l : List Int) (hl : l.length ≤ 1048576) : ∀ d i : Nat, i + d = l.length → EvP (fun k => laws_eqIntS.l0 k l l (i : Int)) (· = true) := by
  intro d
  induction d with
  | zero =>
    intro i hi
    refine EvP.succ ?_
    simp only [laws_eqIntS.l0]
    exact EvP.no (by omega) (EvP.ret rfl)
  | succ d ih =>
    intro i hi
    have e2 : Hd (wrap64 ((i : Int) + 1) = ((i + 1 : Nat) : Int)) := ⟨w64 (by omega) (by omega)⟩
    refine EvP.succ ?_
    simp only [laws_eqIntS.l0]
    refine EvP.yes (by omega) (EvP.yes (by omega) (EvP.yes (by omega) (EvP.yes trivial ?_)))
    rw [e2.out]
    exact ih (i + 1) (by omega)
theorem eq_ints (l : List Int) (hl : l.length ≤ 1048576) : EvP (fun k => laws_eqIntS.f k l l) (· = true) := by
  unfold laws_eqIntS.f
  exact EvP.yes rfl (eq_ints_loop l hl l.length 0 (by omega))
theorem mark_ints_loop (m : Nat) (hm : m ≤ 1048576) (n : Int) (hn : 0 ≤ n ∧ n ≤ 1048576) : ∀ (d i : Nat) (x : List Int), i + d = m → x.length = m → (∀ j, j < i → x[j]? = some (n + j)) →
    EvP (fun k => laws_markIntS.l0 k x (n + i) (i : Int)) (fun r => r.1 = n + m ∧ r.2.length = m ∧ ∀ j, j < m → r.2[j]? = some (n + j)) := by
  intro d
  induction d with
  | zero =>
    intro i x hi hx ht
    refine EvP.succ ?_
    simp only [laws_markIntS.l0]
    refine EvP.no (by omega) (EvP.ret ⟨by dsimp only; omega, hx, fun j hj => ht j (by omega)⟩)
  | succ d ih =>
    intro i x hi hx ht
    have e1 : Hd (wrap64 (n + i + 1) = n + ((i + 1 : Nat) : Int)) := ⟨by rw [w64 (by omega) (by omega)]; omega⟩
    have e2 : Hd (wrap64 ((i : Int) + 1) = ((i + 1 : Nat) : Int)) := ⟨w64 (by omega) (by omega)⟩
    refine EvP.succ ?_
    simp only [laws_markIntS.l0]
    refine EvP.yes (by omega) (EvP.yes (by omega) ?_)
    rw [e1.out, e2.out, toNat_nat]
    refine ih (i + 1) _ (by omega) (by simpa using hx) (fun j hj => ?_)
    rw [List.getElem?_set]
    by_cases h : i = j
    · subst h; rw [if_pos rfl, if_pos (by omega)]
    · rw [if_neg h]; exact ht j (by omega)
theorem mark_ints (l : List Int) (hl : l.length ≤ 1048576) : EvP (fun k => laws_markIntS.f k l 1) (fun r => r.1 = 1 + l.length ∧ r.2.length = l.length ∧ ∀ j, j < l.length → r.2[j]? = some (1 + (j : Int))) := by
  unfold laws_markIntS.f
  exact mark_ints_loop l.length hl 1 (by omega) l.length 0 l (by omega) rfl (fun j hj => by omega)
theorem held_ints_loop (x : List Int) (m : Nat) (hm : m ≤ 1048576) (hx : x.length = m) (ht : ∀ j, j < m → x[j]? = some (1 + (j : Int))) : ∀ (d i : Nat), i + d = m → EvP (fun k => laws_heldIntS.l0 k x (1 + i) (i : Int)) (· = 1 + (m : Int)) := by
  intro d
  induction d with
  | zero =>
    intro i hi
    refine EvP.succ ?_
    simp only [laws_heldIntS.l0]
    exact EvP.no (by omega) (EvP.ret (by omega))
  | succ d ih =>
    intro i hi
    have hlt : i < x.length := by omega
    have e1 : Hd (wrap64 (1 + (i : Int) + 1) = 1 + ((i + 1 : Nat) : Int)) := ⟨by rw [w64 (by omega) (by omega)]; omega⟩
    have e2 : Hd (wrap64 ((i : Int) + 1) = ((i + 1 : Nat) : Int)) := ⟨w64 (by omega) (by omega)⟩
    have := ht i (by omega)
    rw [List.getElem?_eq_getElem hlt] at this
    refine EvP.succ ?_
    simp only [laws_heldIntS.l0]
    refine EvP.yes (by omega) (EvP.yes (by omega) (EvP.yes (by rw [rdI_at hlt]; exact Option.some.inj this) ?_))
    rw [e1.out, e2.out]
    exact ih (i + 1) (by omega)
theorem held_ints (x : List Int) (m : Nat) (hm : m ≤ 1048576) (hx : x.length = m) (ht : ∀ j, j < m → x[j]? = some (1 + (j : Int))) : EvP (fun k => laws_heldIntS.f k x 1) (· = 1 + (m : Int)) := by
  unfold laws_heldIntS.f
  exact held_ints_loop x m hm hx ht m 0 (by omega)
end Go.Proofs.YtejoneninbdjbaaDoor.Pur
end
section
namespace Go.Proofs.YtejoneninbdjbaaDoor.E
open Go.RowKit Go.Proofs.YtejoneninbdjbaaDoorW.PrintWords Go.Proofs.YtejoneninbdjbaaDoorW.PrintLast Go.Proofs.YtejoneninbdjbaaDoorW.PrintMore
attribute [local go_sem] max2_int min2_int max_two min_two max_three min_three max_four min_four
set_option linter.unusedVariables false
set_option linter.unusedSimpArgs false
attribute [local go_sem] str_leq_ str_gtr_ str_geq_
mutual
def spec_StemValid.j0 : Nat → List Int → Bool → Option (Bool)
 | 0, _, _ => none
 | k + 1, x1, x33 => if x33 = true then (some false) else (spec_StemValid.l0 k x1 1)
def spec_StemValid.l0 : Nat → List Int → Int → Option (Bool)
 | 0, _, _ => none
 | k + 1, x1, x7 => if x7 < (x1.length : Int) then (if 0 ≤ x7 then ((spec_l6In.f (rd x1 x7) 0 (wrap64 (x7 - 1))).bind fun t169 => (if t169 = true then (spec_StemValid.l0 k x1 (wrap64 (x7 + 1))) else (some false))) else (none)) else (some true)
end
def spec_StemValid.f (k : Nat) (l0 : List ByteArray) (l1 : List Int) : Option (Bool) := (spec_l7Books.f k l0).bind fun bt165 => (if bt165.2 = true then (if bt165.1 = (l0.length : Int) then (spec_StemValid.j0 k l1 true) else (if (l1.length : Int) = (l0.length : Int) then (if 0 < (l1.length : Int) then (spec_StemValid.j0 k l1 ((rd l1 0) != (-1))) else (none)) else (spec_StemValid.j0 k l1 true))) else (spec_StemValid.j0 k l1 true))
end Go.Proofs.YtejoneninbdjbaaDoor.E
end
section
namespace Go.Proofs.YtejoneninbdjbaaDoor.E
open Go.RowKit Go.Proofs.YtejoneninbdjbaaDoorW.PrintWords Go.Proofs.YtejoneninbdjbaaDoorW.PrintLast Go.Proofs.YtejoneninbdjbaaDoorW.PrintMore
attribute [local go_sem] max2_int min2_int max_two min_two max_three min_three max_four min_four
set_option linter.unusedVariables false
set_option linter.unusedSimpArgs false
attribute [local go_sem] str_leq_ str_gtr_ str_geq_
mutual
def impl_StemValid.j0 : Nat → List Int → Bool → Option (Bool)
 | 0, _, _ => none
 | k + 1, x1, x34 => if x34 = true then (some false) else (if 1 ≤ (x1.length : Int) then (impl_StemValid.l0 k (x1.drop 1) ((x1.drop 1).length : Int) 0) else (none))
def impl_StemValid.l0 : Nat → List Int → Int → Int → Option (Bool)
 | 0, _, _, _ => none
 | k + 1, x36, x37, x38 => if x38 < x37 then (if 0 ≤ x38 then (if x38 < (x36.length : Int) then (if (rd x36 x38) < 0 then (some false) else (if (rd x36 x38) > x38 then (some false) else (impl_StemValid.l0 k x36 x37 (wrap64 (x38 + 1))))) else (none)) else (none)) else (some true)
end
def impl_StemValid.f (k : Nat) (l0 : List ByteArray) (l1 : List Int) : Option (Bool) := (impl_lostOf.f k l0).bind fun bt175 => (if bt175.2 = true then (if bt175.1 = (l0.length : Int) then (impl_StemValid.j0 k l1 true) else (if (l1.length : Int) = (l0.length : Int) then (if 0 < (l1.length : Int) then (impl_StemValid.j0 k l1 ((rd l1 0) != (-1))) else (none)) else (impl_StemValid.j0 k l1 true))) else (impl_StemValid.j0 k l1 true))
end Go.Proofs.YtejoneninbdjbaaDoor.E
end
section
namespace Go.Proofs.YtejoneninbdjbaaDoor.Pur
open Go.RowKit Go.Proofs.YtejoneninbdjbaaDoorW.PrintWords Go.Proofs.YtejoneninbdjbaaDoorW.PrintMore Go.Proofs.YtejoneninbdjbaaDoor.E
def VS (l : List ByteArray) (st : List Int) : Prop := (booksOf l).2 = true ∧ (booksOf l).1 ≠ l.length ∧ st.length = l.length ∧ rd st 0 = -1 ∧ ∀ j : Nat, 1 ≤ j → j < st.length → 0 ≤ rd st (j : Int) ∧ rd st (j : Int) < j
end Go.Proofs.YtejoneninbdjbaaDoor.Pur
end
section
namespace Go.Proofs.YtejoneninbdjbaaDoor.Pur
open Go.RowKit Go.Proofs.YtejoneninbdjbaaDoorW.PrintWords Go.Proofs.YtejoneninbdjbaaDoorW.PrintMore Go.Proofs.YtejoneninbdjbaaDoor.E
theorem mark_text_loop : ∀ (d : Nat) (n : Int) (t : ByteArray), 0 ≤ n → n < 10 ^ d → d ≤ 18 → t.size + d ≤ 1000 → EvP (fun k => laws_markText.l0 k n t) (fun r => r.size ≤ 1001) := by
  intro d
  induction d with
  | zero =>
    intro n t h0 h1 _ ht
    refine EvP.succ ?_
    simp only [laws_markText.l0]
    have hn : n = 0 := by rw [Int.pow_zero] at h1; omega
    subst hn
    exact EvP.no (by decide) (EvP.yes (by omega) (EvP.ret (by rw [ByteArray.size_append]; show 1 + t.size ≤ 1001; omega)))
  | succ d ih =>
    intro n t h0 h1 hd ht
    refine EvP.succ ?_
    simp only [laws_markText.l0]
    refine EvP.ite (fun hp => ?_) (fun hp => EvP.yes (by omega) (EvP.ret (by rw [ByteArray.size_append]; show 1 + t.size ≤ 1001; omega)))
    refine EvP.bind (P := fun y => y.length = 1) (EvP.con rfl rfl) (fun y hy => ?_)
    have hs : (strOfNums y).size = 1 := by rw [strOfNums_size]; exact hy
    refine EvP.yes (by omega) ?_
    have hq : Int.tdiv n 10 = n / 10 := tdiv_pos 10 h0
    have hb : n / 10 < 10 ^ d := by
      rw [Int.pow_succ] at h1
      omega
    have hb2 : n / 10 ≤ n := Int.ediv_le_self 10 h0
    have h18 : (10 : Int) ^ d ≤ 10 ^ 18 := by
      have : (10 : Nat) ^ d ≤ 10 ^ 18 := Nat.pow_le_pow_right (by omega) (by omega)
      exact_mod_cast this
    rw [hq, w64 (by omega) (by omega)]
    exact ih (n / 10) _ (Int.ediv_nonneg h0 (by omega)) hb (by omega) (by rw [ByteArray.size_append]; omega)
theorem mark_text (n : Int) (h0 : 0 ≤ n) (h1 : n ≤ 2000000) : EvP (fun k => laws_markText.f k n) (fun r => r.size ≤ 1001) := by
  unfold laws_markText.f
  refine EvP.ite (fun _ => EvP.ret (by show 2 ≤ 1001; omega)) (fun _ => ?_)
  exact mark_text_loop 18 n ⟨#[]⟩ h0 (by omega) (Nat.le_refl _) (by show 0 + 18 ≤ 1000; omega)
theorem mark_strs_loop (m : Nat) (hm : m ≤ 1048576) : ∀ (d i : Nat) (x : List ByteArray), i + d = m → x.length = m → EvP (fun k => laws_markStringS.l0 k x (1 + i) (i : Int)) (fun r => r.1 = 1 + (m : Int)) := by
  intro d
  induction d with
  | zero =>
    intro i x hi hx
    refine EvP.succ ?_
    simp only [laws_markStringS.l0]
    exact EvP.no (by omega) (EvP.ret (by dsimp only; omega))
  | succ d ih =>
    intro i x hi hx
    have e1 : Hd (wrap64 (1 + (i : Int) + 1) = 1 + ((i + 1 : Nat) : Int)) := ⟨by rw [w64 (by omega) (by omega)]; omega⟩
    have e2 : Hd (wrap64 ((i : Int) + 1) = ((i + 1 : Nat) : Int)) := ⟨w64 (by omega) (by omega)⟩
    refine EvP.succ ?_
    simp only [laws_markStringS.l0]
    refine EvP.yes (by omega) ?_
    refine EvP.bind (mark_text _ (by omega) (by omega)) (fun t _ => ?_)
    refine EvP.yes (by omega) ?_
    rw [e1.out, e2.out]
    exact ih (i + 1) _ (by omega) (by simpa using hx)
theorem mark_strs (l : List ByteArray) (hl : l.length ≤ 1048576) : EvP (fun k => laws_markStringS.f k l 1) (fun r => r.1 = 1 + (l.length : Int)) := by
  unfold laws_markStringS.f
  exact mark_strs_loop l.length hl l.length 0 l (by omega) rfl
end Go.Proofs.YtejoneninbdjbaaDoor.Pur
end
section
namespace Go.Proofs.YtejoneninbdjbaaDoor.Pur
open Go.RowKit Go.Proofs.YtejoneninbdjbaaDoorW.PrintWords Go.Proofs.YtejoneninbdjbaaDoorW.PrintMore Go.Proofs.YtejoneninbdjbaaDoor.E
def near (l : List ByteArray) (i : Nat) : Nat → Nat → Nat → Nat
  | 0, _, b => b
  | d + 1, k, b => near l i d (k + 1) (if farT (rdOf ByteArray.empty l (i : Int)) (rdOf ByteArray.empty l (k : Int)) < farT (rdOf ByteArray.empty l (i : Int)) (rdOf ByteArray.empty l (b : Int)) then k else b)
def bests (l : List ByteArray) : Nat → Nat → List Int
  | 0, _ => []
  | d + 1, i => ((near l i (i - 1) 1 0 : Nat) : Int) :: bests l d (i + 1)
theorem bests_len (l : List ByteArray) : ∀ d i, (bests l d i).length = d
  | 0, _ => rfl
  | d + 1, i => by rw [bests, List.length_cons, bests_len l d (i + 1)]
section
variable (l : List ByteArray) (n : Nat) (hn : n ≤ 1048576) (hsz : ∀ t ∈ l, t.size = n) (hl : l.length ≤ 6)
include hn hsz hl
theorem impl_near_loop (i : Nat) (hi : i < l.length) (acc : List Int) (Q : List Int × Bool → Prop) : ∀ (d k b : Nat), k + d = i → b < i → (EvP (fun m => if acc.length < 17592186044416 then impl_StemBest.l0 m l (acc ++ [((near l i d k b : Nat) : Int)]) (wrap64 ((i : Int) + 1)) else none) Q) → EvP (fun m => impl_StemBest.l1 m l acc (i : Int) (b : Int) (k : Int)) Q := by
  intro d
  induction d with
  | zero =>
    intro k b hk hb K
    refine EvP.succ ?_
    simp only [impl_StemBest.l1]
    exact EvP.no (by omega) K
  | succ d ih =>
    intro k b hk hb K
    have m0 := hsz _ (rd_mem (l := l) (i := (i : Int)) (by omega) (by omega))
    have m1 := hsz _ (rd_mem (l := l) (i := (k : Int)) (by omega) (by omega))
    have m2 := hsz _ (rd_mem (l := l) (i := (b : Int)) (by omega) (by omega))
    have e2 : Hd (wrap64 ((k : Int) + 1) = ((k + 1 : Nat) : Int)) := ⟨w64 (by omega) (by omega)⟩
    refine EvP.succ ?_
    simp only [impl_StemBest.l1]
    refine EvP.yes (by omega) (EvP.yes (by omega) (EvP.yes (by omega) (EvP.yes (by omega) (EvP.yes (by omega) ?_))))
    refine EvP.bind (impl_far _ _ (by omega) (by omega)) (fun _ e => ?_)
    subst e
    refine EvP.yes (by omega) (EvP.yes (by omega) ?_)
    refine EvP.bind (impl_far _ _ (by omega) (by omega)) (fun _ e => ?_)
    subst e
    rw [e2.out]
    rw [near] at K
    refine EvP.ite (fun h => ?_) (fun h => ?_)
    · rw [if_pos h] at K; exact ih (k + 1) k (by omega) (by omega) K
    · rw [if_neg h] at K; exact ih (k + 1) b (by omega) hb K
theorem spec_near_loop (i : Nat) (hi : i < l.length) (acc : List Int) (Q : List Int × Bool → Prop) : ∀ (d k b : Nat), k + d = i → b < i → (EvP (fun m => if acc.length < 17592186044416 then spec_StemBest.l0 m l (acc ++ [((near l i d k b : Nat) : Int)]) (wrap64 ((i : Int) + 1)) else none) Q) → EvP (fun m => spec_StemBest.l1 m l acc (i : Int) (b : Int) (k : Int)) Q := by
  intro d
  induction d with
  | zero =>
    intro k b hk hb K
    refine EvP.succ ?_
    simp only [spec_StemBest.l1]
    exact EvP.no (by omega) K
  | succ d ih =>
    intro k b hk hb K
    have m0 := hsz _ (rd_mem (l := l) (i := (i : Int)) (by omega) (by omega))
    have m1 := hsz _ (rd_mem (l := l) (i := (k : Int)) (by omega) (by omega))
    have m2 := hsz _ (rd_mem (l := l) (i := (b : Int)) (by omega) (by omega))
    have e2 : Hd (wrap64 ((k : Int) + 1) = ((k + 1 : Nat) : Int)) := ⟨w64 (by omega) (by omega)⟩
    refine EvP.succ ?_
    simp only [spec_StemBest.l1]
    refine EvP.yes (by omega) (EvP.yes (by omega) (EvP.yes (by omega) (EvP.yes (by omega) (EvP.yes (by omega) ?_))))
    refine EvP.bind (spec_far _ _ (by omega) (by omega)) (fun _ e => ?_)
    subst e
    refine EvP.yes (by omega) (EvP.yes (by omega) ?_)
    refine EvP.bind (spec_far _ _ (by omega) (by omega)) (fun _ e => ?_)
    subst e
    rw [e2.out]
    rw [near] at K
    refine EvP.ite (fun h => ?_) (fun h => ?_)
    · rw [if_pos h] at K; exact ih (k + 1) k (by omega) (by omega) K
    · rw [if_neg h] at K; exact ih (k + 1) b (by omega) hb K
theorem impl_best_loop : ∀ (d i : Nat) (acc : List Int), 1 ≤ i → i + d = l.length → acc.length + d ≤ 100 → EvP (fun m => impl_StemBest.l0 m l acc (i : Int)) (· = (acc ++ bests l d i, true)) := by
  intro d
  induction d with
  | zero =>
    intro i acc h1 hi ha
    refine EvP.succ ?_
    simp only [impl_StemBest.l0]
    exact EvP.no (by omega) (EvP.ret (by rw [bests, List.append_nil]))
  | succ d ih =>
    intro i acc h1 hi ha
    refine EvP.succ ?_
    simp only [impl_StemBest.l0]
    refine EvP.yes (by omega) ?_
    refine impl_near_loop l n hn hsz hl i (by omega) acc _ (i - 1) 1 0 (by omega) (by omega) ?_
    refine EvP.yes (by omega) ?_
    rw [w64 (by omega) (by omega), bests]
    refine (ih (i + 1) _ (by omega) (by omega) (by simp; omega)).mono (fun r e => by rw [e, List.append_assoc]; rfl)
theorem spec_best_loop : ∀ (d i : Nat) (acc : List Int), 1 ≤ i → i + d = l.length → acc.length + d ≤ 100 → EvP (fun m => spec_StemBest.l0 m l acc (i : Int)) (· = (acc ++ bests l d i, true)) := by
  intro d
  induction d with
  | zero =>
    intro i acc h1 hi ha
    refine EvP.succ ?_
    simp only [spec_StemBest.l0]
    exact EvP.no (by omega) (EvP.ret (by rw [bests, List.append_nil]))
  | succ d ih =>
    intro i acc h1 hi ha
    refine EvP.succ ?_
    simp only [spec_StemBest.l0]
    refine EvP.yes (by omega) ?_
    refine spec_near_loop l n hn hsz hl i (by omega) acc _ i 0 0 (by omega) (by omega) ?_
    refine EvP.yes (by omega) ?_
    have e0 : near l i i 0 0 = near l i (i - 1) 1 0 := by
      obtain ⟨j, rfl⟩ : ∃ j, i = j + 1 := ⟨i - 1, by omega⟩
      rw [near]
      simp
    rw [e0, w64 (by omega) (by omega), bests]
    refine (ih (i + 1) _ (by omega) (by omega) (by simp; omega)).mono (fun r e => by rw [e, List.append_assoc]; rfl)
end
def bestOf (l : List ByteArray) : List Int × Bool := if okBooks l = true then ((-1) :: bests l (l.length - 1) 1, true) else ([], false)
theorem spec_best (l : List ByteArray) (hs : ∀ t ∈ l, t.size ≤ 9223372036854775806) : EvP (fun k => spec_StemBest.f k l) (· = bestOf l) := by
  unfold spec_StemBest.f bestOf
  refine EvP.bind (spec_okBooks l hs) (fun _ e => ?_)
  subst e
  refine EvP.ite (fun h => ?_) (fun h => EvP.ret (by rw [if_neg h]))
  obtain ⟨l1, l6, n, n1, n8, hn⟩ := okBooks_ok h
  rw [if_pos h]
  exact spec_best_loop l n (by omega) (fun t ht => (hn t ht).1) l6 (l.length - 1) 1 [-1] (by omega) (by omega) (by simp; omega)
theorem impl_best (l : List ByteArray) (hs : ∀ t ∈ l, t.size ≤ 9223372036854775806) : EvP (fun k => impl_StemBest.f k l) (· = bestOf l) := by
  unfold impl_StemBest.f bestOf
  refine EvP.bind (impl_okBooks l hs) (fun _ e => ?_)
  subst e
  refine EvP.ite (fun h => ?_) (fun h => EvP.ret (by rw [if_neg h]))
  obtain ⟨l1, l6, n, n1, n8, hn⟩ := okBooks_ok h
  rw [if_pos h]
  exact impl_best_loop l n (by omega) (fun t ht => (hn t ht).1) l6 (l.length - 1) 1 [-1] (by omega) (by omega) (by simp; omega)
theorem bestOf_len (l : List ByteArray) : (bestOf l).1.length ≤ 1048576 := by
  unfold bestOf
  by_cases h : okBooks l = true
  · obtain ⟨l1, l6, _⟩ := okBooks_ok h
    rw [if_pos h, List.length_cons, bests_len]
    omega
  · rw [if_neg h]; simp
theorem exact_best (l : List ByteArray) (hm : (l.length : Int) ≤ 9223372036854775807) (hx : ∀ t ∈ l, t.size ≤ 9223372036854775807) : ∃ k, laws_FnExactStemBest.f k l = some true := by
  refine EvP.rounds (?_ : EvP (fun k => laws_FnExactStemBest.f k l) (· = true))
  unfold laws_FnExactStemBest.f
  refine EvP.bind (sz_strs l hm hx 1048576 (by omega) (by omega)) (fun r hr => ?_)
  refine EvP.ite (fun _ => EvP.ret rfl) (fun hn => ?_)
  obtain ⟨_, _, hl, hs⟩ := hr.resolve_left hn
  have hs' : ∀ t ∈ l, t.size ≤ 9223372036854775806 := fun t ht => Nat.le_trans (hs t ht) (by omega)
  refine EvP.bind (to_strs l hl) (fun _ e => ?_)
  subst e
  refine EvP.bind (spec_best _ hs') (fun _ e => ?_)
  subst e
  refine EvP.bind (to_strs _ hl) (fun _ e => ?_)
  subst e
  refine EvP.bind (impl_best _ hs') (fun _ e => ?_)
  subst e
  have hb : ∀ x, (bestOf x).1.length ≤ 1048576 := bestOf_len
  refine EvP.bind (eq_ints _ (hb _)) (fun _ e => ?_)
  subst e
  refine EvP.yes rfl ?_
  rw [bne_self_eq_false]
  refine EvP.succ ?_
  simp only [laws_FnExactStemBest.j0]
  refine EvP.no (by decide) ?_
  refine EvP.bind (to_strs _ hl) (fun _ e => ?_)
  subst e
  refine EvP.bind (eq_strs _ hl) (fun _ e => ?_)
  subst e
  refine EvP.yes rfl ?_
  refine EvP.bind (mark_strs _ hl) (fun q hq => ?_)
  refine EvP.no (by omega) ?_
  refine EvP.bind (eq_ints _ (hb _)) (fun _ e => ?_)
  subst e
  refine EvP.yes rfl ?_
  rw [bne_self_eq_false]
  refine EvP.succ ?_
  simp only [laws_FnExactStemBest.j1]
  refine EvP.no (by decide) ?_
  refine EvP.bind (mark_ints _ (hb _)) (fun m hmk => ?_)
  refine EvP.bind (held_ints m.2 _ (hb _) hmk.2.1 hmk.2.2) (fun _ e => ?_)
  subst e
  refine EvP.no (by omega) (EvP.yes hmk.1.symm ?_)
  refine EvP.bind (to_strs _ hl) (fun _ e => ?_)
  subst e
  refine EvP.bind (impl_best _ hs') (fun _ e => ?_)
  subst e
  refine EvP.bind (eq_ints _ (hb _)) (fun _ e => ?_)
  subst e
  refine EvP.yes rfl ?_
  rw [bne_self_eq_false]
  refine EvP.succ ?_
  simp only [laws_FnExactStemBest.j2]
  refine EvP.no (by decide) ?_
  refine EvP.bind (held_ints m.2 _ (hb _) hmk.2.1 hmk.2.2) (fun _ e => ?_)
  subst e
  exact EvP.no (by omega) (EvP.yes hmk.1.symm (EvP.ret rfl))
end Go.Proofs.YtejoneninbdjbaaDoor.Pur
end
section
namespace Go.Proofs.YtejoneninbdjbaaDoor.Head
set_option maxRecDepth 100000
theorem and_t {a b : Bool} (h : a = true) (k : b = true) : (a && b) = true := by rw [h, k]; rfl
theorem mayEnter_of {P : Program} {l : List String} {W rest : List (List Char)} (h : behindMainWord (wordsSigns P.initOrder.toList) = W) (hc : ∃ c r, W = c :: r ∧ (c == "gc".toList || c == "spec".toList) = false ∧ (c == "carried".toList) = false) (hs : stripLifts liftWords W = (l, "cut".toList :: rest))
    (hl : (l.contains "finals" || !P.laysLater) = true) (hb : (l.contains "reflectrows" || !P.bearsReflect) = true) (hr : (l.contains "reflectrows" || !l.contains "leanrows") = true) (hd : P.doorFits l = true) : P.mayEnter = true := by
  obtain ⟨c, r, rfl, h1, h2⟩ := hc
  unfold Program.mayEnter
  rw [h]
  dsimp only
  rw [hs, hl, hb, hr, hd, h1, h2]
  simp
theorem headLifts_of {P : Program} {l : List String} {W rest : List (List Char)} (h : behindMainWord (wordsSigns P.initOrder.toList) = W) (hs : stripLifts liftWords W = (l, "cut".toList :: rest)) : P.headLifts = l := by
  unfold Program.headLifts
  rw [h]
  dsimp only
  rw [hs]
  simp
theorem liftsFinal_of {P : Program} {l : List String} {W rest : List (List Char)} (h : behindMainWord (wordsSigns P.initOrder.toList) = W) (hc : ∃ c r, W = c :: r ∧ (c == "gc".toList || c == "spec".toList) = false ∧ (c == "carried".toList) = false) (hs : stripLifts liftWords W = (l, "cut".toList :: rest)) : P.liftsFinal = l.contains "finals" := by
  unfold Program.liftsFinal
  rw [headLifts_of h hs, h]
  obtain ⟨c, r, rfl, h1, h2⟩ := hc
  have h3 : ((c :: r).head? == some "carried".toList) = false := by
    rw [beq_eq_false_iff_ne] at h2 ⊢
    exact fun e => h2 (Option.some.inj e)
  dsimp only
  rw [h3, Bool.false_and, Bool.false_or]
theorem make_of {P : Program} {rest : List (List Char)} (h : behindMainWord (wordsSigns P.initOrder.toList) = "cut".toList :: rest) : P.make = some .cut := by
  unfold Program.make
  rw [h]
  dsimp only
  rw [if_neg (by decide), if_pos (by simp)]
theorem mainIs_of {P : Program} {s : List Char} {rest : List (List Char)} (h : wordsSigns P.initOrder.toList = "harness".toList :: s :: rest) (hs : isSumSigns s = true) : P.mainIs = some (true, s) := by
  unfold Program.mainIs
  rw [h]
  dsimp only
  rw [hs]
  simp
def io : List Nat := [104, 97, 114, 110, 101, 115, 115, 32, 97, 49, 55, 53, 100, 55, 49, 55, 50, 99, 49, 55, 51, 50, 52, 49, 97, 52, 51, 56, 99, 53, 50, 99, 97, 100, 56, 102, 50, 99, 98, 98, 56, 52, 101, 54, 98, 50, 52, 101, 51, 97, 99, 54, 56, 49, 102, 49, 99, 55, 51, 51, 99, 98, 98, 57, 52, 51, 98, 49, 102, 48, 55, 99, 32, 99, 117, 116, 32, 97, 116, 32, 108, 111, 111, 112, 46, 101, 120, 97, 109, 112, 108, 101, 47, 110, 101, 117, 109, 101, 115, 47, 108, 97, 119, 115, 46, 70, 110, 69, 120, 97, 99, 116, 66, 111, 111, 107, 115, 86, 97, 108, 105, 100, 32, 108, 111, 111, 112, 46, 101, 120, 97, 109, 112, 108, 101, 47, 110, 101, 117, 109, 101, 115, 47, 108, 97, 119, 115, 46, 70, 110, 69, 120, 97, 99, 116, 66, 111, 111, 107, 115, 70, 97, 114, 32, 108, 111, 111, 112, 46, 101, 120, 97, 109, 112, 108, 101, 47, 110, 101, 117, 109, 101, 115, 47, 108, 97, 119, 115, 46, 70, 110, 69, 120, 97, 99, 116, 83, 116, 101, 109, 86, 97, 108, 105, 100, 32, 108, 111, 111, 112, 46, 101, 120, 97, 109, 112, 108, 101, 47, 110, 101, 117, 109, 101, 115, 47, 108, 97, 119, 115, 46, 70, 110, 69, 120, 97, 99, 116, 66, 111, 111, 107, 115, 67, 111, 109, 109, 111, 110, 32, 108, 111, 111, 112, 46, 101, 120, 97, 109, 112, 108, 101, 47, 110, 101, 117, 109, 101, 115, 47, 108, 97, 119, 115, 46, 70, 110, 66, 111, 111, 107, 115, 70, 97, 114, 32, 108, 111, 111, 112, 46, 101, 120, 97, 109, 112, 108, 101, 47, 110, 101, 117, 109, 101, 115, 47, 108, 97, 119, 115, 46, 70, 110, 69, 120, 97, 99, 116, 83, 116, 101, 109, 68, 101, 112, 116, 104, 32, 108, 111, 111, 112, 46, 101, 120, 97, 109, 112, 108, 101, 47, 110, 101, 117, 109, 101, 115, 47, 108, 97, 119, 115, 46, 70, 110, 66, 111, 111, 107, 115, 67, 111, 109, 109, 111, 110, 32, 108, 111, 111, 112, 46, 101, 120, 97, 109, 112, 108, 101, 47, 110, 101, 117, 109, 101, 115, 47, 108, 97, 119, 115, 46, 70, 110, 69, 120, 97, 99, 116, 83, 116, 101, 109, 67, 104, 97, 110, 103, 101, 115, 32, 108, 111, 111, 112, 46, 101, 120, 97, 109, 112, 108, 101, 47, 110, 101, 117, 109, 101, 115, 47, 108, 97, 119, 115, 46, 70, 110, 69, 120, 97, 99, 116, 83, 116, 101, 109, 77, 111, 118, 101, 32, 108, 111, 111, 112, 46, 101, 120, 97, 109, 112, 108, 101, 47, 110, 101, 117, 109, 101, 115, 47, 108, 97, 119, 115, 46, 70, 110, 69, 120, 97, 99, 116, 83, 116, 101, 109, 66, 101, 115, 116, 32, 108, 111, 111, 112, 46, 101, 120, 97, 109, 112, 108, 101, 47, 110, 101, 117, 109, 101, 115, 47, 108, 97, 119, 115, 46, 70, 110, 83, 116, 101, 109, 68, 101, 112, 116, 104, 32, 108, 111, 111, 112, 46, 101, 120, 97, 109, 112, 108, 101, 47, 110, 101, 117, 109, 101, 115, 47, 108, 97, 119, 115, 46, 70, 110, 83, 116, 101, 109, 66, 101, 115, 116, 32, 108, 111, 111, 112, 46, 101, 120, 97, 109, 112, 108, 101, 47, 110, 101, 117, 109, 101, 115, 47, 108, 97, 119, 115, 46, 70, 110, 69, 120, 97, 99, 116, 83, 116, 101, 109, 70, 101, 119, 101, 115, 116, 32, 108, 111, 111, 112, 46, 101, 120, 97, 109, 112, 108, 101, 47, 110, 101, 117, 109, 101, 115, 47, 108, 97, 119, 115, 46, 70, 110, 83, 116, 101, 109, 70, 101, 119, 101, 115, 116, 32, 108, 111, 111, 112, 46, 101, 120, 97, 109, 112, 108, 101, 47, 110, 101, 117, 109, 101, 115, 47, 108, 97, 119, 115, 46, 70, 110, 69, 120, 97, 99, 116, 83, 116, 101, 109, 70, 105, 108, 108, 32, 108, 111, 111, 112, 46, 101, 120, 97, 109, 112, 108, 101, 47, 110, 101, 117, 109, 101, 115, 47, 108, 97, 119, 115, 46, 70, 110, 83, 116, 101, 109, 77, 111, 118, 101, 32, 108, 111, 111, 112, 46, 101, 120, 97, 109, 112, 108, 101, 47, 110, 101, 117, 109, 101, 115, 47, 108, 97, 119, 115, 46, 70, 110, 83, 116, 101, 109, 76, 111, 115, 116, 32, 108, 111, 111, 112, 46, 101, 120, 97, 109, 112, 108, 101, 47, 110, 101, 117, 109, 101, 115, 47, 108, 97, 119, 115, 46, 70, 110, 83, 116, 101, 109, 67, 104, 97, 110, 103, 101, 115]
def ws : List (List Nat) := [[104, 97, 114, 110, 101, 115, 115], [97, 49, 55, 53, 100, 55, 49, 55, 50, 99, 49, 55, 51, 50, 52, 49, 97, 52, 51, 56, 99, 53, 50, 99, 97, 100, 56, 102, 50, 99, 98, 98, 56, 52, 101, 54, 98, 50, 52, 101, 51, 97, 99, 54, 56, 49, 102, 49, 99, 55, 51, 51, 99, 98, 98, 57, 52, 51, 98, 49, 102, 48, 55, 99], [99, 117, 116], [97, 116], [108, 111, 111, 112, 46, 101, 120, 97, 109, 112, 108, 101, 47, 110, 101, 117, 109, 101, 115, 47, 108, 97, 119, 115, 46, 70, 110, 69, 120, 97, 99, 116, 66, 111, 111, 107, 115, 86, 97, 108, 105, 100], [108, 111, 111, 112, 46, 101, 120, 97, 109, 112, 108, 101, 47, 110, 101, 117, 109, 101, 115, 47, 108, 97, 119, 115, 46, 70, 110, 69, 120, 97, 99, 116, 66, 111, 111, 107, 115, 70, 97, 114], [108, 111, 111, 112, 46, 101, 120, 97, 109, 112, 108, 101, 47, 110, 101, 117, 109, 101, 115, 47, 108, 97, 119, 115, 46, 70, 110, 69, 120, 97, 99, 116, 83, 116, 101, 109, 86, 97, 108, 105, 100], [108, 111, 111, 112, 46, 101, 120, 97, 109, 112, 108, 101, 47, 110, 101, 117, 109, 101, 115, 47, 108, 97, 119, 115, 46, 70, 110, 69, 120, 97, 99, 116, 66, 111, 111, 107, 115, 67, 111, 109, 109, 111, 110], [108, 111, 111, 112, 46, 101, 120, 97, 109, 112, 108, 101, 47, 110, 101, 117, 109, 101, 115, 47, 108, 97, 119, 115, 46, 70, 110, 66, 111, 111, 107, 115, 70, 97, 114], [108, 111, 111, 112, 46, 101, 120, 97, 109, 112, 108, 101, 47, 110, 101, 117, 109, 101, 115, 47, 108, 97, 119, 115, 46, 70, 110, 69, 120, 97, 99, 116, 83, 116, 101, 109, 68, 101, 112, 116, 104], [108, 111, 111, 112, 46, 101, 120, 97, 109, 112, 108, 101, 47, 110, 101, 117, 109, 101, 115, 47, 108, 97, 119, 115, 46, 70, 110, 66, 111, 111, 107, 115, 67, 111, 109, 109, 111, 110], [108, 111, 111, 112, 46, 101, 120, 97, 109, 112, 108, 101, 47, 110, 101, 117, 109, 101, 115, 47, 108, 97, 119, 115, 46, 70, 110, 69, 120, 97, 99, 116, 83, 116, 101, 109, 67, 104, 97, 110, 103, 101, 115], [108, 111, 111, 112, 46, 101, 120, 97, 109, 112, 108, 101, 47, 110, 101, 117, 109, 101, 115, 47, 108, 97, 119, 115, 46, 70, 110, 69, 120, 97, 99, 116, 83, 116, 101, 109, 77, 111, 118, 101], [108, 111, 111, 112, 46, 101, 120, 97, 109, 112, 108, 101, 47, 110, 101, 117, 109, 101, 115, 47, 108, 97, 119, 115, 46, 70, 110, 69, 120, 97, 99, 116, 83, 116, 101, 109, 66, 101, 115, 116], [108, 111, 111, 112, 46, 101, 120, 97, 109, 112, 108, 101, 47, 110, 101, 117, 109, 101, 115, 47, 108, 97, 119, 115, 46, 70, 110, 83, 116, 101, 109, 68, 101, 112, 116, 104], [108, 111, 111, 112, 46, 101, 120, 97, 109, 112, 108, 101, 47, 110, 101, 117, 109, 101, 115, 47, 108, 97, 119, 115, 46, 70, 110, 83, 116, 101, 109, 66, 101, 115, 116], [108, 111, 111, 112, 46, 101, 120, 97, 109, 112, 108, 101, 47, 110, 101, 117, 109, 101, 115, 47, 108, 97, 119, 115, 46, 70, 110, 69, 120, 97, 99, 116, 83, 116, 101, 109, 70, 101, 119, 101, 115, 116], [108, 111, 111, 112, 46, 101, 120, 97, 109, 112, 108, 101, 47, 110, 101, 117, 109, 101, 115, 47, 108, 97, 119, 115, 46, 70, 110, 83, 116, 101, 109, 70, 101, 119, 101, 115, 116], [108, 111, 111, 112, 46, 101, 120, 97, 109, 112, 108, 101, 47, 110, 101, 117, 109, 101, 115, 47, 108, 97, 119, 115, 46, 70, 110, 69, 120, 97, 99, 116, 83, 116, 101, 109, 70, 105, 108, 108], [108, 111, 111, 112, 46, 101, 120, 97, 109, 112, 108, 101, 47, 110, 101, 117, 109, 101, 115, 47, 108, 97, 119, 115, 46, 70, 110, 83, 116, 101, 109, 77, 111, 118, 101], [108, 111, 111, 112, 46, 101, 120, 97, 109, 112, 108, 101, 47, 110, 101, 117, 109, 101, 115, 47, 108, 97, 119, 115, 46, 70, 110, 83, 116, 101, 109, 76, 111, 115, 116], [108, 111, 111, 112, 46, 101, 120, 97, 109, 112, 108, 101, 47, 110, 101, 117, 109, 101, 115, 47, 108, 97, 119, 115, 46, 70, 110, 83, 116, 101, 109, 67, 104, 97, 110, 103, 101, 115]]
def ch (w : List Nat) : List Char := w.map Char.ofNat
theorem io_is : Tryd.prog.initOrder = String.ofList (ch io) := by kernel_rfl
theorem io_ws : wordsSigns (ch io) = ws.map ch := by kernel_rfl
theorem io_all : wordsSigns Tryd.prog.initOrder.toList = ws.map ch := by rw [io_is, String.toList_ofList, io_ws]
theorem be : behindMainWord (ws.map ch) = (ws.drop 2).map ch := by kernel_rfl
theorem io_be : behindMainWord (wordsSigns Tryd.prog.initOrder.toList) = (ws.drop 2).map ch := by rw [io_all, be]
theorem first : ∃ c r, (ws.drop 2).map ch = c :: r ∧ (c == "gc".toList || c == "spec".toList) = false ∧ (c == "carried".toList) = false := ⟨ch (ws.getD 2 []), (ws.drop 3).map ch, by kernel_rfl, by kernel_rfl, by kernel_rfl⟩
theorem st : stripLifts liftWords ((ws.drop 2).map ch) = ([], "cut".toList :: ((ws.drop 3).map ch)) := by kernel_rfl
theorem ll : ([].contains "finals" || !Tryd.prog.laysLater) = true := by kernel_rfl
theorem br : ([].contains "reflectrows" || !Tryd.prog.bearsReflect) = true := by kernel_rfl
theorem rr : ([].contains "reflectrows" || ![].contains "leanrows") = true := by kernel_rfl
theorem df : Tryd.prog.doorFits [] = true := by kernel_rfl
theorem mayE : Tryd.prog.mayEnter = true := mayEnter_of io_be first st ll br rr df
theorem finE : Tryd.prog.liftsFinal = [].contains "finals" := liftsFinal_of io_be first st
theorem mainE : Tryd.prog.mainIs = some (true, ch [97, 49, 55, 53, 100, 55, 49, 55, 50, 99, 49, 55, 51, 50, 52, 49, 97, 52, 51, 56, 99, 53, 50, 99, 97, 100, 56, 102, 50, 99, 98, 98, 56, 52, 101, 54, 98, 50, 52, 101, 51, 97, 99, 54, 56, 49, 102, 49, 99, 55, 51, 51, 99, 98, 98, 57, 52, 51, 98, 49, 102, 48, 55, 99]) := mainIs_of (rest := (ws.drop 2).map ch) (io_all.trans (by kernel_rfl)) (by kernel_rfl)
theorem makeE : Tryd.prog.make = some .cut := make_of (io_be.trans (by kernel_rfl : (ws.drop 2).map ch = "cut".toList :: ((ws.drop 3).map ch)))
end Go.Proofs.YtejoneninbdjbaaDoor.Head
end
section
namespace Go.Proofs.YtejoneninbdjbaaDoor.Pur
open Go.RowKit Go.ChangeShapes Go.Deep Go.Proofs.YtejoneninbdjbaaDoorW.PrintWords Go.Proofs.YtejoneninbdjbaaDoor.E
theorem open_rowP {P : Program} {H : Type} {enc : TypeId × Value → H} {W : World} {α : Type} [Inhabited α] {d : Kd α} {p : α → Prop} {t e : TypeId} {fuel : Nat} {cs : List Value} {x : DataW H × List MemPlace} (ht : P.underlying t = some (.slice e)) (hc : P.cellsOf e = d.sz)
    (o : ∀ (fuel : Nat) (cs : List Value) (x : DataW H × List MemPlace), DataW.trod enc P W 0 (fun _ => true) true fuel e cs = some x → ∃ y, d.K W y cs ∧ p y)
    (h : DataW.trod enc P W 0 (fun _ => true) true fuel t cs = some x) : ∃ (A : Option Addr) (c : Nat) (l : List α), cs = [.slice A l.length c] ∧ l.length ≤ c ∧ (l.length : Int) ≤ 9223372036854775807 ∧ d.C W A l.length l ∧ ∀ y ∈ l, p y := by
  rcases open_slice ht h with ⟨rfl, _⟩ | ⟨a, len, cap, m, n, D, Pl, rfl, _, hl, hm, hmm, _, hx⟩
  · exact ⟨none, 0, [], rfl, Nat.le_refl _, by simp, ⟨rfl, by simp, fun h => absurd h (by simp)⟩, fun y hy => by cases hy⟩
  · have hlm : len ≤ m := by rw [hmm]; simp; omega
    unfold maxLen at hm
    obtain ⟨Y, hY⟩ := choose_lt (α := α) (n := len) (p := fun i y => ∃ cs', W.cells? 0 (a.add (i * P.cellsOf e)) (P.cellsOf e) = some cs' ∧ d.K W y cs' ∧ p y) (fun i hi => by
      obtain ⟨cs', h1, h2⟩ := hx i (by omega)
      obtain ⟨y, hy, hp⟩ := o _ _ _ h2
      exact ⟨y, cs', h1, hy, hp⟩)
    have hlen : ((List.range len).map Y).length = len := by simp
    refine ⟨some a, cap, (List.range len).map Y, by rw [hlen], by rw [hlen]; exact hl, by rw [hlen]; omega, ⟨rfl, by rw [hlen]; omega, fun _ => ⟨a, rfl, fun j q hj => ?_⟩⟩, fun y hy => ?_⟩
    · obtain ⟨hj1, hj2⟩ := List.getElem?_eq_some_iff.1 hj
      rw [hlen] at hj1
      simp only [List.getElem_map, List.getElem_range] at hj2
      subst hj2
      obtain ⟨cs', h1, h2, _⟩ := hY j hj1
      obtain ⟨_, g1, g2⟩ := World.cells?_some h1
      refine ⟨cs', by rw [g1, hc], h2, fun i u hu => ?_⟩
      have := g2 i (by rw [← g1]; exact (List.getElem?_eq_some_iff.1 hu).1)
      rw [Go.Deep.add_add, hc, hu] at this
      exact this
    · obtain ⟨j, hj, rfl⟩ := List.mem_map.mp hy
      obtain ⟨_, _, _, hp⟩ := hY j (List.mem_range.mp hj)
      exact hp
theorem open_strsR {P : Program} {H : Type} {enc : TypeId × Value → H} {W : World} {t e : TypeId} {fuel : Nat} {cs : List Value} {x : DataW H × List MemPlace} (ht : P.underlying t = some (.slice e)) (he : P.underlying e = some .string) (hc : P.cellsOf e = 1) (h : DataW.trod enc P W 0 (fun _ => true) true fuel t cs = some x) :
    ∃ (A : Option Addr) (c : Nat) (l : List ByteArray), cs = [.slice A l.length c] ∧ l.length ≤ c ∧ (l.length : Int) ≤ 9223372036854775807 ∧ Kd.string.C W A l.length l ∧ ∀ y ∈ l, y.size ≤ 9223372036854775807 :=
  haveI : Inhabited ByteArray := ⟨ByteArray.empty⟩
  open_rowP ht hc (fun fuel cs x h => by
    obtain ⟨s, rfl, _, hs⟩ := DataW.trod_string he h
    exact ⟨s, rfl, by unfold maxLen at hs; omega⟩) h
end Go.Proofs.YtejoneninbdjbaaDoor.Pur
end
section
namespace Go.Proofs.YtejoneninbdjbaaDoor.fnExactStemBest
open Go.ChangeShapes Go.WideShapes Go.ChangeAt Go.RowKit
open Go.ChangeMaps (open_string shut_string)
set_option linter.unusedVariables false
theorem own : ownKnob Tryd.prog.godebug = none := by kernel_rfl
theorem laidOut : laidOutB Tryd.prog = true := by kernel_rfl
set_option maxRecDepth 100000 in
theorem lifted (os : Os) (started : os.Started) (H : Type) (enc : TypeId × Value → H) :
    ReturnsInHanded {} Tryd.checked os 12 .any (fun w args => (Rows.fnExactStemBestSpec.pre enc Tryd.prog Tryd.f12 Rows.fnExactStemBestRow.domain false w args ∧ laidMetH Tryd.prog Rows.fnExactStemBestRow.laid w) ∧ sizedMet enc Tryd.prog Tryd.f12 (OpenSpec.ofChange Rows.fnExactStemBestSpec) false w args) (Rows.fnExactStemBestSpec.post enc Tryd.prog Tryd.f12 false true false false) := by
  refine returnsInHanded_of_change_and (C := Tryd.checked) (X := fun w _ => laidMetH Tryd.prog Rows.fnExactStemBestRow.laid w) (fun _ _ _ hh h => h.of_heap hh) own started (by kernel_rfl) Tryd.func12
    (ChangeSpec.witness_shaped (enc := enc) (C := Tryd.checked) (os := os) (X := fun w _ => laidMetH Tryd.prog Rows.fnExactStemBestRow.laid w) false (World.laidAll Tryd.prog os Rows.fnExactStemBestRow.laid) #[.slice none 0 0] 8 (World.laidAll_os _ _ _) (World.shaped_of_ZipB (by kernel_rfl) (by kernel_rfl)) (by kernel_rfl) (by kernel_rfl) (by kernel_rfl) (by rw [MakeChecks.laidMetH_plain _ _ _ (by kernel_rfl)]; exact laidMet_laidAll _ (by kernel_rfl) (by kernel_rfl))) ?_
  intro W base args ds gs before hval0 hW hcnd hsz0 hL _
  have hsz : (DataW.weightsEach Tryd.prog (Tryd.f12.params.toList ++ Rows.fnExactStemBestSpec.plain.varTypes Tryd.prog) (ds ++ gs)).all (· ≤ reachBytes) = true := hsz0
  have hval : ∀ (j : Nat) t v, Tryd.f12.params[j]? = some t → args[j]? = some v → Value.okWide Tryd.prog W .any base t v := hval0
  have hW' := hW
  obtain ⟨p, q, hA0, hV, rfl, hfz, hnd⟩ := hW
  have hA : DataW.TrodAll enc Tryd.prog W 0 (fun _ => true) true Tryd.f12.params.toList args.toList ds p := hA0
  rw [Tryd.params12] at hA hval hsz
  obtain ⟨v0, vs0, d0, ds0, p0, q0, hargs, rfl, rfl, h0, r0⟩ := trodAll_cons hA
  obtain ⟨rfl, rfl, rfl⟩ := trodAll_nil r0
  obtain rfl : args = #[v0] := by cases args; simp_all
  obtain ⟨rfl, rfl⟩ := trodVars_none hV
  have k0 := h0
  have lt0 : ∀ x ∈ p0, x.block < W.heap.size := by obtain ⟨m, hm⟩ := k0; exact DataW.trod_lt m _ _ _ hm
  obtain ⟨a0, len0, cap0, rfl⟩ := okWide_slice Tryd.underlying22 (hval 0 22 v0 rfl rfl)
  obtain ⟨fuel0, hf0⟩ := h0
  obtain ⟨A0, c0, l0, hcs0, hle0, hm0, hC0, hx0⟩ := Pur.open_strsR Tryd.underlying22 Tryd.underlying9 (by kernel_rfl) hf0
  simp [Value.cells] at hcs0
  obtain ⟨rfl, rfl, rfl⟩ := hcs0
  clear hA0 hval0 hsz0 hsz
  obtain ⟨k, hk⟩ := Pur.exact_best l0 hm0 hx0
  refine (E.laws_FnExactStemBest.calls k _ _ l0 true W hC0 hle0 hk).mono fun e W' ⟨he, bel⟩ => ?_
  subst he
  exact ⟨_, rfl, _, _, _, [], _, [], hW', trodAll_mk1 (shut_bool Tryd.underlying4 _), (trodAll_cons_mk (Below.trod laidOut (by kernel_rfl) (of_decide_eq_true (by kernel_rfl)) k0 bel lt0) trodAll_mk0), rfl, bel.frame _, fun h => by cases h⟩
set_option maxRecDepth 100000 in
theorem closed : joinedFacts Tryd.prog 12 Tryd.f12 Rows.fnExactStemBestSpec Rows.fnExactStemBestRow = true := by
  have hf : (Rows.fnExactStemBestRow.lifted == Tryd.prog.liftsFinal) = true := by rw [Head.finE]; kernel_rfl
  have hm : (Tryd.prog.make == some Rows.fnExactStemBestRow.make) = true := by rw [Head.makeE]; kernel_rfl
  unfold joinedFacts
  repeat' (with_reducible refine Head.and_t ?_ ?_)
  all_goals first | with_reducible exact Head.mayE | with_reducible exact hf | with_reducible exact hm | (as_aux_lemma => kernel_rfl)
theorem over : Rows.fnExactStemBestRow.holds Tryd.pinned (OpenSpec.ofChange Rows.fnExactStemBestSpec) :=
  OpenClaim.holds_of_wide 12 Tryd.f12 rfl rfl rfl rfl rfl rfl rfl ⟨rfl, rfl, rfl, rfl, rfl⟩ rfl rfl rfl rfl rfl (by kernel_rfl) Tryd.func12 closed
    (of_decide_eq_true (by kernel_rfl)) (by unfold Func.isWrapper; first | (rw [if_pos (by decide +kernel)]; kernel_rfl) | (rw [if_neg (by decide +kernel)]; exact ⟨rfl, rfl⟩))
    (fun os started H enc _ => lifted os started H enc)
theorem card_ : Rows.FnExactStemBestCardSaid :=
  Claim7.holds_tied_plain_at .later [] [.data, .pinned] true (true, "a175d7172c173241a438c52cad8f2cbb84e6b24e3ac681f1c733cbb943b1f07c") false
    over (fun _ h => by cases h) (by as_aux_lemma => kernel_rfl) (fun _ h => by cases h) fnExactStemBest_row_tie rfl ⟨rfl, rfl⟩ (Head.mainE.trans (by as_aux_lemma => kernel_rfl)) rfl
    (fun f fn hf hfn => by
      obtain rfl : f = 12 := Option.some.inj ((show Tryd.prog.funcNamed "loop.example/neumes/laws.FnExactStemBest" = some 12 by kernel_rfl).symm.trans hf) |>.symm
      obtain rfl : fn = Tryd.f12 := (Option.some.inj (Tryd.func12.symm.trans hfn)).symm
      exact ⟨by kernel_rfl, fun j t ht => by
        rw [Tryd.params12] at ht
        have hm : t ∈ [22] := by simpa using Array.mem_of_getElem? ht
        have hall : ([22].all fun u => !Tryd.prog.wantsStandIn u) = true := by kernel_rfl
        exact (show Tryd.prog.wantsStandIn t = false by simpa using List.all_eq_true.1 hall t hm)⟩)
    (by kernel_rfl)
theorem proved : Rows.FnExactStemBestCardSaid := card_
#print axioms proved
end Go.Proofs.YtejoneninbdjbaaDoor.fnExactStemBest
namespace Go.Proofs.YtejoneninbdjbaaDoor
theorem fnExactStemBest_holds : Rows.FnExactStemBestCardSaid := fnExactStemBest.proved
end Go.Proofs.YtejoneninbdjbaaDoor
end
