/- Texts of this claim, joined by a program of this session's (wip/tools/pack.py). -/
import Derived.Test.YtdgmkfbmeaalpaaDoorRowFnExactPsalmSingK1
section
namespace Go.Proofs.YtdgmkfbmeaalpaaDoor.E
open Go.RowKit Go.Proofs.YtdgmkfbmeaalpaaDoorW.PrintWords Go.Proofs.YtdgmkfbmeaalpaaDoorW.PrintLast Go.Proofs.YtdgmkfbmeaalpaaDoorW.PrintMore
attribute [local go_sem] max2_int min2_int max_two min_two max_three min_three max_four min_four
set_option linter.unusedVariables false
set_option linter.unusedSimpArgs false
attribute [local go_sem] str_leq_ str_gtr_ str_geq_
mutual
def spec_PsalmSing.l0 : Nat → ByteArray → ByteArray → List (S25) → List (S25) → Int → Bool → List (S25) → List (S25) → Option ((List (S25)) × Bool)
 | 0, _, _, _, _, _, _, _, _ => none
 | k + 1, x6, x7, x8, x589000, x589001, x589002, x589003, x589004 => if (x8.length : Int) < (wrap64 ((x6.size : Int) - (x589003.length : Int))) then (if x8.length < 8796093022208 then (spec_PsalmSing.l0 k x6 x7 (x8 ++ [(⟨x589001, x589002⟩ : S25)]) x589000 x589001 x589002 x589003 x589004) else (none)) else (if x8.length + x589003.length < 8796093022208 then (spec_PsalmSing.l1 k x6 x7 (x8 ++ x589003) x589000 x589001 x589002 x589003 x589004) else (none))
def spec_PsalmSing.l1 : Nat → ByteArray → ByteArray → List (S25) → List (S25) → Int → Bool → List (S25) → List (S25) → Option ((List (S25)) × Bool)
 | 0, _, _, _, _, _, _, _, _ => none
 | k + 1, x6, x7, x8, x589000, x589001, x589002, x589003, x589004 => if (x8.length : Int) < (wrap64 ((wrap64 ((x6.size : Int) + (x7.size : Int))) - (x589004.length : Int))) then (if x8.length < 8796093022208 then (spec_PsalmSing.l1 k x6 x7 (x8 ++ [(⟨x589001, x589002⟩ : S25)]) x589000 x589001 x589002 x589003 x589004) else (none)) else (if x8.length + x589004.length < 8796093022208 then (some ((x8 ++ x589004), true)) else (none))
end
def spec_PsalmSing.f (k : Nat) (l0_0 : List (S25)) (a0_1 : Int) (a0_2 : Bool) (l0_3 : List (S25)) (l0_4 : List (S25)) (a1 : ByteArray) : Option ((List (S25)) × Bool) := (spec_PsalmFits.f k l0_0 a0_1 a0_2 l0_3 l0_4 a1).bind fun t589 => (if t589 = true then ((spec_l4Halves.f k a1).bind fun bt593 => ((some (([] : List (S25)) : List (S25))).bind fun y595 => (if y595.length + l0_0.length < 8796093022208 then (spec_PsalmSing.l0 k bt593.1 bt593.2 (y595 ++ l0_0) l0_0 a0_1 a0_2 l0_3 l0_4) else (none)))) else (some ((([] : List (S25))), false)))
set_option maxHeartbeats 8000000 in
set_option maxRecDepth 100000 in
theorem spec_PsalmSing.calls (k : Nat) (A0_0 : Option Addr) (c0_0 : Nat) (l0_0 : List (S25)) (a0_1 : Int) (a0_2 : Bool) (A0_3 : Option Addr) (c0_3 : Nat) (l0_3 : List (S25)) (A0_4 : Option Addr) (c0_4 : Nat) (l0_4 : List (S25)) (a1 : ByteArray) (r1 : List (S25)) (r2 : Bool) (w : World) (hr0_0 : Kd.C k25 w A0_0 l0_0.length l0_0) (hc0_0 : l0_0.length ≤ c0_0) (hr0_3 : Kd.C k25 w A0_3 l0_3.length l0_3) (hc0_3 : l0_3.length ≤ c0_3) (hr0_4 : Kd.C k25 w A0_4 l0_4.length l0_4) (hc0_4 : l0_4.length ≤ c0_4) (h : spec_PsalmSing.f k l0_0 a0_1 a0_2 l0_3 l0_4 a1 = some (r1, r2)) :
  Calls Tryd.prog 34 #[.agg #[.slice A0_0 l0_0.length c0_0, .int .i64 a0_1, .bool a0_2, .slice A0_3 l0_3.length c0_3, .slice A0_4 l0_4.length c0_4], .string a1] w fun e w' => ∃ v0_ : Value, e = .returned (.tuple #[v0_, .bool r2]) ∧ Kd.R k25 25 w' w.heap.size (fun _ => True) v0_ r1 ∧ Below w.heap.size w w' := by
 have hu27 := Tryd.underlying27
 have hu25 := Tryd.underlying25
 have HR0_0 := Aside0.mk hr0_0
 have HC0_0 := Aside0.mk hc0_0
 clear hr0_0 hc0_0
 have HR0_3 := Aside0.mk hr0_3
 have HC0_3 := Aside0.mk hc0_3
 clear hr0_3 hc0_3
 have HR0_4 := Aside0.mk hr0_4
 have HC0_4 := Aside0.mk hc0_4
 clear hr0_4 hc0_4
 have HB := Aside0.mk (Below.refl w.heap.size w)
 have H : ((spec_PsalmFits.f k l0_0 a0_1 a0_2 l0_3 l0_4 a1).bind fun t589 => (if t589 = true then ((spec_l4Halves.f k a1).bind fun bt593 => ((some (([] : List (S25)) : List (S25))).bind fun y595 => (if y595.length + l0_0.length < 8796093022208 then (spec_PsalmSing.l0 k bt593.1 bt593.2 (y595 ++ l0_0) l0_0 a0_1 a0_2 l0_3 l0_4) else (none)))) else (some ((([] : List (S25))), false)))) = some (r1, r2) := h
 clear h
 replace H := Option.bind_eq_some_iff.mp H
 obtain ⟨t589, A30, H⟩ := H
 replace H : (if t589 = true then ((spec_l4Halves.f k a1).bind fun bt593 => ((some (([] : List (S25)) : List (S25))).bind fun y595 => (if y595.length + l0_0.length < 8796093022208 then (spec_PsalmSing.l0 k bt593.1 bt593.2 (y595 ++ l0_0) l0_0 a0_1 a0_2 l0_3 l0_4) else (none)))) else (some ((([] : List (S25))), false))) = some (r1, r2) := H
 have A3 := Aside0.mk A30
 clear A30
 by_cases c4 : t589 = true
 rotate_left
 ·replace c4 := Bool.eq_false_iff.mpr c4
  subst c4
  have H1 : (some ((([] : List (S25))), false)) = some (r1, r2) := by rw [if_neg (show ¬ (false = true) by decide)] at H; exact H
  clear H
  have H := H1
  clear H1
  obtain ⟨y590, hy590⟩ : ∃ y_ : List (S25), y_ = (([] : List (S25))) := ⟨_, rfl⟩
  replace H : (some (y590, false)) = some (r1, r2) := by first | (rw [hy590]; with_reducible exact H) | (have H2_ := (Option.bind_some _ _).symm.trans H; rw [hy590]; with_reducible exact H2_) | (have H2_ := (Option.bind_some _ _).symm.trans H; with_reducible exact H2_) | with_reducible exact H | (rw [hy590]; exact H) | exact H
  have Ny590 := Aside0.mk hy590
  clear hy590
  simp only [Option.some.injEq, Prod.mk.injEq] at H
  obtain ⟨rfl, rfl⟩ := H
  go_enter Tryd.func34, Tryd.ntmps34
  go_wp2_with (first | ((with_reducible refine gate_dst (N := 2) rfl ?_); refine box_event ?hg (N := 2) ?hd (cs := #[.slice A0_0 l0_0.length c0_0, .int .i64 a0_1, .bool a0_2, .slice A0_3 l0_3.length c0_3, .slice A0_4 l0_4.length c0_4]) (t := 27) ?hr ?_; (case hd => rfl); (case hg => rfl); (case hr => first | (go_simp; done) | (go_simp; rfl)); intro gb588 hg w32 hbox hb; have n0_ := Aside0.mk (below_step (by repeat (first | (with_reducible first | exact HB.out | apply below_alloc | apply pw_below_drewN | apply below_drew1) | exact HB.out)) hb); have n1_ := Aside0.mk (hbox); have n2_ := Aside0.mk ((by rw [hg]; exact (below_size (by repeat (first | (with_reducible first | exact HB.out | apply below_alloc | apply pw_below_drewN | apply below_drew1) | exact HB.out))) : w.heap.size ≤ gb588)); have n3_ := Aside0.mk ((by rw [hg]; exact (below_size (by repeat (first | (with_reducible first | exact HB.out | apply below_alloc | apply pw_below_drewN | apply below_drew1) | exact HB.out))) : w.heap.size ≤ gb588)); clear HB; have HB := n0_; have BK588 := n1_; have GW588 := n2_; have GE588 := n3_; clear n0_ n1_ n2_ n3_; clear hb hbox hg; have hcz33_0 : w32.cell? ⟨gb588, 0, none⟩ = some (.slice A0_0 l0_0.length c0_0) := (blk_cell BK588.out 0).trans rfl; have hcz33_1 : w32.cell? ⟨gb588, 1, none⟩ = some (.int .i64 a0_1) := (blk_cell BK588.out 1).trans rfl; have hcz33_2 : w32.cell? ⟨gb588, 2, none⟩ = some (.bool a0_2) := (blk_cell BK588.out 2).trans rfl; have hcz33_3 : w32.cell? ⟨gb588, 3, none⟩ = some (.slice A0_3 l0_3.length c0_3) := (blk_cell BK588.out 3).trans rfl; have hcz33_4 : w32.cell? ⟨gb588, 4, none⟩ = some (.slice A0_4 l0_4.length c0_4) := (blk_cell BK588.out 4).trans rfl; have hfz33_0 := blk_frozen BK588.out 0; have hfz33_1 := blk_frozen BK588.out 1; have hfz33_2 := blk_frozen BK588.out 2; have hfz33_3 := blk_frozen BK588.out 3; have hfz33_4 := blk_frozen BK588.out 4) | ((with_reducible refine gate_callee (f := 17) rfl ?_); refine goesL_ (some 11) rfl rfl Tryd.func17 (by kernel_rfl) rfl #[.agg #[.slice A0_0 l0_0.length c0_0, .int .i64 a0_1, .bool a0_2, .slice A0_3 l0_3.length c0_3, .slice A0_4 l0_4.length c0_4], .string a1] rfl (by (try simp only [List.map_toArray, List.map_cons, List.map_nil]); first | done | rfl | (simp only [List.length_drop, List.length_take]; rfl)) ?_; (with_reducible refine (spec_PsalmFits.calls k _ _ l0_0 a0_1 a0_2 _ _ l0_3 _ _ l0_4 a1 false _ ?side1 ?side2 ?side3 ?side4 ?side5 ?side6 A3.out).mono ?_); (case side1 => repeat (first | exact (Kd.C_below HR0_0.out HB.out) | (with_reducible refine Kd.C_alloc ?_ _) | (with_reducible refine Kd.C_drewN ?_ _) | (with_reducible refine Kd.C_drew ?_))); (case side2 => exact HC0_0.out); (case side3 => repeat (first | exact (Kd.C_below HR0_3.out HB.out) | (with_reducible refine Kd.C_alloc ?_ _) | (with_reducible refine Kd.C_drewN ?_ _) | (with_reducible refine Kd.C_drew ?_))); (case side4 => exact HC0_3.out); (case side5 => repeat (first | exact (Kd.C_below HR0_4.out HB.out) | (with_reducible refine Kd.C_alloc ?_ _) | (with_reducible refine Kd.C_drewN ?_ _) | (with_reducible refine Kd.C_drew ?_))); (case side6 => exact HC0_4.out); rintro e w34 ⟨rfl, hb⟩; refine ⟨_, rfl, ?_⟩; have n0_ := Aside0.mk (blk_below (g := gb588) (o := .cells #[.slice A0_0 l0_0.length c0_0, .int .i64 a0_1, .bool a0_2, .slice A0_3 l0_3.length c0_3, .slice A0_4 l0_4.length c0_4] 27 (0, 0)) (by (with_reducible repeat (first | refine blk_drewN ?_ _ | refine blk_drew ?_ | refine blk_alloc ?_ _)); exact BK588.out) hb); have n1_ := Aside0.mk (below_step (by repeat (first | (with_reducible first | exact HB.out | apply below_alloc | apply pw_below_drewN | apply below_drew1 | refine below_set ?_ GE588.out) | exact HB.out)) hb); clear BK588; clear HB; have BK588 := n0_; have HB := n1_; clear n0_ n1_; (try clear hb); (try clear hb2); (try clear hk); (try clear hi)) | ((with_reducible refine gate_dst (N := 13) rfl ?_); refine Kd.R_lit k25 _ 25 ?hg (N := 13) ?hd (xs := ([] : List (S25))) (inner := []) (ok := fun _ => True) (okp := fun _ => True) ?hr ?hp (fun _ hk => hk) trivial (Below.refl _ _) (Nat.le_refl _) (by simp) ?_; (case hd => rfl); (case hg => rfl); (case hr => first | (go_simp; done) | (go_simp; rfl)); (case hp => exact (Reps.none _ _)); intro v591 w35 ho36 hb hg_ hnew_; clear hg_ hnew_; (first | rw [← Ny590.out] at ho36 | (simp only [Int.reduceToNat] at ho36; rw [← Ny590.out] at ho36)); have n0_ := Aside0.mk (Kd.R_lower ho36 (below_size (by repeat (first | (with_reducible first | exact HB.out | apply below_alloc | apply pw_below_drewN | apply below_drew1 | refine below_set ?_ GE588.out) | exact HB.out)))); have n1_ := Aside0.mk (blk_below (g := gb588) (o := .cells #[.slice A0_0 l0_0.length c0_0, .int .i64 a0_1, .bool a0_2, .slice A0_3 l0_3.length c0_3, .slice A0_4 l0_4.length c0_4] 27 (0, 0)) (by (with_reducible repeat (first | refine blk_drewN ?_ _ | refine blk_drew ?_ | refine blk_alloc ?_ _)); exact BK588.out) hb); have n2_ := Aside0.mk (below_step (by repeat (first | (with_reducible first | exact HB.out | apply below_alloc | apply pw_below_drewN | apply below_drew1 | refine below_set ?_ GE588.out) | exact HB.out)) hb); clear BK588; clear HB; have HO592 := n0_; have BK588 := n1_; have HB := n2_; clear n0_ n1_ n2_; clear hb ho36))
  go_ret2
  exact ⟨_, by first | rfl | (simp [errW_none, errW_some] <;> rfl) | (simp [*, errW_none, errW_some] <;> rfl), by (with_reducible repeat (first | apply Kd.R_alloc | apply Kd.R_drewN | apply Kd.R_drew)); exact HO592.out, by repeat (first | (with_reducible first | exact HB.out | apply below_alloc | apply pw_below_drewN | apply below_drew1 | refine below_set ?_ GE588.out) | exact HB.out)⟩
 subst c4
 have H1 : ((spec_l4Halves.f k a1).bind fun bt593 => ((some (([] : List (S25)) : List (S25))).bind fun y595 => (if y595.length + l0_0.length < 8796093022208 then (spec_PsalmSing.l0 k bt593.1 bt593.2 (y595 ++ l0_0) l0_0 a0_1 a0_2 l0_3 l0_4) else (none)))) = some (r1, r2) := by rw [if_pos rfl] at H; exact H
 clear H
 have H := H1
 clear H1
 replace H := Option.bind_eq_some_iff.mp H
 obtain ⟨⟨t593, t594⟩, A50, H⟩ := H
 replace H : ((some (([] : List (S25)) : List (S25))).bind fun y595 => (if y595.length + l0_0.length < 8796093022208 then (spec_PsalmSing.l0 k t593 t594 (y595 ++ l0_0) l0_0 a0_1 a0_2 l0_3 l0_4) else (none))) = some (r1, r2) := H
 have A5 := Aside0.mk A50
 clear A50
 obtain ⟨y595, hy595⟩ : ∃ y_ : List (S25), y_ = (([] : List (S25))) := ⟨_, rfl⟩
 replace H : (if y595.length + l0_0.length < 8796093022208 then (spec_PsalmSing.l0 k t593 t594 (y595 ++ l0_0) l0_0 a0_1 a0_2 l0_3 l0_4) else (none)) = some (r1, r2) := by first | (rw [hy595]; with_reducible exact H) | (have H2_ := (Option.bind_some _ _).symm.trans H; rw [hy595]; with_reducible exact H2_) | (have H2_ := (Option.bind_some _ _).symm.trans H; with_reducible exact H2_) | with_reducible exact H | (rw [hy595]; exact H) | exact H
 have Ny595 := Aside0.mk hy595
 clear hy595
 by_cases c6 : y595.length + l0_0.length < 8796093022208
 rotate_left
 ·rw [if_neg c6] at H
  exact absurd H (by simp)
 rw [if_pos c6] at H
 have LMc6 := Aside0.mk c6
 clear c6
 obtain ⟨y598, hy598⟩ : ∃ y_ : List (S25), y_ = (y595 ++ l0_0) := ⟨_, rfl⟩
 replace H : (spec_PsalmSing.l0 k t593 t594 y598 l0_0 a0_1 a0_2 l0_3 l0_4) = some (r1, r2) := by first | (rw [hy598]; with_reducible exact H) | (have H2_ := (Option.bind_some _ _).symm.trans H; rw [hy598]; with_reducible exact H2_) | (have H2_ := (Option.bind_some _ _).symm.trans H; with_reducible exact H2_) | with_reducible exact H | (rw [hy598]; exact H) | exact H
 have Ny598 := Aside0.mk hy598
 clear hy598
 have H' := Aside0.mk H
 clear H
 go_enter Tryd.func34, Tryd.ntmps34
 go_wp2_with (first | ((with_reducible refine gate_dst (N := 2) rfl ?_); refine box_event ?hg (N := 2) ?hd (cs := #[.slice A0_0 l0_0.length c0_0, .int .i64 a0_1, .bool a0_2, .slice A0_3 l0_3.length c0_3, .slice A0_4 l0_4.length c0_4]) (t := 27) ?hr ?_; (case hd => rfl); (case hg => rfl); (case hr => first | (go_simp; done) | (go_simp; rfl)); intro gb588 hg w7 hbox hb; have n0_ := Aside0.mk (below_step (by repeat (first | (with_reducible first | exact HB.out | apply below_alloc | apply pw_below_drewN | apply below_drew1) | exact HB.out)) hb); have n1_ := Aside0.mk (hbox); have n2_ := Aside0.mk ((by rw [hg]; exact (below_size (by repeat (first | (with_reducible first | exact HB.out | apply below_alloc | apply pw_below_drewN | apply below_drew1) | exact HB.out))) : w.heap.size ≤ gb588)); have n3_ := Aside0.mk ((by rw [hg]; exact (below_size (by repeat (first | (with_reducible first | exact HB.out | apply below_alloc | apply pw_below_drewN | apply below_drew1) | exact HB.out))) : w.heap.size ≤ gb588)); clear HB; have HB := n0_; have BK588 := n1_; have GW588 := n2_; have GE588 := n3_; clear n0_ n1_ n2_ n3_; clear hb hbox hg; have hcz8_0 : w7.cell? ⟨gb588, 0, none⟩ = some (.slice A0_0 l0_0.length c0_0) := (blk_cell BK588.out 0).trans rfl; have hcz8_1 : w7.cell? ⟨gb588, 1, none⟩ = some (.int .i64 a0_1) := (blk_cell BK588.out 1).trans rfl; have hcz8_2 : w7.cell? ⟨gb588, 2, none⟩ = some (.bool a0_2) := (blk_cell BK588.out 2).trans rfl; have hcz8_3 : w7.cell? ⟨gb588, 3, none⟩ = some (.slice A0_3 l0_3.length c0_3) := (blk_cell BK588.out 3).trans rfl; have hcz8_4 : w7.cell? ⟨gb588, 4, none⟩ = some (.slice A0_4 l0_4.length c0_4) := (blk_cell BK588.out 4).trans rfl; have hfz8_0 := blk_frozen BK588.out 0; have hfz8_1 := blk_frozen BK588.out 1; have hfz8_2 := blk_frozen BK588.out 2; have hfz8_3 := blk_frozen BK588.out 3; have hfz8_4 := blk_frozen BK588.out 4) | ((with_reducible refine gate_callee (f := 17) rfl ?_); refine goesL_ (some 11) rfl rfl Tryd.func17 (by kernel_rfl) rfl #[.agg #[.slice A0_0 l0_0.length c0_0, .int .i64 a0_1, .bool a0_2, .slice A0_3 l0_3.length c0_3, .slice A0_4 l0_4.length c0_4], .string a1] rfl (by (try simp only [List.map_toArray, List.map_cons, List.map_nil]); first | done | rfl | (simp only [List.length_drop, List.length_take]; rfl)) ?_; (with_reducible refine (spec_PsalmFits.calls k _ _ l0_0 a0_1 a0_2 _ _ l0_3 _ _ l0_4 a1 true _ ?side1 ?side2 ?side3 ?side4 ?side5 ?side6 A3.out).mono ?_); (case side1 => repeat (first | exact (Kd.C_below HR0_0.out HB.out) | (with_reducible refine Kd.C_alloc ?_ _) | (with_reducible refine Kd.C_drewN ?_ _) | (with_reducible refine Kd.C_drew ?_))); (case side2 => exact HC0_0.out); (case side3 => repeat (first | exact (Kd.C_below HR0_3.out HB.out) | (with_reducible refine Kd.C_alloc ?_ _) | (with_reducible refine Kd.C_drewN ?_ _) | (with_reducible refine Kd.C_drew ?_))); (case side4 => exact HC0_3.out); (case side5 => repeat (first | exact (Kd.C_below HR0_4.out HB.out) | (with_reducible refine Kd.C_alloc ?_ _) | (with_reducible refine Kd.C_drewN ?_ _) | (with_reducible refine Kd.C_drew ?_))); (case side6 => exact HC0_4.out); rintro e w9 ⟨rfl, hb⟩; refine ⟨_, rfl, ?_⟩; have n0_ := Aside0.mk (blk_below (g := gb588) (o := .cells #[.slice A0_0 l0_0.length c0_0, .int .i64 a0_1, .bool a0_2, .slice A0_3 l0_3.length c0_3, .slice A0_4 l0_4.length c0_4] 27 (0, 0)) (by (with_reducible repeat (first | refine blk_drewN ?_ _ | refine blk_drew ?_ | refine blk_alloc ?_ _)); exact BK588.out) hb); have n1_ := Aside0.mk (below_step (by repeat (first | (with_reducible first | exact HB.out | apply below_alloc | apply pw_below_drewN | apply below_drew1 | refine below_set ?_ GE588.out) | exact HB.out)) hb); clear BK588; clear HB; have BK588 := n0_; have HB := n1_; clear n0_ n1_; (try clear hb); (try clear hb2); (try clear hk); (try clear hi)) | ((with_reducible refine gate_callee (f := 59) rfl ?_); refine goesL_ (some 16) rfl rfl Tryd.func59 (by kernel_rfl) rfl #[.string a1] rfl (by (try simp only [List.map_toArray, List.map_cons, List.map_nil]); first | done | rfl | (simp only [List.length_drop, List.length_take]; rfl)) ?_; (with_reducible refine (spec_l4Halves.calls k a1 t593 t594 _ A5.out).mono ?_); rintro e w' ⟨rfl, ⟨nd, rfl⟩⟩; refine ⟨_, rfl, ?_⟩) | ((with_reducible refine gate_dst (N := 19) rfl ?_); refine Kd.R_lit k25 _ 25 ?hg (N := 19) ?hd (xs := ([] : List (S25))) (inner := []) (ok := fun _ => True) (okp := fun _ => True) ?hr ?hp (fun _ hk => hk) trivial (Below.refl _ _) (Nat.le_refl _) (by simp) ?_; (case hd => rfl); (case hg => rfl); (case hr => first | (go_simp; done) | (go_simp; rfl)); (case hp => exact (Reps.none _ _)); intro v596 w10 ho11 hb hg_ hnew_; clear hg_ hnew_; (first | rw [← Ny595.out] at ho11 | (simp only [Int.reduceToNat] at ho11; rw [← Ny595.out] at ho11)); have n0_ := Aside0.mk (Kd.R_lower ho11 (below_size (by repeat (first | (with_reducible first | exact HB.out | apply below_alloc | apply pw_below_drewN | apply below_drew1 | refine below_set ?_ GE588.out) | exact HB.out)))); have n1_ := Aside0.mk (blk_below (g := gb588) (o := .cells #[.slice A0_0 l0_0.length c0_0, .int .i64 a0_1, .bool a0_2, .slice A0_3 l0_3.length c0_3, .slice A0_4 l0_4.length c0_4] 27 (0, 0)) (by (with_reducible repeat (first | refine blk_drewN ?_ _ | refine blk_drew ?_ | refine blk_alloc ?_ _)); exact BK588.out) hb); have n2_ := Aside0.mk (below_step (by repeat (first | (with_reducible first | exact HB.out | apply below_alloc | apply pw_below_drewN | apply below_drew1 | refine below_set ?_ GE588.out) | exact HB.out)) hb); clear BK588; clear HB; have HO597 := n0_; have BK588 := n1_; have HB := n2_; clear n0_ n1_ n2_; clear hb ho11; have hcz12_0 : w10.cell? ⟨gb588, 0, none⟩ = some (.slice A0_0 l0_0.length c0_0) := (blk_cell BK588.out 0).trans rfl; have hcz12_1 : w10.cell? ⟨gb588, 1, none⟩ = some (.int .i64 a0_1) := (blk_cell BK588.out 1).trans rfl; have hcz12_2 : w10.cell? ⟨gb588, 2, none⟩ = some (.bool a0_2) := (blk_cell BK588.out 2).trans rfl; have hcz12_3 : w10.cell? ⟨gb588, 3, none⟩ = some (.slice A0_3 l0_3.length c0_3) := (blk_cell BK588.out 3).trans rfl; have hcz12_4 : w10.cell? ⟨gb588, 4, none⟩ = some (.slice A0_4 l0_4.length c0_4) := (blk_cell BK588.out 4).trans rfl; have hfz12_0 := blk_frozen BK588.out 0; have hfz12_1 := blk_frozen BK588.out 1; have hfz12_2 := blk_frozen BK588.out 2; have hfz12_3 := blk_frozen BK588.out 3; have hfz12_4 := blk_frozen BK588.out 4) | ((with_reducible refine gate_builtin (b := .append) (xs := #[.tmp 19, .tmp 21]) rfl ?_); at_builtin; refine Kd.R_append_rows k25 (w0 := w) w.heap.size rfl (.tmp 19) (.tmp 21) 23 25 (.agg #[(.int .i64 0), (.bool false)]) 16 rfl Tryd.underlying23 info25 rfl (by decide) (by omega) v596 y595 l0_0 _ _ _ (fun _ => True) (fun _ => False) rfl rfl ?aO ?aR (fun _ _ h => h) (fun _ h => h.elim) ?aF ?aB ?aS ?aL ?_; (case aR => repeat (first | exact (Kd.C_below HR0_0.out HB.out) | (with_reducible refine Kd.C_alloc ?_ _) | (with_reducible refine Kd.C_drewN ?_ _) | (with_reducible refine Kd.C_drew ?_))); (case aB => exact (by repeat (first | (with_reducible first | exact HB.out | apply below_alloc | apply pw_below_drewN | apply below_drew1 | refine below_set ?_ GE588.out) | exact HB.out))); (case aF => exact (fun _ _ => trivial)); (case aO => exact (by (with_reducible repeat (first | apply Kd.R_alloc | apply Kd.R_drewN | apply Kd.R_drew)); exact HO597.out)); (case aS => exact (below_size (by repeat (first | (with_reducible first | exact HB.out | apply below_alloc | apply pw_below_drewN | apply below_drew1 | refine below_set ?_ GE588.out) | exact HB.out)))); (case aL => have := LMc6.out; omega); intro v599 w13 ho hb hg hat; rw [← Ny598.out] at ho; have n0_ := Aside0.mk (blk_grown (g := gb588) (o := .cells #[.slice A0_0 l0_0.length c0_0, .int .i64 a0_1, .bool a0_2, .slice A0_3 l0_3.length c0_3, .slice A0_4 l0_4.length c0_4] 27 (0, 0)) (by (with_reducible repeat (first | refine blk_drewN ?_ _ | refine blk_drew ?_ | refine blk_alloc ?_ _)); exact BK588.out) hg (Kd.R_ne HO597.out BK588.out (by decide))); have n1_ := Aside0.mk (hb); have n2_ := Aside0.mk (ho); clear BK588; clear HB; clear HO597; have BK588 := n0_; have HB := n1_; have HO600 := n2_; clear n0_ n1_ n2_; clear ho hb hg hat))
 go_loopg [8] k (fun kq v8 w' => ∃ (x8_1 : List (S25)), Aside0 (spec_PsalmSing.l0 kq t593 t594 x8_1 l0_0 a0_1 a0_2 l0_3 l0_4 = some (r1, r2)) ∧ Aside0 (kq ≤ k) ∧ Aside0 (Kd.R k25 25 w' w.heap.size (fun _ => True) v8 x8_1) ∧ Aside0 (w'.heap[gb588]? = some (.cells #[(.slice A0_0 l0_0.length c0_0), .int .i64 a0_1, .bool a0_2, (.slice A0_3 l0_3.length c0_3), (.slice A0_4 l0_4.length c0_4)] 27 (0, 0))) ∧ Aside0 (Below w.heap.size w w'))
 case atStart => exact ⟨(y598), H', ⟨Nat.le_refl _⟩, ⟨by (with_reducible repeat (first | apply Kd.R_alloc | apply Kd.R_drewN | apply Kd.R_drew)); exact HO600.out⟩, ⟨by (with_reducible repeat (first | refine blk_drewN ?_ _ | refine blk_drew ?_ | refine blk_alloc ?_ _)); exact BK588.out⟩, ⟨by repeat (first | (with_reducible first | exact HB.out | apply below_alloc | apply pw_below_drewN | apply below_drew1 | refine below_set ?_ GE588.out) | exact HB.out)⟩⟩
 case round =>
  clear H'
  try clear c1
  try clear p2
  try clear c3
  try clear c4
  try clear c5
  try clear c6
  try clear hcz12_0
  try clear hcz12_1
  try clear hcz12_2
  try clear hcz12_3
  try clear hcz12_4
  try clear hcz8_0
  try clear hcz8_1
  try clear hcz8_2
  try clear hcz8_3
  try clear hcz8_4
  try clear hfz12_0
  try clear hfz12_1
  try clear hfz12_2
  try clear hfz12_3
  try clear hfz12_4
  try clear hfz8_0
  try clear hfz8_1
  try clear hfz8_2
  try clear hfz8_3
  try clear hfz8_4
  obtain ⟨x8_1, HA, HK1, HO_8, BK588, HB⟩ := hrel
  cases gk with
  | zero => exact absurd HA.out (by simp [spec_PsalmSing.l0])
  | succ k1 =>
   have H := HA.out
   clear HA
   simp only [spec_PsalmSing.l0] at H
   by_cases c14 : (x8_1.length : Int) < (wrap64 ((t593.size : Int) - (l0_3.length : Int)))
   ·rw [if_pos c14] at H
    have c14b0 : decide ((x8_1.length : Int) < (wrap64 ((t593.size : Int) - (l0_3.length : Int)))) = true := decide_eq_true c14
    clear c14
    by_cases c15 : x8_1.length < 8796093022208
    rotate_left
    ·rw [if_neg c15] at H
     exact absurd H (by simp)
    rw [if_pos c15] at H
    have LMc15 := Aside0.mk c15
    clear c15
    obtain ⟨y601, hy601⟩ : ∃ y_ : List (S25), y_ = (x8_1 ++ [(⟨a0_1, a0_2⟩ : S25)]) := ⟨_, rfl⟩
    replace H : (spec_PsalmSing.l0 k1 t593 t594 y601 l0_0 a0_1 a0_2 l0_3 l0_4) = some (r1, r2) := by first | (rw [hy601]; with_reducible exact H) | (have H2_ := (Option.bind_some _ _).symm.trans H; rw [hy601]; with_reducible exact H2_) | (have H2_ := (Option.bind_some _ _).symm.trans H; with_reducible exact H2_) | with_reducible exact H | (rw [hy601]; exact H) | exact H
    have Ny601 := Aside0.mk hy601
    clear hy601
    have H' := Aside0.mk H
    clear H
    obtain ⟨Ao16, co16, eo16⟩ := Kd.R_slice HO_8.out
    subst eo16
    have hcz17_0 : wr.cell? ⟨gb588, 0, none⟩ = some (.slice A0_0 l0_0.length c0_0) := (blk_cell BK588.out 0).trans rfl
    have hcz17_1 : wr.cell? ⟨gb588, 1, none⟩ = some (.int .i64 a0_1) := (blk_cell BK588.out 1).trans rfl
    have hcz17_2 : wr.cell? ⟨gb588, 2, none⟩ = some (.bool a0_2) := (blk_cell BK588.out 2).trans rfl
    have hcz17_3 : wr.cell? ⟨gb588, 3, none⟩ = some (.slice A0_3 l0_3.length c0_3) := (blk_cell BK588.out 3).trans rfl
    have hcz17_4 : wr.cell? ⟨gb588, 4, none⟩ = some (.slice A0_4 l0_4.length c0_4) := (blk_cell BK588.out 4).trans rfl
    have hfz17_0 := blk_frozen BK588.out 0
    have hfz17_1 := blk_frozen BK588.out 1
    have hfz17_2 := blk_frozen BK588.out 2
    have hfz17_3 := blk_frozen BK588.out 3
    have hfz17_4 := blk_frozen BK588.out 4
    go_wp2_with (first | ((with_reducible refine gate_builtin (b := .append) (xs := #[.tmp 32, .tmp 35]) rfl ?_); at_builtin; refine Kd.R_append k25 (w0 := w) w.heap.size rfl (.tmp 32) (.tmp 35) 23 25 (.agg #[(.int .i64 0), (.bool false)]) 16 rfl Tryd.underlying23 info25 rfl (by decide) (by omega) (.slice Ao16 x8_1.length co16) x8_1 (⟨a0_1, a0_2⟩ : S25) [.int .i64 a0_1, .bool a0_2] (fun _ => True) (fun _ => False) rfl rfl ?aP (fun _ hk => hk.elim) ?aF ?aO ?aB ?aS ?aL ?_; (case aP => exact k25_mkM _ _ _ (⟨a0_1, a0_2⟩ : S25)); (case aB => exact (by repeat (first | (with_reducible first | exact HB.out | apply below_alloc | apply pw_below_drewN | apply below_drew1 | refine below_set ?_ GE588.out) | exact HB.out))); (case aF => exact (fun _ _ => trivial)); (case aO => exact (by (with_reducible repeat (first | apply Kd.R_alloc | apply Kd.R_drewN | apply Kd.R_drew)); exact HO_8.out)); (case aS => exact (below_size (by repeat (first | (with_reducible first | exact HB.out | apply below_alloc | apply pw_below_drewN | apply below_drew1 | refine below_set ?_ GE588.out) | exact HB.out)))); (case aL => have := LMc15.out; omega); intro v602 w18 ho hb hg hat; rw [← Ny601.out] at ho; have n0_ := Aside0.mk (blk_grown (g := gb588) (o := .cells #[.slice A0_0 l0_0.length c0_0, .int .i64 a0_1, .bool a0_2, .slice A0_3 l0_3.length c0_3, .slice A0_4 l0_4.length c0_4] 27 (0, 0)) (by (with_reducible repeat (first | refine blk_drewN ?_ _ | refine blk_drew ?_ | refine blk_alloc ?_ _)); exact BK588.out) hg (Kd.R_ne HO_8.out BK588.out (by decide))); have n1_ := Aside0.mk (hb); have n2_ := Aside0.mk (ho); clear BK588; clear HB; clear HO_8; have BK588 := n0_; have HB := n1_; have HO603 := n2_; clear n0_ n1_ n2_; clear ho hb hg hat))
    go_roundg k1
    case measure => have := HK1.out; omega
    case rel => exact ⟨(y601), H', ⟨by have := HK1.out; omega⟩, ⟨by (with_reducible repeat (first | apply Kd.R_alloc | apply Kd.R_drewN | apply Kd.R_drew)); exact HO603.out⟩, ⟨by (with_reducible repeat (first | refine blk_drewN ?_ _ | refine blk_drew ?_ | refine blk_alloc ?_ _)); exact BK588.out⟩, ⟨by repeat (first | (with_reducible first | exact HB.out | apply below_alloc | apply pw_below_drewN | apply below_drew1 | refine below_set ?_ GE588.out) | exact HB.out)⟩⟩
   rw [if_neg c14] at H
   have c14b0 : decide ((x8_1.length : Int) < (wrap64 ((t593.size : Int) - (l0_3.length : Int)))) = false := decide_eq_false c14
   clear c14
   by_cases c19 : x8_1.length + l0_3.length < 8796093022208
   rotate_left
   ·rw [if_neg c19] at H
    exact absurd H (by simp)
   rw [if_pos c19] at H
   have LMc19 := Aside0.mk c19
   clear c19
   obtain ⟨y604, hy604⟩ : ∃ y_ : List (S25), y_ = (x8_1 ++ l0_3) := ⟨_, rfl⟩
   replace H : (spec_PsalmSing.l1 k1 t593 t594 y604 l0_0 a0_1 a0_2 l0_3 l0_4) = some (r1, r2) := by first | (rw [hy604]; with_reducible exact H) | (have H2_ := (Option.bind_some _ _).symm.trans H; rw [hy604]; with_reducible exact H2_) | (have H2_ := (Option.bind_some _ _).symm.trans H; with_reducible exact H2_) | with_reducible exact H | (rw [hy604]; exact H) | exact H
   have Ny604 := Aside0.mk hy604
   clear hy604
   have H' := Aside0.mk H
   clear H
   obtain ⟨Ao20, co20, eo20⟩ := Kd.R_slice HO_8.out
   subst eo20
   have hcz21_0 : wr.cell? ⟨gb588, 0, none⟩ = some (.slice A0_0 l0_0.length c0_0) := (blk_cell BK588.out 0).trans rfl
   have hcz21_1 : wr.cell? ⟨gb588, 1, none⟩ = some (.int .i64 a0_1) := (blk_cell BK588.out 1).trans rfl
   have hcz21_2 : wr.cell? ⟨gb588, 2, none⟩ = some (.bool a0_2) := (blk_cell BK588.out 2).trans rfl
   have hcz21_3 : wr.cell? ⟨gb588, 3, none⟩ = some (.slice A0_3 l0_3.length c0_3) := (blk_cell BK588.out 3).trans rfl
   have hcz21_4 : wr.cell? ⟨gb588, 4, none⟩ = some (.slice A0_4 l0_4.length c0_4) := (blk_cell BK588.out 4).trans rfl
   have hfz21_0 := blk_frozen BK588.out 0
   have hfz21_1 := blk_frozen BK588.out 1
   have hfz21_2 := blk_frozen BK588.out 2
   have hfz21_3 := blk_frozen BK588.out 3
   have hfz21_4 := blk_frozen BK588.out 4
   go_wp2_with (first | ((with_reducible refine gate_builtin (b := .append) (xs := #[.tmp 37, .tmp 39]) rfl ?_); at_builtin; refine Kd.R_append_rows k25 (w0 := w) w.heap.size rfl (.tmp 37) (.tmp 39) 23 25 (.agg #[(.int .i64 0), (.bool false)]) 16 rfl Tryd.underlying23 info25 rfl (by decide) (by omega) (.slice Ao20 x8_1.length co20) x8_1 l0_3 _ _ _ (fun _ => True) (fun _ => False) rfl rfl ?aO ?aR (fun _ _ h => h) (fun _ h => h.elim) ?aF ?aB ?aS ?aL ?_; (case aR => repeat (first | exact (Kd.C_below HR0_3.out HB.out) | (with_reducible refine Kd.C_alloc ?_ _) | (with_reducible refine Kd.C_drewN ?_ _) | (with_reducible refine Kd.C_drew ?_))); (case aB => exact (by repeat (first | (with_reducible first | exact HB.out | apply below_alloc | apply pw_below_drewN | apply below_drew1 | refine below_set ?_ GE588.out) | exact HB.out))); (case aF => exact (fun _ _ => trivial)); (case aO => exact (by (with_reducible repeat (first | apply Kd.R_alloc | apply Kd.R_drewN | apply Kd.R_drew)); exact HO_8.out)); (case aS => exact (below_size (by repeat (first | (with_reducible first | exact HB.out | apply below_alloc | apply pw_below_drewN | apply below_drew1 | refine below_set ?_ GE588.out) | exact HB.out)))); (case aL => have := LMc19.out; omega); intro v605 w22 ho hb hg hat; rw [← Ny604.out] at ho; have n0_ := Aside0.mk (blk_grown (g := gb588) (o := .cells #[.slice A0_0 l0_0.length c0_0, .int .i64 a0_1, .bool a0_2, .slice A0_3 l0_3.length c0_3, .slice A0_4 l0_4.length c0_4] 27 (0, 0)) (by (with_reducible repeat (first | refine blk_drewN ?_ _ | refine blk_drew ?_ | refine blk_alloc ?_ _)); exact BK588.out) hg (Kd.R_ne HO_8.out BK588.out (by decide))); have n1_ := Aside0.mk (hb); have n2_ := Aside0.mk (ho); clear BK588; clear HB; clear HO_8; have BK588 := n0_; have HB := n1_; have HO606 := n2_; clear n0_ n1_ n2_; clear ho hb hg hat))
   go_loopg [8] k1 (fun kq v8 w' => ∃ (x8_2 : List (S25)), Aside0 (spec_PsalmSing.l1 kq t593 t594 x8_2 l0_0 a0_1 a0_2 l0_3 l0_4 = some (r1, r2)) ∧ Aside0 (kq ≤ k1) ∧ Aside0 (Kd.R k25 25 w' w.heap.size (fun _ => True) v8 x8_2) ∧ Aside0 (w'.heap[gb588]? = some (.cells #[(.slice A0_0 l0_0.length c0_0), .int .i64 a0_1, .bool a0_2, (.slice A0_3 l0_3.length c0_3), (.slice A0_4 l0_4.length c0_4)] 27 (0, 0))) ∧ Aside0 (Below w.heap.size w w'))
   case atStart => exact ⟨(y604), H', ⟨Nat.le_refl _⟩, ⟨by (with_reducible repeat (first | apply Kd.R_alloc | apply Kd.R_drewN | apply Kd.R_drew)); exact HO606.out⟩, ⟨by (with_reducible repeat (first | refine blk_drewN ?_ _ | refine blk_drew ?_ | refine blk_alloc ?_ _)); exact BK588.out⟩, ⟨by repeat (first | (with_reducible first | exact HB.out | apply below_alloc | apply pw_below_drewN | apply below_drew1 | refine below_set ?_ GE588.out) | exact HB.out)⟩⟩
   case round =>
    clear H'
    try clear c1
    try clear p2
    try clear c3
    try clear c4
    try clear c5
    try clear c6
    try clear p6
    try clear c14
    try clear c14b0
    try clear c15
    try clear c17
    try clear c19
    try clear hcz12_0
    try clear hcz12_1
    try clear hcz12_2
    try clear hcz12_3
    try clear hcz12_4
    try clear hcz17_0
    try clear hcz17_1
    try clear hcz17_2
    try clear hcz17_3
    try clear hcz17_4
    try clear hcz21_0
    try clear hcz21_1
    try clear hcz21_2
    try clear hcz21_3
    try clear hcz21_4
    try clear hcz8_0
    try clear hcz8_1
    try clear hcz8_2
    try clear hcz8_3
    try clear hcz8_4
    try clear hfz12_0
    try clear hfz12_1
    try clear hfz12_2
    try clear hfz12_3
    try clear hfz12_4
    try clear hfz17_0
    try clear hfz17_1
    try clear hfz17_2
    try clear hfz17_3
    try clear hfz17_4
    try clear hfz21_0
    try clear hfz21_1
    try clear hfz21_2
    try clear hfz21_3
    try clear hfz21_4
    try clear hfz8_0
    try clear hfz8_1
    try clear hfz8_2
    try clear hfz8_3
    try clear hfz8_4
    try clear p2
    obtain ⟨x8_2, HA, HK2, HO_8, BK588, HB⟩ := hrel
    cases gk with
    | zero => exact absurd HA.out (by simp [spec_PsalmSing.l1])
    | succ k2 =>
     have H := HA.out
     clear HA
     simp only [spec_PsalmSing.l1] at H
     by_cases c23 : (x8_2.length : Int) < (wrap64 ((wrap64 ((t593.size : Int) + (t594.size : Int))) - (l0_4.length : Int)))
     rotate_left
     ·rw [if_neg c23] at H
      have c23b0 : decide ((x8_2.length : Int) < (wrap64 ((wrap64 ((t593.size : Int) + (t594.size : Int))) - (l0_4.length : Int)))) = false := decide_eq_false c23
      clear c23
      by_cases c28 : x8_2.length + l0_4.length < 8796093022208
      rotate_left
      ·rw [if_neg c28] at H
       exact absurd H (by simp)
      rw [if_pos c28] at H
      have LMc28 := Aside0.mk c28
      clear c28
      obtain ⟨y610, hy610⟩ : ∃ y_ : List (S25), y_ = (x8_2 ++ l0_4) := ⟨_, rfl⟩
      replace H : (some (y610, true)) = some (r1, r2) := by first | (rw [hy610]; with_reducible exact H) | (have H2_ := (Option.bind_some _ _).symm.trans H; rw [hy610]; with_reducible exact H2_) | (have H2_ := (Option.bind_some _ _).symm.trans H; with_reducible exact H2_) | with_reducible exact H | (rw [hy610]; exact H) | exact H
      have Ny610 := Aside0.mk hy610
      clear hy610
      simp only [Option.some.injEq, Prod.mk.injEq] at H
      obtain ⟨rfl, rfl⟩ := H
      obtain ⟨Ao29, co29, eo29⟩ := Kd.R_slice HO_8.out
      subst eo29
      have hcz30_0 : wr.cell? ⟨gb588, 0, none⟩ = some (.slice A0_0 l0_0.length c0_0) := (blk_cell BK588.out 0).trans rfl
      have hcz30_1 : wr.cell? ⟨gb588, 1, none⟩ = some (.int .i64 a0_1) := (blk_cell BK588.out 1).trans rfl
      have hcz30_2 : wr.cell? ⟨gb588, 2, none⟩ = some (.bool a0_2) := (blk_cell BK588.out 2).trans rfl
      have hcz30_3 : wr.cell? ⟨gb588, 3, none⟩ = some (.slice A0_3 l0_3.length c0_3) := (blk_cell BK588.out 3).trans rfl
      have hcz30_4 : wr.cell? ⟨gb588, 4, none⟩ = some (.slice A0_4 l0_4.length c0_4) := (blk_cell BK588.out 4).trans rfl
      have hfz30_0 := blk_frozen BK588.out 0
      have hfz30_1 := blk_frozen BK588.out 1
      have hfz30_2 := blk_frozen BK588.out 2
      have hfz30_3 := blk_frozen BK588.out 3
      have hfz30_4 := blk_frozen BK588.out 4
      go_wp2_with (first | ((with_reducible refine gate_builtin (b := .append) (xs := #[.tmp 58, .tmp 60]) rfl ?_); at_builtin; refine Kd.R_append_rows k25 (w0 := w) w.heap.size rfl (.tmp 58) (.tmp 60) 23 25 (.agg #[(.int .i64 0), (.bool false)]) 16 rfl Tryd.underlying23 info25 rfl (by decide) (by omega) (.slice Ao29 x8_2.length co29) x8_2 l0_4 _ _ _ (fun _ => True) (fun _ => False) rfl rfl ?aO ?aR (fun _ _ h => h) (fun _ h => h.elim) ?aF ?aB ?aS ?aL ?_; (case aR => repeat (first | exact (Kd.C_below HR0_4.out HB.out) | (with_reducible refine Kd.C_alloc ?_ _) | (with_reducible refine Kd.C_drewN ?_ _) | (with_reducible refine Kd.C_drew ?_))); (case aB => exact (by repeat (first | (with_reducible first | exact HB.out | apply below_alloc | apply pw_below_drewN | apply below_drew1 | refine below_set ?_ GE588.out) | exact HB.out))); (case aF => exact (fun _ _ => trivial)); (case aO => exact (by (with_reducible repeat (first | apply Kd.R_alloc | apply Kd.R_drewN | apply Kd.R_drew)); exact HO_8.out)); (case aS => exact (below_size (by repeat (first | (with_reducible first | exact HB.out | apply below_alloc | apply pw_below_drewN | apply below_drew1 | refine below_set ?_ GE588.out) | exact HB.out)))); (case aL => have := LMc28.out; omega); intro v611 w31 ho hb hg hat; rw [← Ny610.out] at ho; have n0_ := Aside0.mk (blk_grown (g := gb588) (o := .cells #[.slice A0_0 l0_0.length c0_0, .int .i64 a0_1, .bool a0_2, .slice A0_3 l0_3.length c0_3, .slice A0_4 l0_4.length c0_4] 27 (0, 0)) (by (with_reducible repeat (first | refine blk_drewN ?_ _ | refine blk_drew ?_ | refine blk_alloc ?_ _)); exact BK588.out) hg (Kd.R_ne HO_8.out BK588.out (by decide))); have n1_ := Aside0.mk (hb); have n2_ := Aside0.mk (ho); clear BK588; clear HB; clear HO_8; have BK588 := n0_; have HB := n1_; have HO612 := n2_; clear n0_ n1_ n2_; clear ho hb hg hat))
      go_ret2
      exact ⟨_, by first | rfl | (simp [errW_none, errW_some] <;> rfl) | (simp [*, errW_none, errW_some] <;> rfl), by (with_reducible repeat (first | apply Kd.R_alloc | apply Kd.R_drewN | apply Kd.R_drew)); exact HO612.out, by repeat (first | (with_reducible first | exact HB.out | apply below_alloc | apply pw_below_drewN | apply below_drew1 | refine below_set ?_ GE588.out) | exact HB.out)⟩
     rw [if_pos c23] at H
     have c23b0 : decide ((x8_2.length : Int) < (wrap64 ((wrap64 ((t593.size : Int) + (t594.size : Int))) - (l0_4.length : Int)))) = true := decide_eq_true c23
     clear c23
     by_cases c24 : x8_2.length < 8796093022208
     rotate_left
     ·rw [if_neg c24] at H
      exact absurd H (by simp)
     rw [if_pos c24] at H
     have LMc24 := Aside0.mk c24
     clear c24
     obtain ⟨y607, hy607⟩ : ∃ y_ : List (S25), y_ = (x8_2 ++ [(⟨a0_1, a0_2⟩ : S25)]) := ⟨_, rfl⟩
     replace H : (spec_PsalmSing.l1 k2 t593 t594 y607 l0_0 a0_1 a0_2 l0_3 l0_4) = some (r1, r2) := by first | (rw [hy607]; with_reducible exact H) | (have H2_ := (Option.bind_some _ _).symm.trans H; rw [hy607]; with_reducible exact H2_) | (have H2_ := (Option.bind_some _ _).symm.trans H; with_reducible exact H2_) | with_reducible exact H | (rw [hy607]; exact H) | exact H
     have Ny607 := Aside0.mk hy607
     clear hy607
     have H' := Aside0.mk H
     clear H
     obtain ⟨Ao25, co25, eo25⟩ := Kd.R_slice HO_8.out
     subst eo25
     have hcz26_0 : wr.cell? ⟨gb588, 0, none⟩ = some (.slice A0_0 l0_0.length c0_0) := (blk_cell BK588.out 0).trans rfl
     have hcz26_1 : wr.cell? ⟨gb588, 1, none⟩ = some (.int .i64 a0_1) := (blk_cell BK588.out 1).trans rfl
     have hcz26_2 : wr.cell? ⟨gb588, 2, none⟩ = some (.bool a0_2) := (blk_cell BK588.out 2).trans rfl
     have hcz26_3 : wr.cell? ⟨gb588, 3, none⟩ = some (.slice A0_3 l0_3.length c0_3) := (blk_cell BK588.out 3).trans rfl
     have hcz26_4 : wr.cell? ⟨gb588, 4, none⟩ = some (.slice A0_4 l0_4.length c0_4) := (blk_cell BK588.out 4).trans rfl
     have hfz26_0 := blk_frozen BK588.out 0
     have hfz26_1 := blk_frozen BK588.out 1
     have hfz26_2 := blk_frozen BK588.out 2
     have hfz26_3 := blk_frozen BK588.out 3
     have hfz26_4 := blk_frozen BK588.out 4
     go_wp2_with (first | ((with_reducible refine gate_builtin (b := .append) (xs := #[.tmp 53, .tmp 56]) rfl ?_); at_builtin; refine Kd.R_append k25 (w0 := w) w.heap.size rfl (.tmp 53) (.tmp 56) 23 25 (.agg #[(.int .i64 0), (.bool false)]) 16 rfl Tryd.underlying23 info25 rfl (by decide) (by omega) (.slice Ao25 x8_2.length co25) x8_2 (⟨a0_1, a0_2⟩ : S25) [.int .i64 a0_1, .bool a0_2] (fun _ => True) (fun _ => False) rfl rfl ?aP (fun _ hk => hk.elim) ?aF ?aO ?aB ?aS ?aL ?_; (case aP => exact k25_mkM _ _ _ (⟨a0_1, a0_2⟩ : S25)); (case aB => exact (by repeat (first | (with_reducible first | exact HB.out | apply below_alloc | apply pw_below_drewN | apply below_drew1 | refine below_set ?_ GE588.out) | exact HB.out))); (case aF => exact (fun _ _ => trivial)); (case aO => exact (by (with_reducible repeat (first | apply Kd.R_alloc | apply Kd.R_drewN | apply Kd.R_drew)); exact HO_8.out)); (case aS => exact (below_size (by repeat (first | (with_reducible first | exact HB.out | apply below_alloc | apply pw_below_drewN | apply below_drew1 | refine below_set ?_ GE588.out) | exact HB.out)))); (case aL => have := LMc24.out; omega); intro v608 w27 ho hb hg hat; rw [← Ny607.out] at ho; have n0_ := Aside0.mk (blk_grown (g := gb588) (o := .cells #[.slice A0_0 l0_0.length c0_0, .int .i64 a0_1, .bool a0_2, .slice A0_3 l0_3.length c0_3, .slice A0_4 l0_4.length c0_4] 27 (0, 0)) (by (with_reducible repeat (first | refine blk_drewN ?_ _ | refine blk_drew ?_ | refine blk_alloc ?_ _)); exact BK588.out) hg (Kd.R_ne HO_8.out BK588.out (by decide))); have n1_ := Aside0.mk (hb); have n2_ := Aside0.mk (ho); clear BK588; clear HB; clear HO_8; have BK588 := n0_; have HB := n1_; have HO609 := n2_; clear n0_ n1_ n2_; clear ho hb hg hat))
     go_roundg k2
     case measure => have := HK1.out; have := HK2.out; omega
     case rel => exact ⟨(y607), H', ⟨by have := HK1.out; have := HK2.out; omega⟩, ⟨by (with_reducible repeat (first | apply Kd.R_alloc | apply Kd.R_drewN | apply Kd.R_drew)); exact HO609.out⟩, ⟨by (with_reducible repeat (first | refine blk_drewN ?_ _ | refine blk_drew ?_ | refine blk_alloc ?_ _)); exact BK588.out⟩, ⟨by repeat (first | (with_reducible first | exact HB.out | apply below_alloc | apply pw_below_drewN | apply below_drew1 | refine below_set ?_ GE588.out) | exact HB.out)⟩⟩
end Go.Proofs.YtdgmkfbmeaalpaaDoor.E
end
section
namespace Go.Proofs.YtdgmkfbmeaalpaaDoor.E
open Go.RowKit Go.Proofs.YtdgmkfbmeaalpaaDoorW.PrintWords Go.Proofs.YtdgmkfbmeaalpaaDoorW.PrintLast Go.Proofs.YtdgmkfbmeaalpaaDoorW.PrintMore
attribute [local go_sem] max2_int min2_int max_two min_two max_three min_three max_four min_four
set_option linter.unusedVariables false
set_option linter.unusedSimpArgs false
attribute [local go_sem] str_leq_ str_gtr_ str_geq_
def laws_markToneS.l0 : Nat → List (S25) → Int → Int → Option (Int × (List (S25)))
 | 0, _, _, _ => none
 | k + 1, x0, x1, x5 => if x5 < (x0.length : Int) then (if 0 ≤ x5 then ((some (x0.set (x5 : Int).toNat (⟨x1, (rd_T25 x0 x5).f1⟩ : S25) : List (S25))).bind fun y660 => (laws_markToneS.l0 k (y660.set (x5 : Int).toNat (⟨(rd_T25 y660 x5).f0, ((Int.tmod (wrap64 (x1 + 1)) 3) == 0)⟩ : S25)) (wrap64 ((wrap64 (x1 + 1)) + 1)) (wrap64 (x5 + 1)))) else (none)) else (some (x1, x0))
def laws_markToneS.f (k : Nat) (l0 : List (S25)) (a1 : Int) : Option (Int × (List (S25))) := laws_markToneS.l0 k l0 a1 0
set_option maxHeartbeats 8000000 in
set_option maxRecDepth 100000 in
theorem laws_markToneS.calls (k : Nat) (P0_ : Nat → Prop) (u9000_ : Value) (l0 : List (S25)) (a1 : Int) (r1 : Int) (r2 : List (S25)) (w0 w : World) (hB : Below w0.heap.size w0 w) (ho0 : Kd.R k25 25 w w0.heap.size P0_ u9000_ l0) (h : laws_markToneS.f k l0 a1 = some (r1, r2)) :
  Calls Tryd.prog 38 #[u9000_, .int .i64 a1] w fun e w' => e = .returned (.int .i64 r1) ∧ Kd.R k25 25 w' w0.heap.size (fun k_ => (P0_ k_ ∨ w.heap.size ≤ k_)) u9000_ r2 ∧ Below w0.heap.size w0 w' ∧ Kept w w' (fun k_ => P0_ k_) := by
 have HO0 := Aside0.mk (show Kd.R k25 25 w w0.heap.size (fun k_ => (P0_ k_ ∨ w.heap.size ≤ k_)) u9000_ l0 from Kd.R_mono ho0 (fun k_ hk => (.inl hk)))
 have HK := Aside0.mk (Kept.refl w (fun k_ => P0_ k_))
 have HW0 := Aside0.mk hB.size
 have HB := Aside0.mk hB
 clear hB
 have H : (laws_markToneS.l0 k l0 a1 0) = some (r1, r2) := h
 clear h
 have H' := Aside0.mk H
 clear H
 go_enter Tryd.func38, Tryd.ntmps38
 go_wp2
 go_loopg [1, 5] k (fun kq v1 v5 w' => ∃ (x0_1 : List (S25)) (x1_1 : Int) (x5_1 : Int), v1 = .int .i64 x1_1 ∧ v5 = .int .i64 x5_1 ∧ Aside0 (laws_markToneS.l0 kq x0_1 x1_1 x5_1 = some (r1, r2)) ∧ Aside0 (kq ≤ k) ∧ Aside0 (Kd.R k25 25 w' w0.heap.size (fun k_ => (P0_ k_ ∨ w.heap.size ≤ k_)) u9000_ x0_1) ∧ Aside0 (Kept w w' (fun k_ => P0_ k_)) ∧ Aside0 (Below w0.heap.size w0 w'))
 case atStart => exact ⟨(l0), (a1), (0), (by first | rfl | (simp; done) | (simp [*]; done)), (by first | rfl | (simp; done) | (simp [*]; done)), H', ⟨Nat.le_refl _⟩, ⟨by (with_reducible repeat (first | apply Kd.R_alloc | apply Kd.R_drewN | apply Kd.R_drew)); exact HO0.out⟩, ⟨by repeat (first | (with_reducible first | exact HK.out | apply Kept.alloc | apply Kept.drewN | apply Kept.drew) | exact HK.out)⟩, ⟨by repeat (first | (with_reducible first | exact HB.out | apply below_alloc | apply pw_below_drewN | apply below_drew1) | exact HB.out)⟩⟩
 case round =>
  clear H'
  try clear p2
  obtain ⟨x0_1, x1_1, x5_1, rfl, rfl, HA, HK1, HO_0, HK, HB⟩ := hrel
  cases gk with
  | zero => exact absurd HA.out (by simp [laws_markToneS.l0])
  | succ k1 =>
   have H := HA.out
   clear HA
   simp only [laws_markToneS.l0] at H
   by_cases c3 : x5_1 < (x0_1.length : Int)
   rotate_left
   ·rw [if_neg c3] at H
    have c3b0 : decide (x5_1 < (x0_1.length : Int)) = false := decide_eq_false c3
    clear c3
    simp only [Option.some.injEq, Prod.mk.injEq] at H
    obtain ⟨rfl, rfl⟩ := H
    obtain ⟨Ao12, co12, eo12⟩ := Kd.R_slice HO_0.out
    subst eo12
    go_wp2
    go_ret
    exact ⟨by first | (simp only [IntKind.wrap_i64, Go.RowKit.wrap64]; rfl) | rfl | (simp [errW_none, errW_some] <;> rfl) | (simp [*, errW_none, errW_some] <;> rfl), by (with_reducible repeat (first | apply Kd.R_alloc | apply Kd.R_drewN | apply Kd.R_drew)); exact HO_0.out, by repeat (first | (with_reducible first | exact HB.out | apply below_alloc | apply pw_below_drewN | apply below_drew1) | exact HB.out), by repeat (first | (with_reducible first | exact HK.out | apply Kept.alloc | apply Kept.drewN | apply Kept.drew) | exact HK.out)⟩
   rw [if_pos c3] at H
   have c3b0 : decide (x5_1 < (x0_1.length : Int)) = true := decide_eq_true c3
   clear c3
   by_cases c4 : 0 ≤ x5_1
   rotate_left
   ·rw [if_neg c4] at H
    exact absurd H (by simp)
   rw [if_pos c4] at H
   have c4b0 : decide (0 ≤ x5_1) = true := decide_eq_true c4
   clear c4
   obtain ⟨y660, hy660⟩ : ∃ y_ : List (S25), y_ = (x0_1.set (x5_1 : Int).toNat (⟨x1_1, (rd_T25 x0_1 x5_1).f1⟩ : S25)) := ⟨_, rfl⟩
   replace H : (laws_markToneS.l0 k1 (y660.set (x5_1 : Int).toNat (⟨(rd_T25 y660 x5_1).f0, ((Int.tmod (wrap64 (x1_1 + 1)) 3) == 0)⟩ : S25)) (wrap64 ((wrap64 (x1_1 + 1)) + 1)) (wrap64 (x5_1 + 1))) = some (r1, r2) := by first | (rw [hy660]; with_reducible exact H) | (have H2_ := (Option.bind_some _ _).symm.trans H; rw [hy660]; with_reducible exact H2_) | (have H2_ := (Option.bind_some _ _).symm.trans H; with_reducible exact H2_) | with_reducible exact H | (rw [hy660]; exact H) | exact H
   have Ny660 := Aside0.mk hy660
   clear hy660
   obtain ⟨y661, hy661⟩ : ∃ y_ : List (S25), y_ = (y660.set (x5_1 : Int).toNat (⟨(rd_T25 y660 x5_1).f0, ((Int.tmod (wrap64 (x1_1 + 1)) 3) == 0)⟩ : S25)) := ⟨_, rfl⟩
   replace H : (laws_markToneS.l0 k1 y661 (wrap64 ((wrap64 (x1_1 + 1)) + 1)) (wrap64 (x5_1 + 1))) = some (r1, r2) := by first | (rw [hy661]; with_reducible exact H) | (have H2_ := (Option.bind_some _ _).symm.trans H; rw [hy661]; with_reducible exact H2_) | (have H2_ := (Option.bind_some _ _).symm.trans H; with_reducible exact H2_) | with_reducible exact H | (rw [hy661]; exact H) | exact H
   have Ny661 := Aside0.mk hy661
   clear hy661
   have H' := Aside0.mk H
   clear H
   obtain ⟨Ao7, co7, eo7⟩ := Kd.R_slice HO_0.out
   subst eo7
   have p5 : 0 ≤ (x5_1 : Int) := of_decide_eq_true (by first | (with_reducible assumption) | assumption)
   have q5 : (x5_1 : Int) < ((x0_1.length : Int) : Int) := of_decide_eq_true (by first | (with_reducible assumption) | assumption)
   obtain ⟨go5, co5, eo5, gb5, gl5, cl5, HG5⟩ := Kd.R_form HO_0.out (by omega)
   (first | cases eo5 | (injection eo5 with ea_ en_ ec_; (first | subst ea_ | (injection ea_ with ea_; subst ea_)); subst ec_; clear en_))
   have GB5 := Aside0.mk gb5
   have GG5 := Aside0.mk HG5
   clear gb5 gl5 HG5
   have HMgo5 := Aside0.mk (show (P0_ go5 ∨ w.heap.size ≤ go5) from (HO_0.out.1 _ rfl))
   obtain ⟨ce5, hcl5, hM5, hcc5, hfr5⟩ := Kd.R_elem HO_0.out z25 (x5_1 : Int) p5 q5
   obtain rfl := k25_openM hM5
   have hx5_0 : wr.cell? ⟨go5, (x5_1 : Int).toNat * 2, none⟩ = some (.int .i64 ((rd_T25 x0_1 x5_1).f0)) := hcc5 0 _ rfl
   have hx5_1 : wr.cell? ⟨go5, (x5_1 : Int).toNat * 2 + 1, none⟩ = some (.bool ((rd_T25 x0_1 x5_1).f1)) := hcc5 1 _ rfl
   have hf5_0 : wr.frozen? ⟨go5, (x5_1 : Int).toNat * 2, none⟩ = false := hfr5 0
   have hf5_1 : wr.frozen? ⟨go5, (x5_1 : Int).toNat * 2 + 1, none⟩ = false := hfr5 1
   (try clear hM5); clear hcl5 hcc5 hfr5
   replace p5 := eq_true p5
   replace q5 := eq_true q5
   have HX8 := Aside0.mk (show Kd.R k25 25 wr w0.heap.size (fun k_ => (P0_ k_ ∨ w.heap.size ≤ k_)) (.slice (some ⟨go5, 0, none⟩) x0_1.length co7) x0_1 from (by (with_reducible repeat (first | apply Kd.R_alloc | apply Kd.R_drewN | apply Kd.R_drew)); exact HO_0.out))
   obtain ⟨ce8, hcl8, hM8, hcc8, hfr8⟩ := Kd.R_elem HX8.out z25 (x5_1 : Int) (of_decide_eq_true (by first | (with_reducible assumption) | assumption)) (by have h_ : (x5_1 : Int) < ((x0_1.length : Int) : Int) := of_decide_eq_true (by first | (with_reducible assumption) | assumption); first | exact h_ | (have e_ := (Kd.R_reads' HO_0.out).1; omega) | simpa using h_)
   obtain rfl := k25_openM hM8
   have HP8 := Kd.R_seg HX8.out (x5_1 : Int) (of_decide_eq_true (by first | (with_reducible assumption) | assumption)) (by have h_ : (x5_1 : Int) < ((x0_1.length : Int) : Int) := of_decide_eq_true (by first | (with_reducible assumption) | assumption); first | exact h_ | (have e_ := (Kd.R_reads' HO_0.out).1; omega) | simpa using h_) (seg := [.int .i64 x1_1]) (j := 0) hcl8 hcc8 (show 1 ≤ 2 from by decide) (x' := (⟨x1_1, (rd_T25 x0_1 x5_1).f1⟩ : S25)) (k25_mkM _ _ _ (⟨x1_1, (rd_T25 x0_1 x5_1).f1⟩ : S25) ) (fun _ hk => hk)
   have hx8_0 := hcc8 0 _ rfl
   (try simp only [show (k25).sz = 2 from rfl, Nat.mul_one, Nat.add_zero] at hx8_0)
   have hf8_0 := hfr8 0
   (try simp only [show (k25).sz = 2 from rfl, Nat.mul_one, Nat.add_zero] at hf8_0)
   (try clear hM8); clear hcl8 hcc8 hfr8
   go_wp2_with (first | ((with_reducible refine gate_store (t := 3) (p := 16) rfl ?_); refine store_event (t := 3) (p := 16) (v := ?vo_w9) (w1 := (wr.setCell ⟨go5, (x5_1 : Int).toNat * 2, none⟩ (.int .i64 x1_1))) ?hg ?ho ?hn ?hr ?_; (case ho => rfl); (case hg => rfl); (case hn => rfl); (case hr => first | (go_simp; done) | (go_simp; rfl)); intro w9 hw; have hg : wr.grownBy w9 (some go5) := (by rw [hw]; exact HP8.2); have hp_ : Kd.R k25 25 w9 w0.heap.size (fun k_ => (P0_ k_ ∨ w.heap.size ≤ k_)) (.slice (some ⟨go5, 0, none⟩) x0_1.length co7) y660 := (by rw [hw, Ny660.out]; exact HP8.1); clear HP8; have n0_ := Aside0.mk (hp_); have n1_ := Aside0.mk ((by rw [hw]; exact below_set (HB.out) GB5.out : Below w0.heap.size w0 w9)); have n2_ := Aside0.mk (Kept.of_grown (S := (fun k_ => P0_ k_)) hg (by repeat (first | (with_reducible first | exact HK.out | apply Kept.alloc | apply Kept.drewN | apply Kept.drew) | exact HK.out)) (fun k_ e_ => (HO_0.out.1 k_ e_))); clear HO_0; clear HB; clear HK; have HO_0 := n0_; have HB := n1_; have HK := n2_; clear n0_ n1_ n2_; clear hg hw hp_; have p6 : 0 ≤ (x5_1 : Int) := of_decide_eq_true (by first | (with_reducible assumption) | assumption); have q6 : (x5_1 : Int) < ((x0_1.length : Int) : Int) := of_decide_eq_true (by first | (with_reducible assumption) | assumption); obtain ⟨ce6, hcl6, hM6, hcc6, hfr6⟩ := Kd.R_elem HO_0.out z25 (x5_1 : Int) p6 q6; obtain rfl := k25_openM hM6; have hx6_0 : w9.cell? ⟨go5, (x5_1 : Int).toNat * 2, none⟩ = some (.int .i64 ((rd_T25 y660 x5_1).f0)) := hcc6 0 _ rfl; have hx6_1 : w9.cell? ⟨go5, (x5_1 : Int).toNat * 2 + 1, none⟩ = some (.bool ((rd_T25 y660 x5_1).f1)) := hcc6 1 _ rfl; have hf6_0 : w9.frozen? ⟨go5, (x5_1 : Int).toNat * 2, none⟩ = false := hfr6 0; have hf6_1 : w9.frozen? ⟨go5, (x5_1 : Int).toNat * 2 + 1, none⟩ = false := hfr6 1; (try clear hM6); clear hcl6 hcc6 hfr6; replace p6 := eq_true p6; replace q6 := eq_true q6; have HX10 := Aside0.mk (show Kd.R k25 25 w9 w0.heap.size (fun k_ => (P0_ k_ ∨ w.heap.size ≤ k_)) (.slice (some ⟨go5, 0, none⟩) x0_1.length co7) y660 from (by (with_reducible repeat (first | apply Kd.R_alloc | apply Kd.R_drewN | apply Kd.R_drew)); exact HO_0.out)); obtain ⟨ce10, hcl10, hM10, hcc10, hfr10⟩ := Kd.R_elem HX10.out z25 (x5_1 : Int) (of_decide_eq_true (by first | (with_reducible assumption) | assumption)) (by have h_ : (x5_1 : Int) < ((x0_1.length : Int) : Int) := of_decide_eq_true (by first | (with_reducible assumption) | assumption); first | exact h_ | (have e_ := (Kd.R_reads' HO_0.out).1; omega) | simpa using h_); obtain rfl := k25_openM hM10; have HP10 := Kd.R_seg HX10.out (x5_1 : Int) (of_decide_eq_true (by first | (with_reducible assumption) | assumption)) (by have h_ : (x5_1 : Int) < ((x0_1.length : Int) : Int) := of_decide_eq_true (by first | (with_reducible assumption) | assumption); first | exact h_ | (have e_ := (Kd.R_reads' HO_0.out).1; omega) | simpa using h_) (seg := [.bool ((Int.tmod (wrap64 (x1_1 + 1)) 3) == 0)]) (j := 1) hcl10 hcc10 (show 2 ≤ 2 from by decide) (x' := (⟨(rd_T25 y660 x5_1).f0, ((Int.tmod (wrap64 (x1_1 + 1)) 3) == 0)⟩ : S25)) (k25_mkM _ _ _ (⟨(rd_T25 y660 x5_1).f0, ((Int.tmod (wrap64 (x1_1 + 1)) 3) == 0)⟩ : S25) ) (fun _ hk => hk); have hx10_1 := hcc10 1 _ rfl; (try simp only [show (k25).sz = 2 from rfl, Nat.mul_one, Nat.add_zero] at hx10_1); have hf10_1 := hfr10 1; (try simp only [show (k25).sz = 2 from rfl, Nat.mul_one, Nat.add_zero] at hf10_1); (try clear hM10); clear hcl10 hcc10 hfr10) | ((with_reducible refine gate_store (t := 4) (p := 25) rfl ?_); refine store_event (t := 4) (p := 25) (v := ?vo_w11) (w1 := (w9.setCell ⟨go5, (x5_1 : Int).toNat * 2 + 1, none⟩ (.bool ((Int.tmod (wrap64 (x1_1 + 1)) 3) == 0)))) ?hg ?ho ?hn ?hr ?_; (case ho => rfl); (case hg => rfl); (case hn => rfl); (case hr => first | (go_simp; done) | (go_simp; rfl)); intro w11 hw; have hg : w9.grownBy w11 (some go5) := (by rw [hw]; exact HP10.2); have hp_ : Kd.R k25 25 w11 w0.heap.size (fun k_ => (P0_ k_ ∨ w.heap.size ≤ k_)) (.slice (some ⟨go5, 0, none⟩) x0_1.length co7) y661 := (by rw [hw, Ny661.out]; exact HP10.1); clear HP10; have n0_ := Aside0.mk (hp_); have n1_ := Aside0.mk ((by rw [hw]; exact below_set (HB.out) GB5.out : Below w0.heap.size w0 w11)); have n2_ := Aside0.mk (Kept.of_grown (S := (fun k_ => P0_ k_)) hg (by repeat (first | (with_reducible first | exact HK.out | apply Kept.alloc | apply Kept.drewN | apply Kept.drew) | exact HK.out)) (fun k_ e_ => (HO_0.out.1 k_ e_))); clear HO_0; clear HB; clear HK; have HO_0 := n0_; have HB := n1_; have HK := n2_; clear n0_ n1_ n2_; clear hg hw hp_))
   go_roundg k1
   case measure => have := HK1.out; omega
   case rel => exact ⟨(y661), (wrap64 ((wrap64 (x1_1 + 1)) + 1)), (wrap64 (x5_1 + 1)), (by first | rfl | (simp; done) | (simp [*]; done)), (by first | rfl | (simp; done) | (simp [*]; done)), H', ⟨by have := HK1.out; omega⟩, ⟨by (with_reducible repeat (first | apply Kd.R_alloc | apply Kd.R_drewN | apply Kd.R_drew)); exact HO_0.out⟩, ⟨by repeat (first | (with_reducible first | exact HK.out | apply Kept.alloc | apply Kept.drewN | apply Kept.drew) | exact HK.out)⟩, ⟨by repeat (first | (with_reducible first | exact HB.out | apply below_alloc | apply pw_below_drewN | apply below_drew1) | exact HB.out)⟩⟩
end Go.Proofs.YtdgmkfbmeaalpaaDoor.E
end
section
namespace Go.Proofs.YtdgmkfbmeaalpaaDoor.E
open Go.RowKit Go.Proofs.YtdgmkfbmeaalpaaDoorW.PrintWords Go.Proofs.YtdgmkfbmeaalpaaDoorW.PrintLast Go.Proofs.YtdgmkfbmeaalpaaDoorW.PrintMore
attribute [local go_sem] max2_int min2_int max_two min_two max_three min_three max_four min_four
set_option linter.unusedVariables false
set_option linter.unusedSimpArgs false
attribute [local go_sem] str_leq_ str_gtr_ str_geq_
def laws_markPsalm.f (k : Nat) (l0_0 : List (S25)) (a0_1 : Int) (a0_2 : Bool) (l0_3 : List (S25)) (l0_4 : List (S25)) (a1 : Int) : Option (Int × (List (S25)) × (List (S25)) × (List (S25))) := (laws_markToneS.f k l0_0 a1).bind fun bt663 => ((laws_markToneS.f k l0_3 bt663.1).bind fun bt665 => ((laws_markToneS.f k l0_4 bt665.1).bind fun bt667 => (some (bt667.1, bt663.2, bt665.2, bt667.2))))
set_option maxHeartbeats 8000000 in
set_option maxRecDepth 100000 in
theorem laws_markPsalm.calls (k : Nat) (P0_0_ : Nat → Prop) (u9000_ : Value) (l0_0 : List (S25)) (a0_1 : Int) (a0_2 : Bool) (P0_3_ : Nat → Prop) (u9001_ : Value) (l0_3 : List (S25)) (P0_4_ : Nat → Prop) (u9002_ : Value) (l0_4 : List (S25)) (a1 : Int) (r1 : Int) (r2 : List (S25)) (r3 : List (S25)) (r4 : List (S25)) (w0 w : World) (hB : Below w0.heap.size w0 w) (ho0_0 : Kd.R k25 25 w w0.heap.size P0_0_ u9000_ l0_0) (hp0_0_0_3 : ∀ k_, P0_0_ k_ → ¬ P0_3_ k_) (hp0_0_0_4 : ∀ k_, P0_0_ k_ → ¬ P0_4_ k_) (ho0_3 : Kd.R k25 25 w w0.heap.size P0_3_ u9001_ l0_3) (hp0_3_0_0 : ∀ k_, P0_3_ k_ → ¬ P0_0_ k_) (hp0_3_0_4 : ∀ k_, P0_3_ k_ → ¬ P0_4_ k_) (ho0_4 : Kd.R k25 25 w w0.heap.size P0_4_ u9002_ l0_4) (hp0_4_0_0 : ∀ k_, P0_4_ k_ → ¬ P0_0_ k_) (hp0_4_0_3 : ∀ k_, P0_4_ k_ → ¬ P0_3_ k_) (h : laws_markPsalm.f k l0_0 a0_1 a0_2 l0_3 l0_4 a1 = some (r1, r2, r3, r4)) :
  Calls Tryd.prog 37 #[.agg #[u9000_, .int .i64 a0_1, .bool a0_2, u9001_, u9002_], .int .i64 a1] w fun e w' => e = .returned (.int .i64 r1) ∧ Kd.R k25 25 w' w0.heap.size (fun k_ => ((P0_0_ k_ ∨ P0_3_ k_ ∨ P0_4_ k_) ∨ w.heap.size ≤ k_)) u9000_ r2 ∧ Kd.R k25 25 w' w0.heap.size (fun k_ => ((P0_0_ k_ ∨ P0_3_ k_ ∨ P0_4_ k_) ∨ w.heap.size ≤ k_)) u9001_ r3 ∧ Kd.R k25 25 w' w0.heap.size (fun k_ => ((P0_0_ k_ ∨ P0_3_ k_ ∨ P0_4_ k_) ∨ w.heap.size ≤ k_)) u9002_ r4 ∧ Below w0.heap.size w0 w' ∧ Kept w w' (fun k_ => P0_0_ k_ ∨ P0_3_ k_ ∨ P0_4_ k_) := by
 have hu27 := Tryd.underlying27
 have HO0_0 := Aside0.mk (show Kd.R k25 25 w w0.heap.size (fun k_ => ((P0_0_ k_ ∨ P0_3_ k_ ∨ P0_4_ k_) ∨ w.heap.size ≤ k_) ∧ some k_ ≠ (u9001_ : Value).ownBlock ∧ some k_ ≠ (u9002_ : Value).ownBlock) u9000_ l0_0 from Kd.R_mono ho0_0 (fun k_ hk => ⟨(.inl (.inl hk)), fun e_ => hp0_0_0_3 k_ hk (ho0_3.1 k_ e_.symm), fun e_ => hp0_0_0_4 k_ hk (ho0_4.1 k_ e_.symm)⟩))
 have HO0_3 := Aside0.mk (show Kd.R k25 25 w w0.heap.size (fun k_ => ((P0_0_ k_ ∨ P0_3_ k_ ∨ P0_4_ k_) ∨ w.heap.size ≤ k_) ∧ some k_ ≠ (u9000_ : Value).ownBlock ∧ some k_ ≠ (u9002_ : Value).ownBlock) u9001_ l0_3 from Kd.R_mono ho0_3 (fun k_ hk => ⟨(.inl (.inr (.inl hk))), fun e_ => hp0_3_0_0 k_ hk (ho0_0.1 k_ e_.symm), fun e_ => hp0_3_0_4 k_ hk (ho0_4.1 k_ e_.symm)⟩))
 have HO0_4 := Aside0.mk (show Kd.R k25 25 w w0.heap.size (fun k_ => ((P0_0_ k_ ∨ P0_3_ k_ ∨ P0_4_ k_) ∨ w.heap.size ≤ k_) ∧ some k_ ≠ (u9000_ : Value).ownBlock ∧ some k_ ≠ (u9001_ : Value).ownBlock) u9002_ l0_4 from Kd.R_mono ho0_4 (fun k_ hk => ⟨(.inl (.inr (.inr hk))), fun e_ => hp0_4_0_0 k_ hk (ho0_0.1 k_ e_.symm), fun e_ => hp0_4_0_3 k_ hk (ho0_3.1 k_ e_.symm)⟩))
 have HK := Aside0.mk (Kept.refl w (fun k_ => P0_0_ k_ ∨ P0_3_ k_ ∨ P0_4_ k_))
 have HW0 := Aside0.mk hB.size
 have HB := Aside0.mk hB
 clear hB
 have H : ((laws_markToneS.f k l0_0 a1).bind fun bt663 => ((laws_markToneS.f k l0_3 bt663.1).bind fun bt665 => ((laws_markToneS.f k l0_4 bt665.1).bind fun bt667 => (some (bt667.1, bt663.2, bt665.2, bt667.2))))) = some (r1, r2, r3, r4) := h
 clear h
 replace H := Option.bind_eq_some_iff.mp H
 obtain ⟨⟨t663, t664⟩, A30, H⟩ := H
 replace H : ((laws_markToneS.f k l0_3 t663).bind fun bt665 => ((laws_markToneS.f k l0_4 bt665.1).bind fun bt667 => (some (bt667.1, t664, bt665.2, bt667.2)))) = some (r1, r2, r3, r4) := H
 have A3 := Aside0.mk A30
 clear A30
 replace H := Option.bind_eq_some_iff.mp H
 obtain ⟨⟨t665, t666⟩, A40, H⟩ := H
 replace H : ((laws_markToneS.f k l0_4 t665).bind fun bt667 => (some (bt667.1, t664, t666, bt667.2))) = some (r1, r2, r3, r4) := H
 have A4 := Aside0.mk A40
 clear A40
 replace H := Option.bind_eq_some_iff.mp H
 obtain ⟨⟨t667, t668⟩, A50, H⟩ := H
 replace H : (some (t667, t664, t666, t668)) = some (r1, r2, r3, r4) := H
 have A5 := Aside0.mk A50
 clear A50
 simp only [Option.some.injEq, Prod.mk.injEq] at H
 obtain ⟨rfl, rfl, rfl, rfl⟩ := H
 obtain ⟨Ao6, co6, eo6⟩ := Kd.R_slice HO0_0.out
 subst eo6
 obtain ⟨Ao7, co7, eo7⟩ := Kd.R_slice HO0_3.out
 subst eo7
 obtain ⟨Ao8, co8, eo8⟩ := Kd.R_slice HO0_4.out
 subst eo8
 go_enter Tryd.func37, Tryd.ntmps37
 go_wp2_with (first | ((with_reducible refine gate_dst (N := 2) rfl ?_); refine box_event ?hg (N := 2) ?hd (cs := #[.slice Ao6 l0_0.length co6, .int .i64 a0_1, .bool a0_2, .slice Ao7 l0_3.length co7, .slice Ao8 l0_4.length co8]) (t := 27) ?hr ?_; (case hd => rfl); (case hg => rfl); (case hr => first | (go_simp; done) | (go_simp; rfl)); intro gb662 hg w9 hbox hb; have n0_ := Aside0.mk (Kd.R_below (by (with_reducible repeat (first | apply Kd.R_alloc | apply Kd.R_drewN | apply Kd.R_drew)); exact HO0_0.out) hb); have n1_ := Aside0.mk (Kd.R_below (by (with_reducible repeat (first | apply Kd.R_alloc | apply Kd.R_drewN | apply Kd.R_drew)); exact HO0_3.out) hb); have n2_ := Aside0.mk (Kd.R_below (by (with_reducible repeat (first | apply Kd.R_alloc | apply Kd.R_drewN | apply Kd.R_drew)); exact HO0_4.out) hb); have n3_ := Aside0.mk (Kept.below (S := (fun k_ => P0_0_ k_ ∨ P0_3_ k_ ∨ P0_4_ k_)) (by repeat (first | (with_reducible first | exact HK.out | apply Kept.alloc | apply Kept.drewN | apply Kept.drew) | exact HK.out)) hb); have n4_ := Aside0.mk (below_step (by repeat (first | (with_reducible first | exact HB.out | apply below_alloc | apply pw_below_drewN | apply below_drew1) | exact HB.out)) hb); have n5_ := Aside0.mk (hbox); have n6_ := Aside0.mk ((by rw [hg]; exact (by first | exact HK.out.1 | exact (show Kept w _ (fun k_ => P0_0_ k_ ∨ P0_3_ k_ ∨ P0_4_ k_) from by repeat (first | (with_reducible first | exact HK.out | apply Kept.alloc | apply Kept.drewN | apply Kept.drew) | exact HK.out)).1) : w.heap.size ≤ gb662)); have n7_ := Aside0.mk ((by rw [hg]; exact (below_size (by repeat (first | (with_reducible first | exact HB.out | apply below_alloc | apply pw_below_drewN | apply below_drew1) | exact HB.out))) : w0.heap.size ≤ gb662)); clear HO0_0; clear HO0_3; clear HO0_4; clear HK; clear HB; have HO0_0 := n0_; have HO0_3 := n1_; have HO0_4 := n2_; have HK := n3_; have HB := n4_; have BK662 := n5_; have GW662 := n6_; have GE662 := n7_; clear n0_ n1_ n2_ n3_ n4_ n5_ n6_ n7_; clear hb hbox hg; have hcz10_0 : w9.cell? ⟨gb662, 0, none⟩ = some (.slice Ao6 l0_0.length co6) := (blk_cell BK662.out 0).trans rfl; have hcz10_1 : w9.cell? ⟨gb662, 1, none⟩ = some (.int .i64 a0_1) := (blk_cell BK662.out 1).trans rfl; have hcz10_2 : w9.cell? ⟨gb662, 2, none⟩ = some (.bool a0_2) := (blk_cell BK662.out 2).trans rfl; have hcz10_3 : w9.cell? ⟨gb662, 3, none⟩ = some (.slice Ao7 l0_3.length co7) := (blk_cell BK662.out 3).trans rfl; have hcz10_4 : w9.cell? ⟨gb662, 4, none⟩ = some (.slice Ao8 l0_4.length co8) := (blk_cell BK662.out 4).trans rfl; have hfz10_0 := blk_frozen BK662.out 0; have hfz10_1 := blk_frozen BK662.out 1; have hfz10_2 := blk_frozen BK662.out 2; have hfz10_3 := blk_frozen BK662.out 3; have hfz10_4 := blk_frozen BK662.out 4) | ((with_reducible refine gate_callee (f := 38) rfl ?_); refine goesL_ (some 8) rfl rfl Tryd.func38 (by kernel_rfl) rfl #[.slice Ao6 l0_0.length co6, .int .i64 a1] rfl (by (try simp only [List.map_toArray, List.map_cons, List.map_nil]); first | done | rfl | (simp only [List.length_drop, List.length_take]; rfl)) ?_; (with_reducible refine (laws_markToneS.calls k (fun k_ => some k_ = (.slice Ao6 l0_0.length co6 : Value).ownBlock) (.slice Ao6 l0_0.length co6) l0_0 a1 t663 t664 w0 _ ?side1 ?side2 A3.out).mono ?_); (case side1 => repeat (first | (with_reducible first | exact HB.out | apply below_alloc | apply pw_below_drewN | apply below_drew1 | refine below_set ?_ GE662.out) | exact HB.out)); (case side2 => exact Kd.R_tight rfl HO0_0.out); rintro e w11 ⟨rfl, hy0, hb, hkp⟩; refine ⟨_, rfl, ?_⟩; have n0_ := Aside0.mk (Kd.R_reok rfl hy0 (fun k_ e_ => HO0_0.out.1 k_ e_)); have n1_ := Aside0.mk (Kd.R_mono (ok' := fun k_ => ((P0_0_ k_ ∨ P0_3_ k_ ∨ P0_4_ k_) ∨ w.heap.size ≤ k_) ∧ some k_ ≠ (.slice Ao6 l0_0.length co6 : Value).ownBlock ∧ some k_ ≠ (.slice Ao8 l0_4.length co8 : Value).ownBlock) (Kd.R_keptB (HO0_3.out) hkp (fun k_ hk_ hs_ => (hk_.2.1) hs_)) (fun k_ hk_ => ⟨hk_.1.1, hk_.1.2.1, hk_.1.2.2⟩)); have n2_ := Aside0.mk (Kd.R_mono (ok' := fun k_ => ((P0_0_ k_ ∨ P0_3_ k_ ∨ P0_4_ k_) ∨ w.heap.size ≤ k_) ∧ some k_ ≠ (.slice Ao6 l0_0.length co6 : Value).ownBlock ∧ some k_ ≠ (.slice Ao7 l0_3.length co7 : Value).ownBlock) (Kd.R_keptB (HO0_4.out) hkp (fun k_ hk_ hs_ => (hk_.2.1) hs_)) (fun k_ hk_ => ⟨hk_.1.1, hk_.1.2.1, hk_.1.2.2⟩)); have n3_ := Aside0.mk (blk_kept (by (with_reducible repeat (first | refine blk_drewN ?_ _ | refine blk_drew ?_ | refine blk_alloc ?_ _)); exact BK662.out) hkp (fun hs_ => (fun e_ => (Kd.R_ne HO0_0.out BK662.out (by decide)) e_) hs_)); have n4_ := Aside0.mk (Kept.then_ (S := (fun k_ => P0_0_ k_ ∨ P0_3_ k_ ∨ P0_4_ k_)) (by repeat (first | (with_reducible first | exact HK.out | apply Kept.alloc | apply Kept.drewN | apply Kept.drew | refine Kept.setCell ?_ (.inr GW662.out) _) | exact HK.out)) hkp (fun k_ hs_ => (fun e_ => (HO0_0.out.1 k_ e_.symm).1) hs_)); have n5_ := Aside0.mk (hb); clear HO0_0; clear HO0_3; clear HO0_4; clear BK662; clear HK; clear HB; have HO0_0 := n0_; have HO0_3 := n1_; have HO0_4 := n2_; have BK662 := n3_; have HK := n4_; have HB := n5_; clear n0_ n1_ n2_ n3_ n4_ n5_; (try clear hb); (try clear hkp); (try clear hy0); have hcz12_0 : w11.cell? ⟨gb662, 0, none⟩ = some (.slice Ao6 l0_0.length co6) := (blk_cell BK662.out 0).trans rfl; have hcz12_1 : w11.cell? ⟨gb662, 1, none⟩ = some (.int .i64 a0_1) := (blk_cell BK662.out 1).trans rfl; have hcz12_2 : w11.cell? ⟨gb662, 2, none⟩ = some (.bool a0_2) := (blk_cell BK662.out 2).trans rfl; have hcz12_3 : w11.cell? ⟨gb662, 3, none⟩ = some (.slice Ao7 l0_3.length co7) := (blk_cell BK662.out 3).trans rfl; have hcz12_4 : w11.cell? ⟨gb662, 4, none⟩ = some (.slice Ao8 l0_4.length co8) := (blk_cell BK662.out 4).trans rfl; have hfz12_0 := blk_frozen BK662.out 0; have hfz12_1 := blk_frozen BK662.out 1; have hfz12_2 := blk_frozen BK662.out 2; have hfz12_3 := blk_frozen BK662.out 3; have hfz12_4 := blk_frozen BK662.out 4) | ((with_reducible refine gate_callee (f := 38) rfl ?_); refine goesL_ (some 12) rfl rfl Tryd.func38 (by kernel_rfl) rfl #[.slice Ao7 l0_3.length co7, .int .i64 t663] rfl (by (try simp only [List.map_toArray, List.map_cons, List.map_nil]); first | done | rfl | (simp only [List.length_drop, List.length_take]; rfl)) ?_; (with_reducible refine (laws_markToneS.calls k (fun k_ => some k_ = (.slice Ao7 l0_3.length co7 : Value).ownBlock) (.slice Ao7 l0_3.length co7) l0_3 t663 t665 t666 w0 _ ?side1 ?side2 A4.out).mono ?_); (case side1 => repeat (first | (with_reducible first | exact HB.out | apply below_alloc | apply pw_below_drewN | apply below_drew1 | refine below_set ?_ GE662.out) | exact HB.out)); (case side2 => exact Kd.R_tight rfl HO0_3.out); rintro e w13 ⟨rfl, hy0, hb, hkp⟩; refine ⟨_, rfl, ?_⟩; have n0_ := Aside0.mk (Kd.R_mono (ok' := fun k_ => ((P0_0_ k_ ∨ P0_3_ k_ ∨ P0_4_ k_) ∨ w.heap.size ≤ k_) ∧ some k_ ≠ (.slice Ao7 l0_3.length co7 : Value).ownBlock ∧ some k_ ≠ (.slice Ao8 l0_4.length co8 : Value).ownBlock) (Kd.R_keptB (HO0_0.out) hkp (fun k_ hk_ hs_ => (hk_.2.1) hs_)) (fun k_ hk_ => ⟨hk_.1.1, hk_.1.2.1, hk_.1.2.2⟩)); have n1_ := Aside0.mk (Kd.R_reok rfl hy0 (fun k_ e_ => HO0_3.out.1 k_ e_)); have n2_ := Aside0.mk (Kd.R_mono (ok' := fun k_ => ((P0_0_ k_ ∨ P0_3_ k_ ∨ P0_4_ k_) ∨ w.heap.size ≤ k_) ∧ some k_ ≠ (.slice Ao6 l0_0.length co6 : Value).ownBlock ∧ some k_ ≠ (.slice Ao7 l0_3.length co7 : Value).ownBlock) (Kd.R_keptB (HO0_4.out) hkp (fun k_ hk_ hs_ => (hk_.2.2) hs_)) (fun k_ hk_ => ⟨hk_.1.1, hk_.1.2.1, hk_.1.2.2⟩)); have n3_ := Aside0.mk (blk_kept (by (with_reducible repeat (first | refine blk_drewN ?_ _ | refine blk_drew ?_ | refine blk_alloc ?_ _)); exact BK662.out) hkp (fun hs_ => (fun e_ => (Kd.R_ne HO0_3.out BK662.out (by decide)) e_) hs_)); have n4_ := Aside0.mk (Kept.then_ (S := (fun k_ => P0_0_ k_ ∨ P0_3_ k_ ∨ P0_4_ k_)) (by repeat (first | (with_reducible first | exact HK.out | apply Kept.alloc | apply Kept.drewN | apply Kept.drew | refine Kept.setCell ?_ (.inr GW662.out) _) | exact HK.out)) hkp (fun k_ hs_ => (fun e_ => (HO0_3.out.1 k_ e_.symm).1) hs_)); have n5_ := Aside0.mk (hb); clear HO0_0; clear HO0_3; clear HO0_4; clear BK662; clear HK; clear HB; have HO0_0 := n0_; have HO0_3 := n1_; have HO0_4 := n2_; have BK662 := n3_; have HK := n4_; have HB := n5_; clear n0_ n1_ n2_ n3_ n4_ n5_; (try clear hb); (try clear hkp); (try clear hy0); have hcz14_0 : w13.cell? ⟨gb662, 0, none⟩ = some (.slice Ao6 l0_0.length co6) := (blk_cell BK662.out 0).trans rfl; have hcz14_1 : w13.cell? ⟨gb662, 1, none⟩ = some (.int .i64 a0_1) := (blk_cell BK662.out 1).trans rfl; have hcz14_2 : w13.cell? ⟨gb662, 2, none⟩ = some (.bool a0_2) := (blk_cell BK662.out 2).trans rfl; have hcz14_3 : w13.cell? ⟨gb662, 3, none⟩ = some (.slice Ao7 l0_3.length co7) := (blk_cell BK662.out 3).trans rfl; have hcz14_4 : w13.cell? ⟨gb662, 4, none⟩ = some (.slice Ao8 l0_4.length co8) := (blk_cell BK662.out 4).trans rfl; have hfz14_0 := blk_frozen BK662.out 0; have hfz14_1 := blk_frozen BK662.out 1; have hfz14_2 := blk_frozen BK662.out 2; have hfz14_3 := blk_frozen BK662.out 3; have hfz14_4 := blk_frozen BK662.out 4) | ((with_reducible refine gate_callee (f := 38) rfl ?_); refine goesL_ (some 16) rfl rfl Tryd.func38 (by kernel_rfl) rfl #[.slice Ao8 l0_4.length co8, .int .i64 t665] rfl (by (try simp only [List.map_toArray, List.map_cons, List.map_nil]); first | done | rfl | (simp only [List.length_drop, List.length_take]; rfl)) ?_; (with_reducible refine (laws_markToneS.calls k (fun k_ => some k_ = (.slice Ao8 l0_4.length co8 : Value).ownBlock) (.slice Ao8 l0_4.length co8) l0_4 t665 t667 t668 w0 _ ?side1 ?side2 A5.out).mono ?_); (case side1 => repeat (first | (with_reducible first | exact HB.out | apply below_alloc | apply pw_below_drewN | apply below_drew1 | refine below_set ?_ GE662.out) | exact HB.out)); (case side2 => exact Kd.R_tight rfl HO0_4.out); rintro e w15 ⟨rfl, hy0, hb, hkp⟩; refine ⟨_, rfl, ?_⟩; have n0_ := Aside0.mk (Kd.R_mono (ok' := fun k_ => ((P0_0_ k_ ∨ P0_3_ k_ ∨ P0_4_ k_) ∨ w.heap.size ≤ k_) ∧ some k_ ≠ (.slice Ao7 l0_3.length co7 : Value).ownBlock ∧ some k_ ≠ (.slice Ao8 l0_4.length co8 : Value).ownBlock) (Kd.R_keptB (HO0_0.out) hkp (fun k_ hk_ hs_ => (hk_.2.2) hs_)) (fun k_ hk_ => ⟨hk_.1.1, hk_.1.2.1, hk_.1.2.2⟩)); have n1_ := Aside0.mk (Kd.R_mono (ok' := fun k_ => ((P0_0_ k_ ∨ P0_3_ k_ ∨ P0_4_ k_) ∨ w.heap.size ≤ k_) ∧ some k_ ≠ (.slice Ao6 l0_0.length co6 : Value).ownBlock ∧ some k_ ≠ (.slice Ao8 l0_4.length co8 : Value).ownBlock) (Kd.R_keptB (HO0_3.out) hkp (fun k_ hk_ hs_ => (hk_.2.2) hs_)) (fun k_ hk_ => ⟨hk_.1.1, hk_.1.2.1, hk_.1.2.2⟩)); have n2_ := Aside0.mk (Kd.R_reok rfl hy0 (fun k_ e_ => HO0_4.out.1 k_ e_)); have n3_ := Aside0.mk (blk_kept (by (with_reducible repeat (first | refine blk_drewN ?_ _ | refine blk_drew ?_ | refine blk_alloc ?_ _)); exact BK662.out) hkp (fun hs_ => (fun e_ => (Kd.R_ne HO0_4.out BK662.out (by decide)) e_) hs_)); have n4_ := Aside0.mk (Kept.then_ (S := (fun k_ => P0_0_ k_ ∨ P0_3_ k_ ∨ P0_4_ k_)) (by repeat (first | (with_reducible first | exact HK.out | apply Kept.alloc | apply Kept.drewN | apply Kept.drew | refine Kept.setCell ?_ (.inr GW662.out) _) | exact HK.out)) hkp (fun k_ hs_ => (fun e_ => (HO0_4.out.1 k_ e_.symm).1) hs_)); have n5_ := Aside0.mk (hb); clear HO0_0; clear HO0_3; clear HO0_4; clear BK662; clear HK; clear HB; have HO0_0 := n0_; have HO0_3 := n1_; have HO0_4 := n2_; have BK662 := n3_; have HK := n4_; have HB := n5_; clear n0_ n1_ n2_ n3_ n4_ n5_; (try clear hb); (try clear hkp); (try clear hy0)))
 go_ret
 exact ⟨by first | rfl | (simp [errW_none, errW_some] <;> rfl) | (simp [*, errW_none, errW_some] <;> rfl), by (with_reducible repeat (first | apply Kd.R_alloc | apply Kd.R_drewN | apply Kd.R_drew)); exact Kd.R_mono HO0_0.out (fun _ hk => hk.1), by (with_reducible repeat (first | apply Kd.R_alloc | apply Kd.R_drewN | apply Kd.R_drew)); exact Kd.R_mono HO0_3.out (fun _ hk => hk.1), by (with_reducible repeat (first | apply Kd.R_alloc | apply Kd.R_drewN | apply Kd.R_drew)); exact Kd.R_mono HO0_4.out (fun _ hk => hk.1), by repeat (first | (with_reducible first | exact HB.out | apply below_alloc | apply pw_below_drewN | apply below_drew1 | refine below_set ?_ GE662.out) | exact HB.out), by repeat (first | (with_reducible first | exact HK.out | apply Kept.alloc | apply Kept.drewN | apply Kept.drew | refine Kept.setCell ?_ (.inr GW662.out) _) | exact HK.out)⟩
end Go.Proofs.YtdgmkfbmeaalpaaDoor.E
end
section
namespace Go.Proofs.YtdgmkfbmeaalpaaDoor.E
open Go.RowKit Go.Proofs.YtdgmkfbmeaalpaaDoorW.PrintWords Go.Proofs.YtdgmkfbmeaalpaaDoorW.PrintLast Go.Proofs.YtdgmkfbmeaalpaaDoorW.PrintMore
attribute [local go_sem] max2_int min2_int max_two min_two max_three min_three max_four min_four
set_option linter.unusedVariables false
set_option linter.unusedSimpArgs false
attribute [local go_sem] str_leq_ str_gtr_ str_geq_
def laws_heldToneS.l0 : Nat → List (S25) → Int → Int → Option (Int)
 | 0, _, _, _ => none
 | k + 1, x0, x1, x5 => if x5 < (x0.length : Int) then (if 0 ≤ x5 then (if ((rd_T25 x0 x5).f0) = x1 then (if (((rd_T25 x0 x5).f1) != ((Int.tmod (wrap64 (x1 + 1)) 3) == 0)) = true then (some (-1)) else (laws_heldToneS.l0 k x0 (wrap64 ((wrap64 (x1 + 1)) + 1)) (wrap64 (x5 + 1)))) else (some (-1))) else (none)) else (some x1)
def laws_heldToneS.f (k : Nat) (l0 : List (S25)) (a1 : Int) : Option (Int) := laws_heldToneS.l0 k l0 a1 0
set_option maxHeartbeats 8000000 in
set_option maxRecDepth 100000 in
theorem laws_heldToneS.calls (k : Nat) (A0 : Option Addr) (c0 : Nat) (l0 : List (S25)) (a1 : Int) (r : Int) (w : World) (hr0 : Kd.C k25 w A0 l0.length l0) (hc0 : l0.length ≤ c0) (h : laws_heldToneS.f k l0 a1 = some r) :
  Calls Tryd.prog 39 #[.slice A0 l0.length c0, .int .i64 a1] w fun e w' => e = .returned (.int .i64 r) ∧ Drawn0 w w' := by
 have HR0 := Aside0.mk hr0
 have HC0 := Aside0.mk hc0
 clear hr0 hc0
 have H : (laws_heldToneS.l0 k l0 a1 0) = some r := h
 clear h
 have H' := Aside0.mk H
 clear H
 go_enter Tryd.func39, Tryd.ntmps39
 go_wp2
 go_loopg [1, 5] k (fun kq v1 v5 w' => ∃ (x1_1 : Int) (x5_1 : Int), v1 = .int .i64 x1_1 ∧ v5 = .int .i64 x5_1 ∧ Aside0 (laws_heldToneS.l0 kq l0 x1_1 x5_1 = some r) ∧ Aside0 (kq ≤ k) ∧ Drawn0 w w')
 case atStart => exact ⟨(a1), (0), (by first | rfl | (simp; done) | (simp [*]; done)), (by first | rfl | (simp; done) | (simp [*]; done)), H', ⟨Nat.le_refl _⟩, by repeat (first | exact Drawn0.refl _ | apply Drawn0.step)⟩
 case round =>
  clear H'
  try clear p2
  obtain ⟨x1_1, x5_1, rfl, rfl, HA, HK1, ⟨m1, rfl⟩⟩ := hrel
  cases gk with
  | zero => exact absurd HA.out (by simp [laws_heldToneS.l0])
  | succ k1 =>
   have H := HA.out
   clear HA
   simp only [laws_heldToneS.l0] at H
   by_cases c3 : x5_1 < (l0.length : Int)
   rotate_left
   ·rw [if_neg c3] at H
    have c3b0 : decide (x5_1 < (l0.length : Int)) = false := decide_eq_false c3
    clear c3
    obtain rfl := Option.some.inj H
    go_wp2
    go_ret
    exact ⟨by first | rfl | (simp; done) | (simp [*]; done), by repeat (first | exact Drawn0.refl _ | apply Drawn0.step)⟩
   rw [if_pos c3] at H
   have c3b0 : decide (x5_1 < (l0.length : Int)) = true := decide_eq_true c3
   clear c3
   by_cases c4 : 0 ≤ x5_1
   rotate_left
   ·rw [if_neg c4] at H
    exact absurd H (by simp)
   rw [if_pos c4] at H
   have c4b0 : decide (0 ≤ x5_1) = true := decide_eq_true c4
   clear c4
   by_cases c5 : ((rd_T25 l0 x5_1).f0) = x1_1
   rotate_left
   ·rw [if_neg c5] at H
    have c5b0 : (((rd_T25 l0 x5_1).f0) == x1_1) = false := beq_eq_false_iff_ne.mpr c5
    have c5b1 : (((rd_T25 l0 x5_1).f0) != x1_1) = true := bne_iff_ne.mpr c5
    obtain rfl := Option.some.inj H
    have p669 : 0 ≤ (x5_1 : Int) := of_decide_eq_true (by first | (with_reducible assumption) | assumption)
    have q669 : x5_1 < (l0.length : Int) := of_decide_eq_true (by first | (with_reducible assumption) | assumption)
    obtain ⟨ad669, e669, hx669_0, hx669_1⟩ := at_T25 HR0.out x5_1 p669 q669
    cases e669
    replace p669 := eq_true p669
    replace q669 := eq_true q669
    go_wp2
    go_ret
    exact ⟨by first | rfl | (simp; done) | (simp [*]; done), by repeat (first | exact Drawn0.refl _ | apply Drawn0.step)⟩
   rw [if_pos c5] at H
   have c5b0 : (((rd_T25 l0 x5_1).f0) == x1_1) = true := beq_iff_eq.mpr c5
   have c5b1 : (((rd_T25 l0 x5_1).f0) != x1_1) = false := bne_eq_false_iff_eq.mpr c5
   clear c5
   by_cases c6 : (((rd_T25 l0 x5_1).f1) != ((Int.tmod (wrap64 (x1_1 + 1)) 3) == 0)) = true
   ·rw [if_pos c6] at H
    have c6b0 : (((rd_T25 l0 x5_1).f1) != ((Int.tmod (wrap64 (x1_1 + 1)) 3) == 0)) = true := c6
    (try (have c6b1 : decide (((rd_T25 l0 x5_1).f1) = ((Int.tmod (wrap64 (x1_1 + 1)) 3) == 0)) = false := by simpa using c6))
    (try (have c6b2 : (((rd_T25 l0 x5_1).f1) == ((Int.tmod (wrap64 (x1_1 + 1)) 3) == 0)) = false := by simpa using c6))
    (try (have c6b3 : ¬ (((rd_T25 l0 x5_1).f1) = ((Int.tmod (wrap64 (x1_1 + 1)) 3) == 0)) := by simpa using c6))
    clear c6
    obtain rfl := Option.some.inj H
    have p669 : 0 ≤ (x5_1 : Int) := of_decide_eq_true (by first | (with_reducible assumption) | assumption)
    have q669 : x5_1 < (l0.length : Int) := of_decide_eq_true (by first | (with_reducible assumption) | assumption)
    obtain ⟨ad669, e669, hx669_0, hx669_1⟩ := at_T25 HR0.out x5_1 p669 q669
    cases e669
    replace p669 := eq_true p669
    replace q669 := eq_true q669
    have p670 : 0 ≤ (x5_1 : Int) := of_decide_eq_true (by first | (with_reducible assumption) | assumption)
    have q670 : x5_1 < (l0.length : Int) := of_decide_eq_true (by first | (with_reducible assumption) | assumption)
    obtain ⟨ad670, e670, hx670_0, hx670_1⟩ := at_T25 HR0.out x5_1 p670 q670
    obtain rfl : ad669 = ad670 := (by injection e670)
    replace p670 := eq_true p670
    replace q670 := eq_true q670
    go_wp2
    go_ret
    exact ⟨by first | rfl | (simp; done) | (simp [*]; done), by repeat (first | exact Drawn0.refl _ | apply Drawn0.step)⟩
   rw [if_neg c6] at H
   have c6b0 : (((rd_T25 l0 x5_1).f1) != ((Int.tmod (wrap64 (x1_1 + 1)) 3) == 0)) = false := by simpa using c6
   (try (have c6b1 : decide (((rd_T25 l0 x5_1).f1) = ((Int.tmod (wrap64 (x1_1 + 1)) 3) == 0)) = true := by simpa using c6))
   (try (have c6b2 : (((rd_T25 l0 x5_1).f1) == ((Int.tmod (wrap64 (x1_1 + 1)) 3) == 0)) = true := by simpa using c6))
   clear c6
   have H' := Aside0.mk H
   clear H
   have p669 : 0 ≤ (x5_1 : Int) := of_decide_eq_true (by first | (with_reducible assumption) | assumption)
   have q669 : x5_1 < (l0.length : Int) := of_decide_eq_true (by first | (with_reducible assumption) | assumption)
   obtain ⟨ad669, e669, hx669_0, hx669_1⟩ := at_T25 HR0.out x5_1 p669 q669
   cases e669
   replace p669 := eq_true p669
   replace q669 := eq_true q669
   have p670 : 0 ≤ (x5_1 : Int) := of_decide_eq_true (by first | (with_reducible assumption) | assumption)
   have q670 : x5_1 < (l0.length : Int) := of_decide_eq_true (by first | (with_reducible assumption) | assumption)
   obtain ⟨ad670, e670, hx670_0, hx670_1⟩ := at_T25 HR0.out x5_1 p670 q670
   obtain rfl : ad669 = ad670 := (by injection e670)
   replace p670 := eq_true p670
   replace q670 := eq_true q670
   go_wp2
   go_roundg k1
   case measure => have := HK1.out; omega
   case rel => exact ⟨(wrap64 ((wrap64 (x1_1 + 1)) + 1)), (wrap64 (x5_1 + 1)), (by first | rfl | (simp; done) | (simp [*]; done)), (by first | rfl | (simp; done) | (simp [*]; done)), H', ⟨by have := HK1.out; omega⟩, by repeat (first | exact Drawn0.refl _ | apply Drawn0.step)⟩
end Go.Proofs.YtdgmkfbmeaalpaaDoor.E
end
section
namespace Go.Proofs.YtdgmkfbmeaalpaaDoor.E
open Go.RowKit Go.Proofs.YtdgmkfbmeaalpaaDoorW.PrintWords Go.Proofs.YtdgmkfbmeaalpaaDoorW.PrintLast Go.Proofs.YtdgmkfbmeaalpaaDoorW.PrintMore
attribute [local go_sem] max2_int min2_int max_two min_two max_three min_three max_four min_four
set_option linter.unusedVariables false
set_option linter.unusedSimpArgs false
attribute [local go_sem] str_leq_ str_gtr_ str_geq_
mutual
def laws_FnExactPsalmSing.j0 : Nat → ByteArray → List (S25) → Bool → List (S25) → Bool → Bool → List (S39) → Int → Bool → List (S39) → List (S39) → List (S25) → Int → Bool → List (S25) → List (S25) → Option (Bool)
 | 0, _, _, _, _, _, _, _, _, _, _, _, _, _, _, _, _ => none
 | k + 1, x1, x6, x7, x9, x10, x47, x672000, x672001, x672002, x672003, x672004, x700000, x700001, x700002, x700003, x700004 => if x47 = true then (none) else ((laws_toPsalm.f k x672000 x672001 x672002 x672003 x672004).bind fun bt705 => ((laws_eqPsalm.f k x700000 x700001 x700002 x700003 x700004 bt705.1 bt705.2.1 bt705.2.2.1 bt705.2.2.2.1 bt705.2.2.2.2).bind fun t716 => (if t716 = true then ((laws_markPsalm.f k x700000 x700001 x700002 x700003 x700004 1).bind fun bt717 => (if bt717.1 < 0 then (laws_FnExactPsalmSing.j1 k x1 x6 x7 x9 true x672000 x672001 x672002 x672003 x672004) else ((laws_eqToneS.f k x9 x6).bind fun t721 => (if t721 = true then (laws_FnExactPsalmSing.j1 k x1 x6 x7 x9 (x10 != x7) x672000 x672001 x672002 x672003 x672004) else (laws_FnExactPsalmSing.j1 k x1 x6 x7 x9 true x672000 x672001 x672002 x672003 x672004))))) else (none))))
def laws_FnExactPsalmSing.j1 : Nat → ByteArray → List (S25) → Bool → List (S25) → Bool → List (S39) → Int → Bool → List (S39) → List (S39) → Option (Bool)
 | 0, _, _, _, _, _, _, _, _, _, _ => none
 | k + 1, x1, x6, x7, x9, x68, x672000, x672001, x672002, x672003, x672004 => if x68 = true then (none) else ((laws_markToneS.f k x9 1).bind fun bt722 => ((laws_heldToneS.f k bt722.2 1).bind fun t724 => (if t724 < 0 then (none) else (if t724 = bt722.1 then ((laws_toPsalm.f k x672000 x672001 x672002 x672003 x672004).bind fun bt725 => ((impl_PsalmSing.f k bt725.1 bt725.2.1 bt725.2.2.1 bt725.2.2.2.1 bt725.2.2.2.2 x1).bind fun bt736 => ((laws_eqToneS.f k bt736.1 x6).bind fun t740 => (if t740 = true then (laws_FnExactPsalmSing.j2 k bt722.2 bt722.1 (bt736.2 != x7)) else (laws_FnExactPsalmSing.j2 k bt722.2 bt722.1 true))))) else (none)))))
def laws_FnExactPsalmSing.j2 : Nat → List (S25) → Int → Bool → Option (Bool)
 | 0, _, _, _ => none
 | k + 1, x9, x12, x95 => if x95 = true then (none) else ((laws_heldToneS.f k x9 1).bind fun t741 => (if t741 < 0 then (none) else (if t741 = x12 then (some true) else (none))))
end
def laws_FnExactPsalmSing.f (k : Nat) (l0_0 : List (S39)) (a0_1 : Int) (a0_2 : Bool) (l0_3 : List (S39)) (l0_4 : List (S39)) (a1 : ByteArray) : Option (Bool) := if (a1.size : Int) > 1048576 then (some true) else ((laws_szPsalm.f l0_0 a0_1 a0_2 l0_3 l0_4 1048576).bind fun t672 => (if t672 < 0 then (some true) else ((laws_toPsalm.f k l0_0 a0_1 a0_2 l0_3 l0_4).bind fun bt673 => ((spec_PsalmSing.f k bt673.1 bt673.2.1 bt673.2.2.1 bt673.2.2.2.1 bt673.2.2.2.2 a1).bind fun bt684 => ((laws_toPsalm.f k l0_0 a0_1 a0_2 l0_3 l0_4).bind fun bt688 => ((impl_PsalmSing.f k bt688.1 bt688.2.1 bt688.2.2.1 bt688.2.2.2.1 bt688.2.2.2.2 a1).bind fun bt700 => ((laws_eqToneS.f k bt700.1 bt684.1).bind fun t704 => (if t704 = true then (laws_FnExactPsalmSing.j0 k a1 bt684.1 bt684.2 bt700.1 bt700.2 (bt700.2 != bt684.2) l0_0 a0_1 a0_2 l0_3 l0_4 bt688.1 bt688.2.1 bt688.2.2.1 bt688.2.2.2.1 bt688.2.2.2.2) else (laws_FnExactPsalmSing.j0 k a1 bt684.1 bt684.2 bt700.1 bt700.2 true l0_0 a0_1 a0_2 l0_3 l0_4 bt688.1 bt688.2.1 bt688.2.2.1 bt688.2.2.2.1 bt688.2.2.2.2)))))))))
set_option maxHeartbeats 8000000 in
set_option maxRecDepth 100000 in
theorem laws_FnExactPsalmSing.calls (k : Nat) (A0_0 : Option Addr) (c0_0 : Nat) (l0_0 : List (S39)) (a0_1 : Int) (a0_2 : Bool) (A0_3 : Option Addr) (c0_3 : Nat) (l0_3 : List (S39)) (A0_4 : Option Addr) (c0_4 : Nat) (l0_4 : List (S39)) (a1 : ByteArray) (r : Bool) (w : World) (hr0_0 : Kd.C k39 w A0_0 l0_0.length l0_0) (hc0_0 : l0_0.length ≤ c0_0) (hr0_3 : Kd.C k39 w A0_3 l0_3.length l0_3) (hc0_3 : l0_3.length ≤ c0_3) (hr0_4 : Kd.C k39 w A0_4 l0_4.length l0_4) (hc0_4 : l0_4.length ≤ c0_4) (hG : GOk [0] w) (h : laws_FnExactPsalmSing.f k l0_0 a0_1 a0_2 l0_3 l0_4 a1 = some r) :
  Calls Tryd.prog 9 #[.agg #[.slice A0_0 l0_0.length c0_0, .int .i64 a0_1, .bool a0_2, .slice A0_3 l0_3.length c0_3, .slice A0_4 l0_4.length c0_4], .string a1] w fun e w' => e = .returned (.bool r) ∧ Below w.heap.size w w' := by
 have hu41 := Tryd.underlying41
 have hu27 := Tryd.underlying27
 have HR0_0 := Aside0.mk hr0_0
 have HC0_0 := Aside0.mk hc0_0
 clear hr0_0 hc0_0
 have HR0_3 := Aside0.mk hr0_3
 have HC0_3 := Aside0.mk hc0_3
 clear hr0_3 hc0_3
 have HR0_4 := Aside0.mk hr0_4
 have HC0_4 := Aside0.mk hc0_4
 clear hr0_4 hc0_4
 have HB := Aside0.mk (Below.refl w.heap.size w)
 have HG := Aside0.mk hG
 clear hG
 have H : (if (a1.size : Int) > 1048576 then (some true) else ((laws_szPsalm.f l0_0 a0_1 a0_2 l0_3 l0_4 1048576).bind fun t672 => (if t672 < 0 then (some true) else ((laws_toPsalm.f k l0_0 a0_1 a0_2 l0_3 l0_4).bind fun bt673 => ((spec_PsalmSing.f k bt673.1 bt673.2.1 bt673.2.2.1 bt673.2.2.2.1 bt673.2.2.2.2 a1).bind fun bt684 => ((laws_toPsalm.f k l0_0 a0_1 a0_2 l0_3 l0_4).bind fun bt688 => ((impl_PsalmSing.f k bt688.1 bt688.2.1 bt688.2.2.1 bt688.2.2.2.1 bt688.2.2.2.2 a1).bind fun bt700 => ((laws_eqToneS.f k bt700.1 bt684.1).bind fun t704 => (if t704 = true then (laws_FnExactPsalmSing.j0 k a1 bt684.1 bt684.2 bt700.1 bt700.2 (bt700.2 != bt684.2) l0_0 a0_1 a0_2 l0_3 l0_4 bt688.1 bt688.2.1 bt688.2.2.1 bt688.2.2.2.1 bt688.2.2.2.2) else (laws_FnExactPsalmSing.j0 k a1 bt684.1 bt684.2 bt700.1 bt700.2 true l0_0 a0_1 a0_2 l0_3 l0_4 bt688.1 bt688.2.1 bt688.2.2.1 bt688.2.2.2.1 bt688.2.2.2.2)))))))))) = some r := h
 clear h
 by_cases c3 : (a1.size : Int) > 1048576
 ·rw [if_pos c3] at H
  have c3b0 : decide (1048576 < (a1.size : Int)) = true := decide_eq_true c3
  have c3b1 : decide (1048576 < a1.size) = true := decide_eq_true (by omega)
  clear c3
  obtain rfl := Option.some.inj H
  go_enter Tryd.func9, Tryd.ntmps9
  go_wp2_with (first | ((with_reducible refine gate_dst (N := 2) rfl ?_); refine box_event ?hg (N := 2) ?hd (cs := #[.slice A0_0 l0_0.length c0_0, .int .i64 a0_1, .bool a0_2, .slice A0_3 l0_3.length c0_3, .slice A0_4 l0_4.length c0_4]) (t := 41) ?hr ?_; (case hd => rfl); (case hg => rfl); (case hr => first | (go_simp; done) | (go_simp; rfl)); intro gb671 hg w4 hbox hb; have n0_ := Aside0.mk (below_step (by repeat (first | (with_reducible first | exact HB.out | apply below_alloc | apply pw_below_drewN | apply below_drew1) | exact HB.out)) hb); have n1_ := Aside0.mk (hbox); have n2_ := Aside0.mk ((by rw [hg]; exact (below_size (by repeat (first | (with_reducible first | exact HB.out | apply below_alloc | apply pw_below_drewN | apply below_drew1) | exact HB.out))) : w.heap.size ≤ gb671)); have n3_ := Aside0.mk ((by rw [hg]; exact (below_size (by repeat (first | (with_reducible first | exact HB.out | apply below_alloc | apply pw_below_drewN | apply below_drew1) | exact HB.out))) : w.heap.size ≤ gb671)); clear HB; have HB := n0_; have BK671 := n1_; have GW671 := n2_; have GE671 := n3_; clear n0_ n1_ n2_ n3_; clear hb hbox hg))
  go_ret
  exact ⟨by first | rfl | (simp [errW_none, errW_some] <;> rfl) | (simp [*, errW_none, errW_some] <;> rfl), by repeat (first | (with_reducible first | exact HB.out | apply below_alloc | apply pw_below_drewN | apply below_drew1 | refine below_set ?_ GE671.out) | exact HB.out)⟩
 rw [if_neg c3] at H
 have c3b0 : decide (1048576 < (a1.size : Int)) = false := decide_eq_false c3
 have c3b1 : decide (1048576 < a1.size) = false := decide_eq_false (by omega)
 clear c3
 replace H := Option.bind_eq_some_iff.mp H
 obtain ⟨t672, A50, H⟩ := H
 replace H : (if t672 < 0 then (some true) else ((laws_toPsalm.f k l0_0 a0_1 a0_2 l0_3 l0_4).bind fun bt673 => ((spec_PsalmSing.f k bt673.1 bt673.2.1 bt673.2.2.1 bt673.2.2.2.1 bt673.2.2.2.2 a1).bind fun bt684 => ((laws_toPsalm.f k l0_0 a0_1 a0_2 l0_3 l0_4).bind fun bt688 => ((impl_PsalmSing.f k bt688.1 bt688.2.1 bt688.2.2.1 bt688.2.2.2.1 bt688.2.2.2.2 a1).bind fun bt700 => ((laws_eqToneS.f k bt700.1 bt684.1).bind fun t704 => (if t704 = true then (laws_FnExactPsalmSing.j0 k a1 bt684.1 bt684.2 bt700.1 bt700.2 (bt700.2 != bt684.2) l0_0 a0_1 a0_2 l0_3 l0_4 bt688.1 bt688.2.1 bt688.2.2.1 bt688.2.2.2.1 bt688.2.2.2.2) else (laws_FnExactPsalmSing.j0 k a1 bt684.1 bt684.2 bt700.1 bt700.2 true l0_0 a0_1 a0_2 l0_3 l0_4 bt688.1 bt688.2.1 bt688.2.2.1 bt688.2.2.2.1 bt688.2.2.2.2)))))))) = some r := H
 have A5 := Aside0.mk A50
 clear A50
 by_cases c6 : t672 < 0
 ·rw [if_pos c6] at H
  have c6b0 : decide (t672 < 0) = true := decide_eq_true c6
  clear c6
  obtain rfl := Option.some.inj H
  go_enter Tryd.func9, Tryd.ntmps9
  go_wp2_with (first | ((with_reducible refine gate_dst (N := 2) rfl ?_); refine box_event ?hg (N := 2) ?hd (cs := #[.slice A0_0 l0_0.length c0_0, .int .i64 a0_1, .bool a0_2, .slice A0_3 l0_3.length c0_3, .slice A0_4 l0_4.length c0_4]) (t := 41) ?hr ?_; (case hd => rfl); (case hg => rfl); (case hr => first | (go_simp; done) | (go_simp; rfl)); intro gb671 hg w7 hbox hb; have n0_ := Aside0.mk (below_step (by repeat (first | (with_reducible first | exact HB.out | apply below_alloc | apply pw_below_drewN | apply below_drew1) | exact HB.out)) hb); have n1_ := Aside0.mk (hbox); have n2_ := Aside0.mk ((by rw [hg]; exact (below_size (by repeat (first | (with_reducible first | exact HB.out | apply below_alloc | apply pw_below_drewN | apply below_drew1) | exact HB.out))) : w.heap.size ≤ gb671)); have n3_ := Aside0.mk ((by rw [hg]; exact (below_size (by repeat (first | (with_reducible first | exact HB.out | apply below_alloc | apply pw_below_drewN | apply below_drew1) | exact HB.out))) : w.heap.size ≤ gb671)); clear HB; have HB := n0_; have BK671 := n1_; have GW671 := n2_; have GE671 := n3_; clear n0_ n1_ n2_ n3_; clear hb hbox hg; have hcz8_0 : w7.cell? ⟨gb671, 0, none⟩ = some (.slice A0_0 l0_0.length c0_0) := (blk_cell BK671.out 0).trans rfl; have hcz8_1 : w7.cell? ⟨gb671, 1, none⟩ = some (.int .i64 a0_1) := (blk_cell BK671.out 1).trans rfl; have hcz8_2 : w7.cell? ⟨gb671, 2, none⟩ = some (.bool a0_2) := (blk_cell BK671.out 2).trans rfl; have hcz8_3 : w7.cell? ⟨gb671, 3, none⟩ = some (.slice A0_3 l0_3.length c0_3) := (blk_cell BK671.out 3).trans rfl; have hcz8_4 : w7.cell? ⟨gb671, 4, none⟩ = some (.slice A0_4 l0_4.length c0_4) := (blk_cell BK671.out 4).trans rfl; have hfz8_0 := blk_frozen BK671.out 0; have hfz8_1 := blk_frozen BK671.out 1; have hfz8_2 := blk_frozen BK671.out 2; have hfz8_3 := blk_frozen BK671.out 3; have hfz8_4 := blk_frozen BK671.out 4) | ((with_reducible refine gate_callee (f := 22) rfl ?_); refine goesL_ (some 21) rfl rfl Tryd.func22 (by kernel_rfl) rfl #[.agg #[.slice A0_0 l0_0.length c0_0, .int .i64 a0_1, .bool a0_2, .slice A0_3 l0_3.length c0_3, .slice A0_4 l0_4.length c0_4], .int .i64 1048576] rfl (by (try simp only [List.map_toArray, List.map_cons, List.map_nil]); first | done | rfl | (simp only [List.length_drop, List.length_take]; rfl)) ?_; (with_reducible refine (laws_szPsalm.calls _ _ l0_0 a0_1 a0_2 _ _ l0_3 _ _ l0_4 1048576 t672 _ ?side1 ?side2 ?side3 ?side4 ?side5 ?side6 A5.out).mono ?_); (case side1 => repeat (first | exact (Kd.C_below HR0_0.out HB.out) | (with_reducible refine Kd.C_alloc ?_ _) | (with_reducible refine Kd.C_drewN ?_ _) | (with_reducible refine Kd.C_drew ?_))); (case side2 => exact HC0_0.out); (case side3 => repeat (first | exact (Kd.C_below HR0_3.out HB.out) | (with_reducible refine Kd.C_alloc ?_ _) | (with_reducible refine Kd.C_drewN ?_ _) | (with_reducible refine Kd.C_drew ?_))); (case side4 => exact HC0_3.out); (case side5 => repeat (first | exact (Kd.C_below HR0_4.out HB.out) | (with_reducible refine Kd.C_alloc ?_ _) | (with_reducible refine Kd.C_drewN ?_ _) | (with_reducible refine Kd.C_drew ?_))); (case side6 => exact HC0_4.out); rintro e w9 ⟨rfl, hb⟩; refine ⟨_, rfl, ?_⟩; have n0_ := Aside0.mk (blk_below (g := gb671) (o := .cells #[.slice A0_0 l0_0.length c0_0, .int .i64 a0_1, .bool a0_2, .slice A0_3 l0_3.length c0_3, .slice A0_4 l0_4.length c0_4] 41 (0, 0)) (by (with_reducible repeat (first | refine blk_drewN ?_ _ | refine blk_drew ?_ | refine blk_alloc ?_ _)); exact BK671.out) hb); have n1_ := Aside0.mk (below_step (by repeat (first | (with_reducible first | exact HB.out | apply below_alloc | apply pw_below_drewN | apply below_drew1 | refine below_set ?_ GE671.out) | exact HB.out)) hb); clear BK671; clear HB; have BK671 := n0_; have HB := n1_; clear n0_ n1_; (try clear hb); (try clear hb2); (try clear hk); (try clear hi)))
  go_ret
  exact ⟨by first | rfl | (simp [errW_none, errW_some] <;> rfl) | (simp [*, errW_none, errW_some] <;> rfl), by repeat (first | (with_reducible first | exact HB.out | apply below_alloc | apply pw_below_drewN | apply below_drew1 | refine below_set ?_ GE671.out) | exact HB.out)⟩
 rw [if_neg c6] at H
 have c6b0 : decide (t672 < 0) = false := decide_eq_false c6
 clear c6
 replace H := Option.bind_eq_some_iff.mp H
 obtain ⟨⟨t673, t676, t677, t678, t681⟩, A100, H⟩ := H
 replace H : ((spec_PsalmSing.f k t673 t676 t677 t678 t681 a1).bind fun bt684 => ((laws_toPsalm.f k l0_0 a0_1 a0_2 l0_3 l0_4).bind fun bt688 => ((impl_PsalmSing.f k bt688.1 bt688.2.1 bt688.2.2.1 bt688.2.2.2.1 bt688.2.2.2.2 a1).bind fun bt700 => ((laws_eqToneS.f k bt700.1 bt684.1).bind fun t704 => (if t704 = true then (laws_FnExactPsalmSing.j0 k a1 bt684.1 bt684.2 bt700.1 bt700.2 (bt700.2 != bt684.2) l0_0 a0_1 a0_2 l0_3 l0_4 bt688.1 bt688.2.1 bt688.2.2.1 bt688.2.2.2.1 bt688.2.2.2.2) else (laws_FnExactPsalmSing.j0 k a1 bt684.1 bt684.2 bt700.1 bt700.2 true l0_0 a0_1 a0_2 l0_3 l0_4 bt688.1 bt688.2.1 bt688.2.2.1 bt688.2.2.2.1 bt688.2.2.2.2)))))) = some r := H
 have A10 := Aside0.mk A100
 clear A100
 replace H := Option.bind_eq_some_iff.mp H
 obtain ⟨⟨t684, t687⟩, A110, H⟩ := H
 replace H : ((laws_toPsalm.f k l0_0 a0_1 a0_2 l0_3 l0_4).bind fun bt688 => ((impl_PsalmSing.f k bt688.1 bt688.2.1 bt688.2.2.1 bt688.2.2.2.1 bt688.2.2.2.2 a1).bind fun bt700 => ((laws_eqToneS.f k bt700.1 t684).bind fun t704 => (if t704 = true then (laws_FnExactPsalmSing.j0 k a1 t684 t687 bt700.1 bt700.2 (bt700.2 != t687) l0_0 a0_1 a0_2 l0_3 l0_4 bt688.1 bt688.2.1 bt688.2.2.1 bt688.2.2.2.1 bt688.2.2.2.2) else (laws_FnExactPsalmSing.j0 k a1 t684 t687 bt700.1 bt700.2 true l0_0 a0_1 a0_2 l0_3 l0_4 bt688.1 bt688.2.1 bt688.2.2.1 bt688.2.2.2.1 bt688.2.2.2.2))))) = some r := H
 have A11 := Aside0.mk A110
 clear A110
 replace H := Option.bind_eq_some_iff.mp H
 obtain ⟨⟨t688, t691, t692, t693, t696⟩, A120, H⟩ := H
 replace H : ((impl_PsalmSing.f k t688 t691 t692 t693 t696 a1).bind fun bt700 => ((laws_eqToneS.f k bt700.1 t684).bind fun t704 => (if t704 = true then (laws_FnExactPsalmSing.j0 k a1 t684 t687 bt700.1 bt700.2 (bt700.2 != t687) l0_0 a0_1 a0_2 l0_3 l0_4 t688 t691 t692 t693 t696) else (laws_FnExactPsalmSing.j0 k a1 t684 t687 bt700.1 bt700.2 true l0_0 a0_1 a0_2 l0_3 l0_4 t688 t691 t692 t693 t696)))) = some r := H
 have A12 := Aside0.mk A120
 clear A120
 replace H := Option.bind_eq_some_iff.mp H
 obtain ⟨⟨t700, t703⟩, A130, H⟩ := H
 replace H : ((laws_eqToneS.f k t700 t684).bind fun t704 => (if t704 = true then (laws_FnExactPsalmSing.j0 k a1 t684 t687 t700 t703 (t703 != t687) l0_0 a0_1 a0_2 l0_3 l0_4 t688 t691 t692 t693 t696) else (laws_FnExactPsalmSing.j0 k a1 t684 t687 t700 t703 true l0_0 a0_1 a0_2 l0_3 l0_4 t688 t691 t692 t693 t696))) = some r := H
 have A13 := Aside0.mk A130
 clear A130
 have HC14 := Aside0.mk H
 clear H
 go_enter Tryd.func9, Tryd.ntmps9
 go_upto_region 10 with (first | ((with_reducible refine gate_dst (N := 2) rfl ?_); refine box_event ?hg (N := 2) ?hd (cs := #[.slice A0_0 l0_0.length c0_0, .int .i64 a0_1, .bool a0_2, .slice A0_3 l0_3.length c0_3, .slice A0_4 l0_4.length c0_4]) (t := 41) ?hr ?_; (case hd => rfl); (case hg => rfl); (case hr => first | (go_simp; done) | (go_simp; rfl)); intro gb671 hg w15 hbox hb; have n0_ := Aside0.mk (below_step (by repeat (first | (with_reducible first | exact HB.out | apply below_alloc | apply pw_below_drewN | apply below_drew1) | exact HB.out)) hb); have n1_ := Aside0.mk (hbox); have n2_ := Aside0.mk ((by rw [hg]; exact (below_size (by repeat (first | (with_reducible first | exact HB.out | apply below_alloc | apply pw_below_drewN | apply below_drew1) | exact HB.out))) : w.heap.size ≤ gb671)); have n3_ := Aside0.mk ((by rw [hg]; exact (below_size (by repeat (first | (with_reducible first | exact HB.out | apply below_alloc | apply pw_below_drewN | apply below_drew1) | exact HB.out))) : w.heap.size ≤ gb671)); clear HB; have HB := n0_; have BK671 := n1_; have GW671 := n2_; have GE671 := n3_; clear n0_ n1_ n2_ n3_; clear hb hbox hg; have hcz16_0 : w15.cell? ⟨gb671, 0, none⟩ = some (.slice A0_0 l0_0.length c0_0) := (blk_cell BK671.out 0).trans rfl; have hcz16_1 : w15.cell? ⟨gb671, 1, none⟩ = some (.int .i64 a0_1) := (blk_cell BK671.out 1).trans rfl; have hcz16_2 : w15.cell? ⟨gb671, 2, none⟩ = some (.bool a0_2) := (blk_cell BK671.out 2).trans rfl; have hcz16_3 : w15.cell? ⟨gb671, 3, none⟩ = some (.slice A0_3 l0_3.length c0_3) := (blk_cell BK671.out 3).trans rfl; have hcz16_4 : w15.cell? ⟨gb671, 4, none⟩ = some (.slice A0_4 l0_4.length c0_4) := (blk_cell BK671.out 4).trans rfl; have hfz16_0 := blk_frozen BK671.out 0; have hfz16_1 := blk_frozen BK671.out 1; have hfz16_2 := blk_frozen BK671.out 2; have hfz16_3 := blk_frozen BK671.out 3; have hfz16_4 := blk_frozen BK671.out 4) | ((with_reducible refine gate_callee (f := 22) rfl ?_); refine goesL_ (some 21) rfl rfl Tryd.func22 (by kernel_rfl) rfl #[.agg #[.slice A0_0 l0_0.length c0_0, .int .i64 a0_1, .bool a0_2, .slice A0_3 l0_3.length c0_3, .slice A0_4 l0_4.length c0_4], .int .i64 1048576] rfl (by (try simp only [List.map_toArray, List.map_cons, List.map_nil]); first | done | rfl | (simp only [List.length_drop, List.length_take]; rfl)) ?_; (with_reducible refine (laws_szPsalm.calls _ _ l0_0 a0_1 a0_2 _ _ l0_3 _ _ l0_4 1048576 t672 _ ?side1 ?side2 ?side3 ?side4 ?side5 ?side6 A5.out).mono ?_); (case side1 => repeat (first | exact (Kd.C_below HR0_0.out HB.out) | (with_reducible refine Kd.C_alloc ?_ _) | (with_reducible refine Kd.C_drewN ?_ _) | (with_reducible refine Kd.C_drew ?_))); (case side2 => exact HC0_0.out); (case side3 => repeat (first | exact (Kd.C_below HR0_3.out HB.out) | (with_reducible refine Kd.C_alloc ?_ _) | (with_reducible refine Kd.C_drewN ?_ _) | (with_reducible refine Kd.C_drew ?_))); (case side4 => exact HC0_3.out); (case side5 => repeat (first | exact (Kd.C_below HR0_4.out HB.out) | (with_reducible refine Kd.C_alloc ?_ _) | (with_reducible refine Kd.C_drewN ?_ _) | (with_reducible refine Kd.C_drew ?_))); (case side6 => exact HC0_4.out); rintro e w17 ⟨rfl, hb⟩; refine ⟨_, rfl, ?_⟩; have n0_ := Aside0.mk (blk_below (g := gb671) (o := .cells #[.slice A0_0 l0_0.length c0_0, .int .i64 a0_1, .bool a0_2, .slice A0_3 l0_3.length c0_3, .slice A0_4 l0_4.length c0_4] 41 (0, 0)) (by (with_reducible repeat (first | refine blk_drewN ?_ _ | refine blk_drew ?_ | refine blk_alloc ?_ _)); exact BK671.out) hb); have n1_ := Aside0.mk (below_step (by repeat (first | (with_reducible first | exact HB.out | apply below_alloc | apply pw_below_drewN | apply below_drew1 | refine below_set ?_ GE671.out) | exact HB.out)) hb); clear BK671; clear HB; have BK671 := n0_; have HB := n1_; clear n0_ n1_; (try clear hb); (try clear hb2); (try clear hk); (try clear hi); have hcz18_0 : w17.cell? ⟨gb671, 0, none⟩ = some (.slice A0_0 l0_0.length c0_0) := (blk_cell BK671.out 0).trans rfl; have hcz18_1 : w17.cell? ⟨gb671, 1, none⟩ = some (.int .i64 a0_1) := (blk_cell BK671.out 1).trans rfl; have hcz18_2 : w17.cell? ⟨gb671, 2, none⟩ = some (.bool a0_2) := (blk_cell BK671.out 2).trans rfl; have hcz18_3 : w17.cell? ⟨gb671, 3, none⟩ = some (.slice A0_3 l0_3.length c0_3) := (blk_cell BK671.out 3).trans rfl; have hcz18_4 : w17.cell? ⟨gb671, 4, none⟩ = some (.slice A0_4 l0_4.length c0_4) := (blk_cell BK671.out 4).trans rfl; have hfz18_0 := blk_frozen BK671.out 0; have hfz18_1 := blk_frozen BK671.out 1; have hfz18_2 := blk_frozen BK671.out 2; have hfz18_3 := blk_frozen BK671.out 3; have hfz18_4 := blk_frozen BK671.out 4) | ((with_reducible refine gate_callee (f := 24) rfl ?_); refine goesL_ (some 26) rfl rfl Tryd.func24 (by kernel_rfl) rfl #[.agg #[.slice A0_0 l0_0.length c0_0, .int .i64 a0_1, .bool a0_2, .slice A0_3 l0_3.length c0_3, .slice A0_4 l0_4.length c0_4]] rfl (by (try simp only [List.map_toArray, List.map_cons, List.map_nil]); first | done | rfl | (simp only [List.length_drop, List.length_take]; rfl)) ?_; (with_reducible refine (laws_toPsalm.calls k _ _ l0_0 a0_1 a0_2 _ _ l0_3 _ _ l0_4 t673 t676 t677 t678 t681 _ ?side1 ?side2 ?side3 ?side4 ?side5 ?side6 A10.out).mono ?_); (case side1 => repeat (first | exact (Kd.C_below HR0_0.out HB.out) | (with_reducible refine Kd.C_alloc ?_ _) | (with_reducible refine Kd.C_drewN ?_ _) | (with_reducible refine Kd.C_drew ?_))); (case side2 => exact HC0_0.out); (case side3 => repeat (first | exact (Kd.C_below HR0_3.out HB.out) | (with_reducible refine Kd.C_alloc ?_ _) | (with_reducible refine Kd.C_drewN ?_ _) | (with_reducible refine Kd.C_drew ?_))); (case side4 => exact HC0_3.out); (case side5 => repeat (first | exact (Kd.C_below HR0_4.out HB.out) | (with_reducible refine Kd.C_alloc ?_ _) | (with_reducible refine Kd.C_drewN ?_ _) | (with_reducible refine Kd.C_drew ?_))); (case side6 => exact HC0_4.out); rintro e w19 ⟨v674, v679, v682, rfl, ho0, ho1, ho2, hb⟩; refine ⟨_, rfl, ?_⟩; have n0_ := Aside0.mk (Kd.R_lower ho0 (below_size (by repeat (first | (with_reducible first | exact HB.out | apply below_alloc | apply pw_below_drewN | apply below_drew1 | refine below_set ?_ GE671.out) | exact HB.out)))); have n1_ := Aside0.mk (Kd.R_lower ho1 (below_size (by repeat (first | (with_reducible first | exact HB.out | apply below_alloc | apply pw_below_drewN | apply below_drew1 | refine below_set ?_ GE671.out) | exact HB.out)))); have n2_ := Aside0.mk (Kd.R_lower ho2 (below_size (by repeat (first | (with_reducible first | exact HB.out | apply below_alloc | apply pw_below_drewN | apply below_drew1 | refine below_set ?_ GE671.out) | exact HB.out)))); have n3_ := Aside0.mk (blk_below (g := gb671) (o := .cells #[.slice A0_0 l0_0.length c0_0, .int .i64 a0_1, .bool a0_2, .slice A0_3 l0_3.length c0_3, .slice A0_4 l0_4.length c0_4] 41 (0, 0)) (by (with_reducible repeat (first | refine blk_drewN ?_ _ | refine blk_drew ?_ | refine blk_alloc ?_ _)); exact BK671.out) hb); have n4_ := Aside0.mk (below_step (by repeat (first | (with_reducible first | exact HB.out | apply below_alloc | apply pw_below_drewN | apply below_drew1 | refine below_set ?_ GE671.out) | exact HB.out)) hb); clear BK671; clear HB; have HO675 := n0_; have HO680 := n1_; have HO683 := n2_; have BK671 := n3_; have HB := n4_; clear n0_ n1_ n2_ n3_ n4_; (try clear hb); (try clear hb2); (try clear hk); (try clear hi); (try clear ho0); (try clear ho1); (try clear ho2); obtain ⟨Ao20, co20, eo20⟩ := Kd.R_slice HO675.out; subst eo20; obtain ⟨Ao21, co21, eo21⟩ := Kd.R_slice HO680.out; subst eo21; obtain ⟨Ao22, co22, eo22⟩ := Kd.R_slice HO683.out; subst eo22) | ((with_reducible refine gate_callee (f := 34) rfl ?_); refine goesL_ (some 28) rfl rfl Tryd.func34 (by kernel_rfl) rfl #[.agg #[.slice Ao20 t673.length co20, .int .i64 t676, .bool t677, .slice Ao21 t678.length co21, .slice Ao22 t681.length co22], .string a1] rfl (by (try simp only [List.map_toArray, List.map_cons, List.map_nil]); first | done | rfl | (simp only [List.length_drop, List.length_take]; rfl)) ?_; (with_reducible refine (spec_PsalmSing.calls k _ _ t673 t676 t677 _ _ t678 _ _ t681 a1 t684 t687 _ ?side1 ?side2 ?side3 ?side4 ?side5 ?side6 A11.out).mono ?_); (case side1 => repeat (first | exact (Kd.R_reads' HO675.out).2.2 | (with_reducible refine Kd.C_alloc ?_ _) | (with_reducible refine Kd.C_drewN ?_ _) | (with_reducible refine Kd.C_drew ?_))); (case side2 => exact (Kd.R_reads' HO675.out).2.1); (case side3 => repeat (first | exact (Kd.R_reads' HO680.out).2.2 | (with_reducible refine Kd.C_alloc ?_ _) | (with_reducible refine Kd.C_drewN ?_ _) | (with_reducible refine Kd.C_drew ?_))); (case side4 => exact (Kd.R_reads' HO680.out).2.1); (case side5 => repeat (first | exact (Kd.R_reads' HO683.out).2.2 | (with_reducible refine Kd.C_alloc ?_ _) | (with_reducible refine Kd.C_drewN ?_ _) | (with_reducible refine Kd.C_drew ?_))); (case side6 => exact (Kd.R_reads' HO683.out).2.1); rintro e w23 ⟨v685, rfl, ho0, hb⟩; refine ⟨_, rfl, ?_⟩; have n0_ := Aside0.mk (Kd.R_elder' (by (with_reducible repeat (first | apply Kd.R_alloc | apply Kd.R_drewN | apply Kd.R_drew)); exact HO675.out) (Kd.R_base ho0) hb); have n1_ := Aside0.mk (Kd.R_elder' (by (with_reducible repeat (first | apply Kd.R_alloc | apply Kd.R_drewN | apply Kd.R_drew)); exact HO680.out) (Kd.R_base ho0) hb); have n2_ := Aside0.mk (Kd.R_elder' (by (with_reducible repeat (first | apply Kd.R_alloc | apply Kd.R_drewN | apply Kd.R_drew)); exact HO683.out) (Kd.R_base ho0) hb); have n3_ := Aside0.mk (Kd.R_lower (Kd.R_new' (Kd.R_new' (Kd.R_new' ho0 (Kd.R_lt (by (with_reducible repeat (first | apply Kd.R_alloc | apply Kd.R_drewN | apply Kd.R_drew)); exact HO675.out))) (Kd.R_lt (by (with_reducible repeat (first | apply Kd.R_alloc | apply Kd.R_drewN | apply Kd.R_drew)); exact HO680.out))) (Kd.R_lt (by (with_reducible repeat (first | apply Kd.R_alloc | apply Kd.R_drewN | apply Kd.R_drew)); exact HO683.out))) (below_size (by repeat (first | (with_reducible first | exact HB.out | apply below_alloc | apply pw_below_drewN | apply below_drew1 | refine below_set ?_ GE671.out) | exact HB.out)))); have n4_ := Aside0.mk (blk_below (g := gb671) (o := .cells #[.slice A0_0 l0_0.length c0_0, .int .i64 a0_1, .bool a0_2, .slice A0_3 l0_3.length c0_3, .slice A0_4 l0_4.length c0_4] 41 (0, 0)) (by (with_reducible repeat (first | refine blk_drewN ?_ _ | refine blk_drew ?_ | refine blk_alloc ?_ _)); exact BK671.out) hb); have n5_ := Aside0.mk (below_step (by repeat (first | (with_reducible first | exact HB.out | apply below_alloc | apply pw_below_drewN | apply below_drew1 | refine below_set ?_ GE671.out) | exact HB.out)) hb); clear HO675; clear HO680; clear HO683; clear BK671; clear HB; have HO675 := n0_; have HO680 := n1_; have HO683 := n2_; have HO686 := n3_; have BK671 := n4_; have HB := n5_; clear n0_ n1_ n2_ n3_ n4_ n5_; (try clear hb); (try clear hb2); (try clear hk); (try clear hi); (try clear ho0); have hcz24_0 : w23.cell? ⟨gb671, 0, none⟩ = some (.slice A0_0 l0_0.length c0_0) := (blk_cell BK671.out 0).trans rfl; have hcz24_1 : w23.cell? ⟨gb671, 1, none⟩ = some (.int .i64 a0_1) := (blk_cell BK671.out 1).trans rfl; have hcz24_2 : w23.cell? ⟨gb671, 2, none⟩ = some (.bool a0_2) := (blk_cell BK671.out 2).trans rfl; have hcz24_3 : w23.cell? ⟨gb671, 3, none⟩ = some (.slice A0_3 l0_3.length c0_3) := (blk_cell BK671.out 3).trans rfl; have hcz24_4 : w23.cell? ⟨gb671, 4, none⟩ = some (.slice A0_4 l0_4.length c0_4) := (blk_cell BK671.out 4).trans rfl; have hfz24_0 := blk_frozen BK671.out 0; have hfz24_1 := blk_frozen BK671.out 1; have hfz24_2 := blk_frozen BK671.out 2; have hfz24_3 := blk_frozen BK671.out 3; have hfz24_4 := blk_frozen BK671.out 4) | ((with_reducible refine gate_callee (f := 24) rfl ?_); refine goesL_ (some 32) rfl rfl Tryd.func24 (by kernel_rfl) rfl #[.agg #[.slice A0_0 l0_0.length c0_0, .int .i64 a0_1, .bool a0_2, .slice A0_3 l0_3.length c0_3, .slice A0_4 l0_4.length c0_4]] rfl (by (try simp only [List.map_toArray, List.map_cons, List.map_nil]); first | done | rfl | (simp only [List.length_drop, List.length_take]; rfl)) ?_; (with_reducible refine (laws_toPsalm.calls k _ _ l0_0 a0_1 a0_2 _ _ l0_3 _ _ l0_4 t688 t691 t692 t693 t696 _ ?side1 ?side2 ?side3 ?side4 ?side5 ?side6 A12.out).mono ?_); (case side1 => repeat (first | exact (Kd.C_below HR0_0.out HB.out) | (with_reducible refine Kd.C_alloc ?_ _) | (with_reducible refine Kd.C_drewN ?_ _) | (with_reducible refine Kd.C_drew ?_))); (case side2 => exact HC0_0.out); (case side3 => repeat (first | exact (Kd.C_below HR0_3.out HB.out) | (with_reducible refine Kd.C_alloc ?_ _) | (with_reducible refine Kd.C_drewN ?_ _) | (with_reducible refine Kd.C_drew ?_))); (case side4 => exact HC0_3.out); (case side5 => repeat (first | exact (Kd.C_below HR0_4.out HB.out) | (with_reducible refine Kd.C_alloc ?_ _) | (with_reducible refine Kd.C_drewN ?_ _) | (with_reducible refine Kd.C_drew ?_))); (case side6 => exact HC0_4.out); rintro e w25 ⟨v689, v694, v697, rfl, ho0, ho1, ho2, hb⟩; refine ⟨_, rfl, ?_⟩; have n0_ := Aside0.mk (Kd.R_mono (Kd.R_told (Kd.R_told (Kd.R_told (Kd.R_old (by (with_reducible repeat (first | apply Kd.R_alloc | apply Kd.R_drewN | apply Kd.R_drew)); exact HO675.out) hb) (Kd.R_base ho0)) (Kd.R_base ho1)) (Kd.R_base ho2)) (fun _ h_ => h_.1)); have n1_ := Aside0.mk (Kd.R_mono (Kd.R_told (Kd.R_told (Kd.R_told (Kd.R_old (by (with_reducible repeat (first | apply Kd.R_alloc | apply Kd.R_drewN | apply Kd.R_drew)); exact HO680.out) hb) (Kd.R_base ho0)) (Kd.R_base ho1)) (Kd.R_base ho2)) (fun _ h_ => h_.1)); have n2_ := Aside0.mk (Kd.R_mono (Kd.R_told (Kd.R_told (Kd.R_told (Kd.R_old (by (with_reducible repeat (first | apply Kd.R_alloc | apply Kd.R_drewN | apply Kd.R_drew)); exact HO683.out) hb) (Kd.R_base ho0)) (Kd.R_base ho1)) (Kd.R_base ho2)) (fun _ h_ => h_.1)); have n3_ := Aside0.mk (Kd.R_mono (Kd.R_told (Kd.R_told (Kd.R_told (Kd.R_old (by (with_reducible repeat (first | apply Kd.R_alloc | apply Kd.R_drewN | apply Kd.R_drew)); exact HO686.out) hb) (Kd.R_base ho0)) (Kd.R_base ho1)) (Kd.R_base ho2)) (fun _ h_ => h_.1)); have n4_ := Aside0.mk (Kd.R_lower (Kd.R_new' (Kd.R_new' (Kd.R_new' (Kd.R_new' ho0 (Kd.R_lt (by (with_reducible repeat (first | apply Kd.R_alloc | apply Kd.R_drewN | apply Kd.R_drew)); exact HO675.out))) (Kd.R_lt (by (with_reducible repeat (first | apply Kd.R_alloc | apply Kd.R_drewN | apply Kd.R_drew)); exact HO680.out))) (Kd.R_lt (by (with_reducible repeat (first | apply Kd.R_alloc | apply Kd.R_drewN | apply Kd.R_drew)); exact HO683.out))) (Kd.R_lt (by (with_reducible repeat (first | apply Kd.R_alloc | apply Kd.R_drewN | apply Kd.R_drew)); exact HO686.out))) (below_size (by repeat (first | (with_reducible first | exact HB.out | apply below_alloc | apply pw_below_drewN | apply below_drew1 | refine below_set ?_ GE671.out) | exact HB.out)))); have n5_ := Aside0.mk (Kd.R_lower (Kd.R_new' (Kd.R_new' (Kd.R_new' (Kd.R_new' ho1 (Kd.R_lt (by (with_reducible repeat (first | apply Kd.R_alloc | apply Kd.R_drewN | apply Kd.R_drew)); exact HO675.out))) (Kd.R_lt (by (with_reducible repeat (first | apply Kd.R_alloc | apply Kd.R_drewN | apply Kd.R_drew)); exact HO680.out))) (Kd.R_lt (by (with_reducible repeat (first | apply Kd.R_alloc | apply Kd.R_drewN | apply Kd.R_drew)); exact HO683.out))) (Kd.R_lt (by (with_reducible repeat (first | apply Kd.R_alloc | apply Kd.R_drewN | apply Kd.R_drew)); exact HO686.out))) (below_size (by repeat (first | (with_reducible first | exact HB.out | apply below_alloc | apply pw_below_drewN | apply below_drew1 | refine below_set ?_ GE671.out) | exact HB.out)))); have n6_ := Aside0.mk (Kd.R_lower (Kd.R_new' (Kd.R_new' (Kd.R_new' (Kd.R_new' ho2 (Kd.R_lt (by (with_reducible repeat (first | apply Kd.R_alloc | apply Kd.R_drewN | apply Kd.R_drew)); exact HO675.out))) (Kd.R_lt (by (with_reducible repeat (first | apply Kd.R_alloc | apply Kd.R_drewN | apply Kd.R_drew)); exact HO680.out))) (Kd.R_lt (by (with_reducible repeat (first | apply Kd.R_alloc | apply Kd.R_drewN | apply Kd.R_drew)); exact HO683.out))) (Kd.R_lt (by (with_reducible repeat (first | apply Kd.R_alloc | apply Kd.R_drewN | apply Kd.R_drew)); exact HO686.out))) (below_size (by repeat (first | (with_reducible first | exact HB.out | apply below_alloc | apply pw_below_drewN | apply below_drew1 | refine below_set ?_ GE671.out) | exact HB.out)))); have n7_ := Aside0.mk (blk_below (g := gb671) (o := .cells #[.slice A0_0 l0_0.length c0_0, .int .i64 a0_1, .bool a0_2, .slice A0_3 l0_3.length c0_3, .slice A0_4 l0_4.length c0_4] 41 (0, 0)) (by (with_reducible repeat (first | refine blk_drewN ?_ _ | refine blk_drew ?_ | refine blk_alloc ?_ _)); exact BK671.out) hb); have n8_ := Aside0.mk (below_step (by repeat (first | (with_reducible first | exact HB.out | apply below_alloc | apply pw_below_drewN | apply below_drew1 | refine below_set ?_ GE671.out) | exact HB.out)) hb); clear HO675; clear HO680; clear HO683; clear HO686; clear BK671; clear HB; have HO675 := n0_; have HO680 := n1_; have HO683 := n2_; have HO686 := n3_; have HO690 := n4_; have HO695 := n5_; have HO698 := n6_; have BK671 := n7_; have HB := n8_; clear n0_ n1_ n2_ n3_ n4_ n5_ n6_ n7_ n8_; (try clear hb); (try clear hb2); (try clear hk); (try clear hi); (try clear ho0); (try clear ho1); (try clear ho2)) | ((with_reducible refine gate_dst (N := 8) rfl ?_); refine box_event ?hg (N := 8) ?hd (cs := #[.slice none 0 0, .int .i64 0, .bool false, .slice none 0 0, .slice none 0 0]) (t := 27) ?hr ?_; (case hd => rfl); (case hg => rfl); (case hr => first | (go_simp; done) | (go_simp; rfl)); intro gb699 hg w26 hbox hb; have n0_ := Aside0.mk (Kd.R_below (by (with_reducible repeat (first | apply Kd.R_alloc | apply Kd.R_drewN | apply Kd.R_drew)); exact HO675.out) hb); have n1_ := Aside0.mk (Kd.R_below (by (with_reducible repeat (first | apply Kd.R_alloc | apply Kd.R_drewN | apply Kd.R_drew)); exact HO680.out) hb); have n2_ := Aside0.mk (Kd.R_below (by (with_reducible repeat (first | apply Kd.R_alloc | apply Kd.R_drewN | apply Kd.R_drew)); exact HO683.out) hb); have n3_ := Aside0.mk (Kd.R_below (by (with_reducible repeat (first | apply Kd.R_alloc | apply Kd.R_drewN | apply Kd.R_drew)); exact HO686.out) hb); have n4_ := Aside0.mk (Kd.R_below (by (with_reducible repeat (first | apply Kd.R_alloc | apply Kd.R_drewN | apply Kd.R_drew)); exact HO690.out) hb); have n5_ := Aside0.mk (Kd.R_below (by (with_reducible repeat (first | apply Kd.R_alloc | apply Kd.R_drewN | apply Kd.R_drew)); exact HO695.out) hb); have n6_ := Aside0.mk (Kd.R_below (by (with_reducible repeat (first | apply Kd.R_alloc | apply Kd.R_drewN | apply Kd.R_drew)); exact HO698.out) hb); have n7_ := Aside0.mk (blk_below (g := gb671) (o := .cells #[.slice A0_0 l0_0.length c0_0, .int .i64 a0_1, .bool a0_2, .slice A0_3 l0_3.length c0_3, .slice A0_4 l0_4.length c0_4] 41 (0, 0)) (by (with_reducible repeat (first | refine blk_drewN ?_ _ | refine blk_drew ?_ | refine blk_alloc ?_ _)); exact BK671.out) hb); have n8_ := Aside0.mk (below_step (by repeat (first | (with_reducible first | exact HB.out | apply below_alloc | apply pw_below_drewN | apply below_drew1 | refine below_set ?_ GE671.out) | exact HB.out)) hb); have n9_ := Aside0.mk (hbox); have n10_ := Aside0.mk ((by rw [hg]; exact (below_size (by repeat (first | (with_reducible first | exact HB.out | apply below_alloc | apply pw_below_drewN | apply below_drew1 | refine below_set ?_ GE671.out) | exact HB.out))) : w.heap.size ≤ gb699)); have n11_ := Aside0.mk ((by rw [hg]; exact (below_size (by repeat (first | (with_reducible first | exact HB.out | apply below_alloc | apply pw_below_drewN | apply below_drew1 | refine below_set ?_ GE671.out) | exact HB.out))) : w.heap.size ≤ gb699)); have n12_ := Aside0.mk ((by rw [hg]; exact Nat.ne_of_lt (blk_lt (g := gb671) (o := .cells #[.slice A0_0 l0_0.length c0_0, .int .i64 a0_1, .bool a0_2, .slice A0_3 l0_3.length c0_3, .slice A0_4 l0_4.length c0_4] 41 (0, 0)) (by (with_reducible repeat (first | refine blk_drewN ?_ _ | refine blk_drew ?_ | refine blk_alloc ?_ _)); exact BK671.out)) : gb671 ≠ gb699)); have n13_ := Aside0.mk ((by rw [hg]; exact Nat.ne_of_gt (blk_lt (g := gb671) (o := .cells #[.slice A0_0 l0_0.length c0_0, .int .i64 a0_1, .bool a0_2, .slice A0_3 l0_3.length c0_3, .slice A0_4 l0_4.length c0_4] 41 (0, 0)) (by (with_reducible repeat (first | refine blk_drewN ?_ _ | refine blk_drew ?_ | refine blk_alloc ?_ _)); exact BK671.out)) : gb699 ≠ gb671)); clear HO675; clear HO680; clear HO683; clear HO686; clear HO690; clear HO695; clear HO698; clear BK671; clear HB; have HO675 := n0_; have HO680 := n1_; have HO683 := n2_; have HO686 := n3_; have HO690 := n4_; have HO695 := n5_; have HO698 := n6_; have BK671 := n7_; have HB := n8_; have BK699 := n9_; have GW699 := n10_; have GE699 := n11_; have NB671_699 := n12_; have NB699_671 := n13_; clear n0_ n1_ n2_ n3_ n4_ n5_ n6_ n7_ n8_ n9_ n10_ n11_ n12_ n13_; clear hb hbox hg; obtain ⟨Ao27, co27, eo27⟩ := Kd.R_slice HO690.out; subst eo27; have hnb28 := NB699_671.out; have hnc28 := NB671_699.out; have hcz29_0 : w26.cell? ⟨gb699, 0, none⟩ = some (.slice none 0 0) := (blk_cell BK699.out 0).trans rfl; have hcz29_1 : w26.cell? ⟨gb699, 1, none⟩ = some (.int .i64 0) := (blk_cell BK699.out 1).trans rfl; have hcz29_2 : w26.cell? ⟨gb699, 2, none⟩ = some (.bool false) := (blk_cell BK699.out 2).trans rfl; have hcz29_3 : w26.cell? ⟨gb699, 3, none⟩ = some (.slice none 0 0) := (blk_cell BK699.out 3).trans rfl; have hcz29_4 : w26.cell? ⟨gb699, 4, none⟩ = some (.slice none 0 0) := (blk_cell BK699.out 4).trans rfl; have hfz29_0 := blk_frozen BK699.out 0; have hfz29_1 := blk_frozen BK699.out 1; have hfz29_2 := blk_frozen BK699.out 2; have hfz29_3 := blk_frozen BK699.out 3; have hfz29_4 := blk_frozen BK699.out 4; obtain ⟨Ao30, co30, eo30⟩ := Kd.R_slice HO695.out; subst eo30; obtain ⟨Ao31, co31, eo31⟩ := Kd.R_slice HO698.out; subst eo31) | ((with_reducible refine gate_callee (f := 19) rfl ?_); refine goesL_ (some 36) rfl rfl Tryd.func19 (by kernel_rfl) rfl #[.agg #[.slice Ao27 t688.length co27, .int .i64 t691, .bool t692, .slice Ao30 t693.length co30, .slice Ao31 t696.length co31], .string a1] rfl (by (try simp only [List.map_toArray, List.map_cons, List.map_nil]); first | done | rfl | (simp only [List.length_drop, List.length_take]; rfl)) ?_; (with_reducible refine (impl_PsalmSing.calls k _ _ t688 t691 t692 _ _ t693 _ _ t696 a1 t700 t703 _ ?side1 ?side2 ?side3 ?side4 ?side5 ?side6 ?side7 A13.out).mono ?_); (case side1 => refine (Kd.R_reads' (e := 25) (base := w.heap.size) (ok := fun k_ => (((((some k_ ≠ (.slice Ao30 t693.length co30 : Value).ownBlock ∧ some k_ ≠ (.slice Ao31 t696.length co31 : Value).ownBlock) ∧ some k_ ≠ (.slice Ao20 t673.length co20 : Value).ownBlock) ∧ some k_ ≠ (.slice Ao21 t678.length co21 : Value).ownBlock) ∧ some k_ ≠ (.slice Ao22 t681.length co22 : Value).ownBlock) ∧ some k_ ≠ (v685 : Value).ownBlock)) (n := t688.length) (c := co27) ?_).2.2; exact (by (with_reducible repeat (first | apply Kd.R_alloc | apply Kd.R_drewN | apply Kd.R_drew)); exact (Kd.R_mono (Kd.R_far (p := ⟨gb699, 4, none⟩) (Kd.R_far (p := ⟨gb699, 3, none⟩) (Kd.R_far (p := ⟨gb699, 2, none⟩) (Kd.R_far (p := ⟨gb699, 1, none⟩) (Kd.R_far (p := ⟨gb699, 0, none⟩) (Kd.R_types HO690.out BK699.out (by decide)) (fun _ hk => hk.2) (.slice Ao27 t688.length co27)) (fun _ hk => hk.2) (.int .i64 t691)) (fun _ hk => hk.2) (.bool t692)) (fun _ hk => hk.2) (.slice Ao30 t693.length co30)) (fun _ hk => hk.2) (.slice Ao31 t696.length co31)) (fun _ h_ => h_.1)))); (case side2 => exact (Kd.R_reads' HO690.out).2.1); (case side3 => refine (Kd.R_reads' (e := 25) (base := w.heap.size) (ok := fun k_ => (((((some k_ ≠ (.slice Ao27 t688.length co27 : Value).ownBlock ∧ some k_ ≠ (.slice Ao31 t696.length co31 : Value).ownBlock) ∧ some k_ ≠ (.slice Ao20 t673.length co20 : Value).ownBlock) ∧ some k_ ≠ (.slice Ao21 t678.length co21 : Value).ownBlock) ∧ some k_ ≠ (.slice Ao22 t681.length co22 : Value).ownBlock) ∧ some k_ ≠ (v685 : Value).ownBlock)) (n := t693.length) (c := co30) ?_).2.2; exact (by (with_reducible repeat (first | apply Kd.R_alloc | apply Kd.R_drewN | apply Kd.R_drew)); exact (Kd.R_mono (Kd.R_far (p := ⟨gb699, 4, none⟩) (Kd.R_far (p := ⟨gb699, 3, none⟩) (Kd.R_far (p := ⟨gb699, 2, none⟩) (Kd.R_far (p := ⟨gb699, 1, none⟩) (Kd.R_far (p := ⟨gb699, 0, none⟩) (Kd.R_types HO695.out BK699.out (by decide)) (fun _ hk => hk.2) (.slice Ao27 t688.length co27)) (fun _ hk => hk.2) (.int .i64 t691)) (fun _ hk => hk.2) (.bool t692)) (fun _ hk => hk.2) (.slice Ao30 t693.length co30)) (fun _ hk => hk.2) (.slice Ao31 t696.length co31)) (fun _ h_ => h_.1)))); (case side4 => exact (Kd.R_reads' HO695.out).2.1); (case side5 => refine (Kd.R_reads' (e := 25) (base := w.heap.size) (ok := fun k_ => (((((some k_ ≠ (.slice Ao27 t688.length co27 : Value).ownBlock ∧ some k_ ≠ (.slice Ao30 t693.length co30 : Value).ownBlock) ∧ some k_ ≠ (.slice Ao20 t673.length co20 : Value).ownBlock) ∧ some k_ ≠ (.slice Ao21 t678.length co21 : Value).ownBlock) ∧ some k_ ≠ (.slice Ao22 t681.length co22 : Value).ownBlock) ∧ some k_ ≠ (v685 : Value).ownBlock)) (n := t696.length) (c := co31) ?_).2.2; exact (by (with_reducible repeat (first | apply Kd.R_alloc | apply Kd.R_drewN | apply Kd.R_drew)); exact (Kd.R_mono (Kd.R_far (p := ⟨gb699, 4, none⟩) (Kd.R_far (p := ⟨gb699, 3, none⟩) (Kd.R_far (p := ⟨gb699, 2, none⟩) (Kd.R_far (p := ⟨gb699, 1, none⟩) (Kd.R_far (p := ⟨gb699, 0, none⟩) (Kd.R_types HO698.out BK699.out (by decide)) (fun _ hk => hk.2) (.slice Ao27 t688.length co27)) (fun _ hk => hk.2) (.int .i64 t691)) (fun _ hk => hk.2) (.bool t692)) (fun _ hk => hk.2) (.slice Ao30 t693.length co30)) (fun _ hk => hk.2) (.slice Ao31 t696.length co31)) (fun _ h_ => h_.1)))); (case side6 => exact (Kd.R_reads' HO698.out).2.1); (case side7 => exact GOk.sub (GOk.below HG.out (by repeat (first | (with_reducible first | exact HB.out | apply below_alloc | apply pw_below_drewN | apply below_drew1 | refine below_set ?_ GE671.out | refine below_set ?_ GE699.out) | exact HB.out))) (by decide)); rintro e w32 ⟨v701, rfl, ho0, hb⟩; refine ⟨_, rfl, ?_⟩; have n0_ := Aside0.mk (Kd.R_elder' (by (with_reducible repeat (first | apply Kd.R_alloc | apply Kd.R_drewN | apply Kd.R_drew)); exact (Kd.R_mono (Kd.R_far (p := ⟨gb699, 4, none⟩) (Kd.R_far (p := ⟨gb699, 3, none⟩) (Kd.R_far (p := ⟨gb699, 2, none⟩) (Kd.R_far (p := ⟨gb699, 1, none⟩) (Kd.R_far (p := ⟨gb699, 0, none⟩) (Kd.R_types HO675.out BK699.out (by decide)) (fun _ hk => hk.2) (.slice Ao27 t688.length co27)) (fun _ hk => hk.2) (.int .i64 t691)) (fun _ hk => hk.2) (.bool t692)) (fun _ hk => hk.2) (.slice Ao30 t693.length co30)) (fun _ hk => hk.2) (.slice Ao31 t696.length co31)) (fun _ h_ => h_.1))) (Kd.R_base ho0) hb); have n1_ := Aside0.mk (Kd.R_elder' (by (with_reducible repeat (first | apply Kd.R_alloc | apply Kd.R_drewN | apply Kd.R_drew)); exact (Kd.R_mono (Kd.R_far (p := ⟨gb699, 4, none⟩) (Kd.R_far (p := ⟨gb699, 3, none⟩) (Kd.R_far (p := ⟨gb699, 2, none⟩) (Kd.R_far (p := ⟨gb699, 1, none⟩) (Kd.R_far (p := ⟨gb699, 0, none⟩) (Kd.R_types HO680.out BK699.out (by decide)) (fun _ hk => hk.2) (.slice Ao27 t688.length co27)) (fun _ hk => hk.2) (.int .i64 t691)) (fun _ hk => hk.2) (.bool t692)) (fun _ hk => hk.2) (.slice Ao30 t693.length co30)) (fun _ hk => hk.2) (.slice Ao31 t696.length co31)) (fun _ h_ => h_.1))) (Kd.R_base ho0) hb); have n2_ := Aside0.mk (Kd.R_elder' (by (with_reducible repeat (first | apply Kd.R_alloc | apply Kd.R_drewN | apply Kd.R_drew)); exact (Kd.R_mono (Kd.R_far (p := ⟨gb699, 4, none⟩) (Kd.R_far (p := ⟨gb699, 3, none⟩) (Kd.R_far (p := ⟨gb699, 2, none⟩) (Kd.R_far (p := ⟨gb699, 1, none⟩) (Kd.R_far (p := ⟨gb699, 0, none⟩) (Kd.R_types HO683.out BK699.out (by decide)) (fun _ hk => hk.2) (.slice Ao27 t688.length co27)) (fun _ hk => hk.2) (.int .i64 t691)) (fun _ hk => hk.2) (.bool t692)) (fun _ hk => hk.2) (.slice Ao30 t693.length co30)) (fun _ hk => hk.2) (.slice Ao31 t696.length co31)) (fun _ h_ => h_.1))) (Kd.R_base ho0) hb); have n3_ := Aside0.mk (Kd.R_elder' (by (with_reducible repeat (first | apply Kd.R_alloc | apply Kd.R_drewN | apply Kd.R_drew)); exact (Kd.R_mono (Kd.R_far (p := ⟨gb699, 4, none⟩) (Kd.R_far (p := ⟨gb699, 3, none⟩) (Kd.R_far (p := ⟨gb699, 2, none⟩) (Kd.R_far (p := ⟨gb699, 1, none⟩) (Kd.R_far (p := ⟨gb699, 0, none⟩) (Kd.R_types HO686.out BK699.out (by decide)) (fun _ hk => hk.2) (.slice Ao27 t688.length co27)) (fun _ hk => hk.2) (.int .i64 t691)) (fun _ hk => hk.2) (.bool t692)) (fun _ hk => hk.2) (.slice Ao30 t693.length co30)) (fun _ hk => hk.2) (.slice Ao31 t696.length co31)) (fun _ h_ => h_.1))) (Kd.R_base ho0) hb); have n4_ := Aside0.mk (Kd.R_elder' (by (with_reducible repeat (first | apply Kd.R_alloc | apply Kd.R_drewN | apply Kd.R_drew)); exact (Kd.R_mono (Kd.R_far (p := ⟨gb699, 4, none⟩) (Kd.R_far (p := ⟨gb699, 3, none⟩) (Kd.R_far (p := ⟨gb699, 2, none⟩) (Kd.R_far (p := ⟨gb699, 1, none⟩) (Kd.R_far (p := ⟨gb699, 0, none⟩) (Kd.R_types HO690.out BK699.out (by decide)) (fun _ hk => hk.2) (.slice Ao27 t688.length co27)) (fun _ hk => hk.2) (.int .i64 t691)) (fun _ hk => hk.2) (.bool t692)) (fun _ hk => hk.2) (.slice Ao30 t693.length co30)) (fun _ hk => hk.2) (.slice Ao31 t696.length co31)) (fun _ h_ => h_.1))) (Kd.R_base ho0) hb); have n5_ := Aside0.mk (Kd.R_elder' (by (with_reducible repeat (first | apply Kd.R_alloc | apply Kd.R_drewN | apply Kd.R_drew)); exact (Kd.R_mono (Kd.R_far (p := ⟨gb699, 4, none⟩) (Kd.R_far (p := ⟨gb699, 3, none⟩) (Kd.R_far (p := ⟨gb699, 2, none⟩) (Kd.R_far (p := ⟨gb699, 1, none⟩) (Kd.R_far (p := ⟨gb699, 0, none⟩) (Kd.R_types HO695.out BK699.out (by decide)) (fun _ hk => hk.2) (.slice Ao27 t688.length co27)) (fun _ hk => hk.2) (.int .i64 t691)) (fun _ hk => hk.2) (.bool t692)) (fun _ hk => hk.2) (.slice Ao30 t693.length co30)) (fun _ hk => hk.2) (.slice Ao31 t696.length co31)) (fun _ h_ => h_.1))) (Kd.R_base ho0) hb); have n6_ := Aside0.mk (Kd.R_elder' (by (with_reducible repeat (first | apply Kd.R_alloc | apply Kd.R_drewN | apply Kd.R_drew)); exact (Kd.R_mono (Kd.R_far (p := ⟨gb699, 4, none⟩) (Kd.R_far (p := ⟨gb699, 3, none⟩) (Kd.R_far (p := ⟨gb699, 2, none⟩) (Kd.R_far (p := ⟨gb699, 1, none⟩) (Kd.R_far (p := ⟨gb699, 0, none⟩) (Kd.R_types HO698.out BK699.out (by decide)) (fun _ hk => hk.2) (.slice Ao27 t688.length co27)) (fun _ hk => hk.2) (.int .i64 t691)) (fun _ hk => hk.2) (.bool t692)) (fun _ hk => hk.2) (.slice Ao30 t693.length co30)) (fun _ hk => hk.2) (.slice Ao31 t696.length co31)) (fun _ h_ => h_.1))) (Kd.R_base ho0) hb); have n7_ := Aside0.mk (Kd.R_lower (Kd.R_new' (Kd.R_new' (Kd.R_new' (Kd.R_new' (Kd.R_new' (Kd.R_new' (Kd.R_new' ho0 (Kd.R_lt (by (with_reducible repeat (first | apply Kd.R_alloc | apply Kd.R_drewN | apply Kd.R_drew)); exact (Kd.R_mono (Kd.R_far (p := ⟨gb699, 4, none⟩) (Kd.R_far (p := ⟨gb699, 3, none⟩) (Kd.R_far (p := ⟨gb699, 2, none⟩) (Kd.R_far (p := ⟨gb699, 1, none⟩) (Kd.R_far (p := ⟨gb699, 0, none⟩) (Kd.R_types HO675.out BK699.out (by decide)) (fun _ hk => hk.2) (.slice Ao27 t688.length co27)) (fun _ hk => hk.2) (.int .i64 t691)) (fun _ hk => hk.2) (.bool t692)) (fun _ hk => hk.2) (.slice Ao30 t693.length co30)) (fun _ hk => hk.2) (.slice Ao31 t696.length co31)) (fun _ h_ => h_.1))))) (Kd.R_lt (by (with_reducible repeat (first | apply Kd.R_alloc | apply Kd.R_drewN | apply Kd.R_drew)); exact (Kd.R_mono (Kd.R_far (p := ⟨gb699, 4, none⟩) (Kd.R_far (p := ⟨gb699, 3, none⟩) (Kd.R_far (p := ⟨gb699, 2, none⟩) (Kd.R_far (p := ⟨gb699, 1, none⟩) (Kd.R_far (p := ⟨gb699, 0, none⟩) (Kd.R_types HO680.out BK699.out (by decide)) (fun _ hk => hk.2) (.slice Ao27 t688.length co27)) (fun _ hk => hk.2) (.int .i64 t691)) (fun _ hk => hk.2) (.bool t692)) (fun _ hk => hk.2) (.slice Ao30 t693.length co30)) (fun _ hk => hk.2) (.slice Ao31 t696.length co31)) (fun _ h_ => h_.1))))) (Kd.R_lt (by (with_reducible repeat (first | apply Kd.R_alloc | apply Kd.R_drewN | apply Kd.R_drew)); exact (Kd.R_mono (Kd.R_far (p := ⟨gb699, 4, none⟩) (Kd.R_far (p := ⟨gb699, 3, none⟩) (Kd.R_far (p := ⟨gb699, 2, none⟩) (Kd.R_far (p := ⟨gb699, 1, none⟩) (Kd.R_far (p := ⟨gb699, 0, none⟩) (Kd.R_types HO683.out BK699.out (by decide)) (fun _ hk => hk.2) (.slice Ao27 t688.length co27)) (fun _ hk => hk.2) (.int .i64 t691)) (fun _ hk => hk.2) (.bool t692)) (fun _ hk => hk.2) (.slice Ao30 t693.length co30)) (fun _ hk => hk.2) (.slice Ao31 t696.length co31)) (fun _ h_ => h_.1))))) (Kd.R_lt (by (with_reducible repeat (first | apply Kd.R_alloc | apply Kd.R_drewN | apply Kd.R_drew)); exact (Kd.R_mono (Kd.R_far (p := ⟨gb699, 4, none⟩) (Kd.R_far (p := ⟨gb699, 3, none⟩) (Kd.R_far (p := ⟨gb699, 2, none⟩) (Kd.R_far (p := ⟨gb699, 1, none⟩) (Kd.R_far (p := ⟨gb699, 0, none⟩) (Kd.R_types HO686.out BK699.out (by decide)) (fun _ hk => hk.2) (.slice Ao27 t688.length co27)) (fun _ hk => hk.2) (.int .i64 t691)) (fun _ hk => hk.2) (.bool t692)) (fun _ hk => hk.2) (.slice Ao30 t693.length co30)) (fun _ hk => hk.2) (.slice Ao31 t696.length co31)) (fun _ h_ => h_.1))))) (Kd.R_lt (by (with_reducible repeat (first | apply Kd.R_alloc | apply Kd.R_drewN | apply Kd.R_drew)); exact (Kd.R_mono (Kd.R_far (p := ⟨gb699, 4, none⟩) (Kd.R_far (p := ⟨gb699, 3, none⟩) (Kd.R_far (p := ⟨gb699, 2, none⟩) (Kd.R_far (p := ⟨gb699, 1, none⟩) (Kd.R_far (p := ⟨gb699, 0, none⟩) (Kd.R_types HO690.out BK699.out (by decide)) (fun _ hk => hk.2) (.slice Ao27 t688.length co27)) (fun _ hk => hk.2) (.int .i64 t691)) (fun _ hk => hk.2) (.bool t692)) (fun _ hk => hk.2) (.slice Ao30 t693.length co30)) (fun _ hk => hk.2) (.slice Ao31 t696.length co31)) (fun _ h_ => h_.1))))) (Kd.R_lt (by (with_reducible repeat (first | apply Kd.R_alloc | apply Kd.R_drewN | apply Kd.R_drew)); exact (Kd.R_mono (Kd.R_far (p := ⟨gb699, 4, none⟩) (Kd.R_far (p := ⟨gb699, 3, none⟩) (Kd.R_far (p := ⟨gb699, 2, none⟩) (Kd.R_far (p := ⟨gb699, 1, none⟩) (Kd.R_far (p := ⟨gb699, 0, none⟩) (Kd.R_types HO695.out BK699.out (by decide)) (fun _ hk => hk.2) (.slice Ao27 t688.length co27)) (fun _ hk => hk.2) (.int .i64 t691)) (fun _ hk => hk.2) (.bool t692)) (fun _ hk => hk.2) (.slice Ao30 t693.length co30)) (fun _ hk => hk.2) (.slice Ao31 t696.length co31)) (fun _ h_ => h_.1))))) (Kd.R_lt (by (with_reducible repeat (first | apply Kd.R_alloc | apply Kd.R_drewN | apply Kd.R_drew)); exact (Kd.R_mono (Kd.R_far (p := ⟨gb699, 4, none⟩) (Kd.R_far (p := ⟨gb699, 3, none⟩) (Kd.R_far (p := ⟨gb699, 2, none⟩) (Kd.R_far (p := ⟨gb699, 1, none⟩) (Kd.R_far (p := ⟨gb699, 0, none⟩) (Kd.R_types HO698.out BK699.out (by decide)) (fun _ hk => hk.2) (.slice Ao27 t688.length co27)) (fun _ hk => hk.2) (.int .i64 t691)) (fun _ hk => hk.2) (.bool t692)) (fun _ hk => hk.2) (.slice Ao30 t693.length co30)) (fun _ hk => hk.2) (.slice Ao31 t696.length co31)) (fun _ h_ => h_.1))))) (below_size (by repeat (first | (with_reducible first | exact HB.out | apply below_alloc | apply pw_below_drewN | apply below_drew1 | refine below_set ?_ GE671.out | refine below_set ?_ GE699.out) | exact HB.out)))); have n8_ := Aside0.mk (blk_below (g := gb671) (o := .cells #[.slice A0_0 l0_0.length c0_0, .int .i64 a0_1, .bool a0_2, .slice A0_3 l0_3.length c0_3, .slice A0_4 l0_4.length c0_4] 41 (0, 0)) (by (with_reducible repeat (first | refine blk_drewN ?_ _ | refine blk_drew ?_ | refine blk_alloc ?_ _)); refine blk_far ?_ NB671_699.out _; (with_reducible repeat (first | refine blk_drewN ?_ _ | refine blk_drew ?_ | refine blk_alloc ?_ _)); refine blk_far ?_ NB671_699.out _; (with_reducible repeat (first | refine blk_drewN ?_ _ | refine blk_drew ?_ | refine blk_alloc ?_ _)); refine blk_far ?_ NB671_699.out _; (with_reducible repeat (first | refine blk_drewN ?_ _ | refine blk_drew ?_ | refine blk_alloc ?_ _)); refine blk_far ?_ NB671_699.out _; (with_reducible repeat (first | refine blk_drewN ?_ _ | refine blk_drew ?_ | refine blk_alloc ?_ _)); refine blk_far ?_ NB671_699.out _; (with_reducible repeat (first | refine blk_drewN ?_ _ | refine blk_drew ?_ | refine blk_alloc ?_ _)); exact BK671.out) hb); have n9_ := Aside0.mk (blk_below (g := gb699) (o := .cells #[.slice Ao27 t688.length co27, .int .i64 t691, .bool t692, .slice Ao30 t693.length co30, .slice Ao31 t696.length co31] 27 (0, 0)) (by (with_reducible repeat (first | refine blk_drewN ?_ _ | refine blk_drew ?_ | refine blk_alloc ?_ _)); refine blk_put (cs := #[.slice Ao27 t688.length co27, .int .i64 t691, .bool t692, .slice Ao30 t693.length co30, .slice none 0 0]) ?_ 4 _ rfl; (with_reducible repeat (first | refine blk_drewN ?_ _ | refine blk_drew ?_ | refine blk_alloc ?_ _)); refine blk_put (cs := #[.slice Ao27 t688.length co27, .int .i64 t691, .bool t692, .slice none 0 0, .slice none 0 0]) ?_ 3 _ rfl; (with_reducible repeat (first | refine blk_drewN ?_ _ | refine blk_drew ?_ | refine blk_alloc ?_ _)); refine blk_put (cs := #[.slice Ao27 t688.length co27, .int .i64 t691, .bool false, .slice none 0 0, .slice none 0 0]) ?_ 2 _ rfl; (with_reducible repeat (first | refine blk_drewN ?_ _ | refine blk_drew ?_ | refine blk_alloc ?_ _)); refine blk_put (cs := #[.slice Ao27 t688.length co27, .int .i64 0, .bool false, .slice none 0 0, .slice none 0 0]) ?_ 1 _ rfl; (with_reducible repeat (first | refine blk_drewN ?_ _ | refine blk_drew ?_ | refine blk_alloc ?_ _)); refine blk_put (cs := #[.slice none 0 0, .int .i64 0, .bool false, .slice none 0 0, .slice none 0 0]) ?_ 0 _ rfl; (with_reducible repeat (first | refine blk_drewN ?_ _ | refine blk_drew ?_ | refine blk_alloc ?_ _)); exact BK699.out) hb); have n10_ := Aside0.mk (below_step (by repeat (first | (with_reducible first | exact HB.out | apply below_alloc | apply pw_below_drewN | apply below_drew1 | refine below_set ?_ GE671.out | refine below_set ?_ GE699.out) | exact HB.out)) hb); clear HO675; clear HO680; clear HO683; clear HO686; clear HO690; clear HO695; clear HO698; clear BK671; clear BK699; clear HB; have HO675 := n0_; have HO680 := n1_; have HO683 := n2_; have HO686 := n3_; have HO690 := n4_; have HO695 := n5_; have HO698 := n6_; have HO702 := n7_; have BK671 := n8_; have BK699 := n9_; have HB := n10_; clear n0_ n1_ n2_ n3_ n4_ n5_ n6_ n7_ n8_ n9_ n10_; (try clear hb); (try clear hb2); (try clear hk); (try clear hi); (try clear ho0)))
 (try simp only [Act.put, List.setIfInBounds_toArray, List.set_cons_zero, List.set_cons_succ])
 go_cut [47] (fun v47 wc => ∃ (kq : Nat) (x47_13 : Bool), v47 = .bool x47_13 ∧ Aside0 (laws_FnExactPsalmSing.j0 kq a1 t684 t687 t700 t703 x47_13 l0_0 a0_1 a0_2 l0_3 l0_4 t688 t691 t692 t693 t696 = some r) ∧ Aside0 (kq ≤ k) ∧ Aside0 (Kd.R k25 25 wc w.heap.size (fun k_ => some k_ ≠ (v701 : Value).ownBlock ∧ some k_ ≠ ((.slice Ao27 t688.length co27) : Value).ownBlock ∧ some k_ ≠ ((.slice Ao30 t693.length co30) : Value).ownBlock ∧ some k_ ≠ ((.slice Ao31 t696.length co31) : Value).ownBlock) v685 t684) ∧ Aside0 (Kd.R k25 25 wc w.heap.size (fun k_ => some k_ ≠ (v685 : Value).ownBlock ∧ some k_ ≠ ((.slice Ao27 t688.length co27) : Value).ownBlock ∧ some k_ ≠ ((.slice Ao30 t693.length co30) : Value).ownBlock ∧ some k_ ≠ ((.slice Ao31 t696.length co31) : Value).ownBlock) v701 t700) ∧ Aside0 (Kd.R k25 25 wc w.heap.size (fun k_ => some k_ ≠ (v685 : Value).ownBlock ∧ some k_ ≠ (v701 : Value).ownBlock ∧ some k_ ≠ ((.slice Ao30 t693.length co30) : Value).ownBlock ∧ some k_ ≠ ((.slice Ao31 t696.length co31) : Value).ownBlock) (.slice Ao27 t688.length co27) t688) ∧ Aside0 (Kd.R k25 25 wc w.heap.size (fun k_ => some k_ ≠ (v685 : Value).ownBlock ∧ some k_ ≠ (v701 : Value).ownBlock ∧ some k_ ≠ ((.slice Ao27 t688.length co27) : Value).ownBlock ∧ some k_ ≠ ((.slice Ao31 t696.length co31) : Value).ownBlock) (.slice Ao30 t693.length co30) t693) ∧ Aside0 (Kd.R k25 25 wc w.heap.size (fun k_ => some k_ ≠ (v685 : Value).ownBlock ∧ some k_ ≠ (v701 : Value).ownBlock ∧ some k_ ≠ ((.slice Ao27 t688.length co27) : Value).ownBlock ∧ some k_ ≠ ((.slice Ao30 t693.length co30) : Value).ownBlock) (.slice Ao31 t696.length co31) t696) ∧ Aside0 (wc.heap[gb671]? = some (.cells #[(.slice A0_0 l0_0.length c0_0), .int .i64 a0_1, .bool a0_2, (.slice A0_3 l0_3.length c0_3), (.slice A0_4 l0_4.length c0_4)] 41 (0, 0))) ∧ Aside0 (wc.heap[gb699]? = some (.cells #[(.slice Ao27 t688.length co27), .int .i64 t691, .bool t692, (.slice Ao30 t693.length co30), (.slice Ao31 t696.length co31)] 27 (0, 0))) ∧ Aside0 (Below w.heap.size w wc))
 case first =>
  have H := HC14.out
  clear HC14
  replace H := Option.bind_eq_some_iff.mp H
  obtain ⟨t704, A330, H⟩ := H
  replace H : (if t704 = true then (laws_FnExactPsalmSing.j0 k a1 t684 t687 t700 t703 (t703 != t687) l0_0 a0_1 a0_2 l0_3 l0_4 t688 t691 t692 t693 t696) else (laws_FnExactPsalmSing.j0 k a1 t684 t687 t700 t703 true l0_0 a0_1 a0_2 l0_3 l0_4 t688 t691 t692 t693 t696)) = some r := H
  have A33 := Aside0.mk A330
  clear A330
  by_cases c34 : t704 = true
  ·subst c34
   have H1 : (laws_FnExactPsalmSing.j0 k a1 t684 t687 t700 t703 (t703 != t687) l0_0 a0_1 a0_2 l0_3 l0_4 t688 t691 t692 t693 t696) = some r := by rw [if_pos rfl] at H; exact H
   clear H
   have H := H1
   clear H1
   have H' := Aside0.mk H
   clear H
   obtain ⟨Ao35, co35, eo35⟩ := Kd.R_slice HO702.out
   subst eo35
   obtain ⟨Ao36, co36, eo36⟩ := Kd.R_slice HO686.out
   subst eo36
   go_wp2_with (first | ((with_reducible refine gate_callee (f := 36) rfl ?_); refine goesL_ (some 41) rfl rfl Tryd.func36 (by kernel_rfl) rfl #[.slice Ao35 t700.length co35, .slice Ao36 t684.length co36] rfl (by (try simp only [List.map_toArray, List.map_cons, List.map_nil]); first | done | rfl | (simp only [List.length_drop, List.length_take]; rfl)) ?_; (with_reducible refine (laws_eqToneS.calls k _ _ t700 _ _ t684 true _ ?side1 ?side2 ?side3 ?side4 A33.out).mono ?_); (case side1 => repeat (first | exact (Kd.R_reads' HO702.out).2.2 | (with_reducible refine Kd.C_alloc ?_ _) | (with_reducible refine Kd.C_drewN ?_ _) | (with_reducible refine Kd.C_drew ?_))); (case side2 => exact (Kd.R_reads' HO702.out).2.1); (case side3 => repeat (first | exact (Kd.R_reads' HO686.out).2.2 | (with_reducible refine Kd.C_alloc ?_ _) | (with_reducible refine Kd.C_drewN ?_ _) | (with_reducible refine Kd.C_drew ?_))); (case side4 => exact (Kd.R_reads' HO686.out).2.1); rintro e w37 ⟨rfl, hb⟩; refine ⟨_, rfl, ?_⟩; have n0_ := Aside0.mk (Kd.R_below (by (with_reducible repeat (first | apply Kd.R_alloc | apply Kd.R_drewN | apply Kd.R_drew)); exact HO675.out) hb); have n1_ := Aside0.mk (Kd.R_below (by (with_reducible repeat (first | apply Kd.R_alloc | apply Kd.R_drewN | apply Kd.R_drew)); exact HO680.out) hb); have n2_ := Aside0.mk (Kd.R_below (by (with_reducible repeat (first | apply Kd.R_alloc | apply Kd.R_drewN | apply Kd.R_drew)); exact HO683.out) hb); have n3_ := Aside0.mk (Kd.R_below (by (with_reducible repeat (first | apply Kd.R_alloc | apply Kd.R_drewN | apply Kd.R_drew)); exact HO686.out) hb); have n4_ := Aside0.mk (Kd.R_below (by (with_reducible repeat (first | apply Kd.R_alloc | apply Kd.R_drewN | apply Kd.R_drew)); exact HO690.out) hb); have n5_ := Aside0.mk (Kd.R_below (by (with_reducible repeat (first | apply Kd.R_alloc | apply Kd.R_drewN | apply Kd.R_drew)); exact HO695.out) hb); have n6_ := Aside0.mk (Kd.R_below (by (with_reducible repeat (first | apply Kd.R_alloc | apply Kd.R_drewN | apply Kd.R_drew)); exact HO698.out) hb); have n7_ := Aside0.mk (Kd.R_below (by (with_reducible repeat (first | apply Kd.R_alloc | apply Kd.R_drewN | apply Kd.R_drew)); exact HO702.out) hb); have n8_ := Aside0.mk (blk_below (g := gb671) (o := .cells #[.slice A0_0 l0_0.length c0_0, .int .i64 a0_1, .bool a0_2, .slice A0_3 l0_3.length c0_3, .slice A0_4 l0_4.length c0_4] 41 (0, 0)) (by (with_reducible repeat (first | refine blk_drewN ?_ _ | refine blk_drew ?_ | refine blk_alloc ?_ _)); exact BK671.out) hb); have n9_ := Aside0.mk (blk_below (g := gb699) (o := .cells #[.slice Ao27 t688.length co27, .int .i64 t691, .bool t692, .slice Ao30 t693.length co30, .slice Ao31 t696.length co31] 27 (0, 0)) (by (with_reducible repeat (first | refine blk_drewN ?_ _ | refine blk_drew ?_ | refine blk_alloc ?_ _)); exact BK699.out) hb); have n10_ := Aside0.mk (below_step (by repeat (first | (with_reducible first | exact HB.out | apply below_alloc | apply pw_below_drewN | apply below_drew1 | refine below_set ?_ GE671.out | refine below_set ?_ GE699.out) | exact HB.out)) hb); clear HO675; clear HO680; clear HO683; clear HO686; clear HO690; clear HO695; clear HO698; clear HO702; clear BK671; clear BK699; clear HB; have HO675 := n0_; have HO680 := n1_; have HO683 := n2_; have HO686 := n3_; have HO690 := n4_; have HO695 := n5_; have HO698 := n6_; have HO702 := n7_; have BK671 := n8_; have BK699 := n9_; have HB := n10_; clear n0_ n1_ n2_ n3_ n4_ n5_ n6_ n7_ n8_ n9_ n10_; (try clear hb); (try clear hb2); (try clear hk); (try clear hi)))
   go_meet
   case rel => exact ⟨_, ((t703 != t687)), (by first | rfl | (simp; done) | (simp [*]; done)), H', ⟨by first | omega | exact Nat.le_refl _⟩, ⟨by (with_reducible repeat (first | apply Kd.R_alloc | apply Kd.R_drewN | apply Kd.R_drew)); exact Kd.R_mono HO686.out (fun _ hk => ⟨hk.2, ⟨hk.1.1.1.2, ⟨hk.1.1.2, hk.1.2⟩⟩⟩)⟩, ⟨by (with_reducible repeat (first | apply Kd.R_alloc | apply Kd.R_drewN | apply Kd.R_drew)); exact Kd.R_mono HO702.out (fun _ hk => ⟨hk.1.1.1.2, ⟨hk.1.1.2, ⟨hk.1.2, hk.2⟩⟩⟩)⟩, ⟨by (with_reducible repeat (first | apply Kd.R_alloc | apply Kd.R_drewN | apply Kd.R_drew)); exact Kd.R_mono HO690.out (fun _ hk => ⟨hk.1.2, ⟨hk.2, ⟨hk.1.1.1.1.1.1, hk.1.1.1.1.1.2⟩⟩⟩)⟩, ⟨by (with_reducible repeat (first | apply Kd.R_alloc | apply Kd.R_drewN | apply Kd.R_drew)); exact Kd.R_mono HO695.out (fun _ hk => ⟨hk.1.2, ⟨hk.2, ⟨hk.1.1.1.1.1.1, hk.1.1.1.1.1.2⟩⟩⟩)⟩, ⟨by (with_reducible repeat (first | apply Kd.R_alloc | apply Kd.R_drewN | apply Kd.R_drew)); exact Kd.R_mono HO698.out (fun _ hk => ⟨hk.1.2, ⟨hk.2, ⟨hk.1.1.1.1.1.1, hk.1.1.1.1.1.2⟩⟩⟩)⟩, ⟨by (with_reducible repeat (first | refine blk_drewN ?_ _ | refine blk_drew ?_ | refine blk_alloc ?_ _)); exact BK671.out⟩, ⟨by (with_reducible repeat (first | refine blk_drewN ?_ _ | refine blk_drew ?_ | refine blk_alloc ?_ _)); exact BK699.out⟩, ⟨by repeat (first | (with_reducible first | exact HB.out | apply below_alloc | apply pw_below_drewN | apply below_drew1 | refine below_set ?_ GE671.out | refine below_set ?_ GE699.out) | exact HB.out)⟩⟩
  replace c34 := Bool.eq_false_iff.mpr c34
  subst c34
  have H1 : (laws_FnExactPsalmSing.j0 k a1 t684 t687 t700 t703 true l0_0 a0_1 a0_2 l0_3 l0_4 t688 t691 t692 t693 t696) = some r := by rw [if_neg (show ¬ (false = true) by decide)] at H; exact H
  clear H
  have H := H1
  clear H1
  have H' := Aside0.mk H
  clear H
  obtain ⟨Ao38, co38, eo38⟩ := Kd.R_slice HO702.out
  subst eo38
  obtain ⟨Ao39, co39, eo39⟩ := Kd.R_slice HO686.out
  subst eo39
  go_wp2_with (first | ((with_reducible refine gate_callee (f := 36) rfl ?_); refine goesL_ (some 41) rfl rfl Tryd.func36 (by kernel_rfl) rfl #[.slice Ao38 t700.length co38, .slice Ao39 t684.length co39] rfl (by (try simp only [List.map_toArray, List.map_cons, List.map_nil]); first | done | rfl | (simp only [List.length_drop, List.length_take]; rfl)) ?_; (with_reducible refine (laws_eqToneS.calls k _ _ t700 _ _ t684 false _ ?side1 ?side2 ?side3 ?side4 A33.out).mono ?_); (case side1 => repeat (first | exact (Kd.R_reads' HO702.out).2.2 | (with_reducible refine Kd.C_alloc ?_ _) | (with_reducible refine Kd.C_drewN ?_ _) | (with_reducible refine Kd.C_drew ?_))); (case side2 => exact (Kd.R_reads' HO702.out).2.1); (case side3 => repeat (first | exact (Kd.R_reads' HO686.out).2.2 | (with_reducible refine Kd.C_alloc ?_ _) | (with_reducible refine Kd.C_drewN ?_ _) | (with_reducible refine Kd.C_drew ?_))); (case side4 => exact (Kd.R_reads' HO686.out).2.1); rintro e w40 ⟨rfl, hb⟩; refine ⟨_, rfl, ?_⟩; have n0_ := Aside0.mk (Kd.R_below (by (with_reducible repeat (first | apply Kd.R_alloc | apply Kd.R_drewN | apply Kd.R_drew)); exact HO675.out) hb); have n1_ := Aside0.mk (Kd.R_below (by (with_reducible repeat (first | apply Kd.R_alloc | apply Kd.R_drewN | apply Kd.R_drew)); exact HO680.out) hb); have n2_ := Aside0.mk (Kd.R_below (by (with_reducible repeat (first | apply Kd.R_alloc | apply Kd.R_drewN | apply Kd.R_drew)); exact HO683.out) hb); have n3_ := Aside0.mk (Kd.R_below (by (with_reducible repeat (first | apply Kd.R_alloc | apply Kd.R_drewN | apply Kd.R_drew)); exact HO686.out) hb); have n4_ := Aside0.mk (Kd.R_below (by (with_reducible repeat (first | apply Kd.R_alloc | apply Kd.R_drewN | apply Kd.R_drew)); exact HO690.out) hb); have n5_ := Aside0.mk (Kd.R_below (by (with_reducible repeat (first | apply Kd.R_alloc | apply Kd.R_drewN | apply Kd.R_drew)); exact HO695.out) hb); have n6_ := Aside0.mk (Kd.R_below (by (with_reducible repeat (first | apply Kd.R_alloc | apply Kd.R_drewN | apply Kd.R_drew)); exact HO698.out) hb); have n7_ := Aside0.mk (Kd.R_below (by (with_reducible repeat (first | apply Kd.R_alloc | apply Kd.R_drewN | apply Kd.R_drew)); exact HO702.out) hb); have n8_ := Aside0.mk (blk_below (g := gb671) (o := .cells #[.slice A0_0 l0_0.length c0_0, .int .i64 a0_1, .bool a0_2, .slice A0_3 l0_3.length c0_3, .slice A0_4 l0_4.length c0_4] 41 (0, 0)) (by (with_reducible repeat (first | refine blk_drewN ?_ _ | refine blk_drew ?_ | refine blk_alloc ?_ _)); exact BK671.out) hb); have n9_ := Aside0.mk (blk_below (g := gb699) (o := .cells #[.slice Ao27 t688.length co27, .int .i64 t691, .bool t692, .slice Ao30 t693.length co30, .slice Ao31 t696.length co31] 27 (0, 0)) (by (with_reducible repeat (first | refine blk_drewN ?_ _ | refine blk_drew ?_ | refine blk_alloc ?_ _)); exact BK699.out) hb); have n10_ := Aside0.mk (below_step (by repeat (first | (with_reducible first | exact HB.out | apply below_alloc | apply pw_below_drewN | apply below_drew1 | refine below_set ?_ GE671.out | refine below_set ?_ GE699.out) | exact HB.out)) hb); clear HO675; clear HO680; clear HO683; clear HO686; clear HO690; clear HO695; clear HO698; clear HO702; clear BK671; clear BK699; clear HB; have HO675 := n0_; have HO680 := n1_; have HO683 := n2_; have HO686 := n3_; have HO690 := n4_; have HO695 := n5_; have HO698 := n6_; have HO702 := n7_; have BK671 := n8_; have BK699 := n9_; have HB := n10_; clear n0_ n1_ n2_ n3_ n4_ n5_ n6_ n7_ n8_ n9_ n10_; (try clear hb); (try clear hb2); (try clear hk); (try clear hi)))
  go_meet
  case rel => exact ⟨_, (true), (by first | rfl | (simp; done) | (simp [*]; done)), H', ⟨by first | omega | exact Nat.le_refl _⟩, ⟨by (with_reducible repeat (first | apply Kd.R_alloc | apply Kd.R_drewN | apply Kd.R_drew)); exact Kd.R_mono HO686.out (fun _ hk => ⟨hk.2, ⟨hk.1.1.1.2, ⟨hk.1.1.2, hk.1.2⟩⟩⟩)⟩, ⟨by (with_reducible repeat (first | apply Kd.R_alloc | apply Kd.R_drewN | apply Kd.R_drew)); exact Kd.R_mono HO702.out (fun _ hk => ⟨hk.1.1.1.2, ⟨hk.1.1.2, ⟨hk.1.2, hk.2⟩⟩⟩)⟩, ⟨by (with_reducible repeat (first | apply Kd.R_alloc | apply Kd.R_drewN | apply Kd.R_drew)); exact Kd.R_mono HO690.out (fun _ hk => ⟨hk.1.2, ⟨hk.2, ⟨hk.1.1.1.1.1.1, hk.1.1.1.1.1.2⟩⟩⟩)⟩, ⟨by (with_reducible repeat (first | apply Kd.R_alloc | apply Kd.R_drewN | apply Kd.R_drew)); exact Kd.R_mono HO695.out (fun _ hk => ⟨hk.1.2, ⟨hk.2, ⟨hk.1.1.1.1.1.1, hk.1.1.1.1.1.2⟩⟩⟩)⟩, ⟨by (with_reducible repeat (first | apply Kd.R_alloc | apply Kd.R_drewN | apply Kd.R_drew)); exact Kd.R_mono HO698.out (fun _ hk => ⟨hk.1.2, ⟨hk.2, ⟨hk.1.1.1.1.1.1, hk.1.1.1.1.1.2⟩⟩⟩)⟩, ⟨by (with_reducible repeat (first | refine blk_drewN ?_ _ | refine blk_drew ?_ | refine blk_alloc ?_ _)); exact BK671.out⟩, ⟨by (with_reducible repeat (first | refine blk_drewN ?_ _ | refine blk_drew ?_ | refine blk_alloc ?_ _)); exact BK699.out⟩, ⟨by repeat (first | (with_reducible first | exact HB.out | apply below_alloc | apply pw_below_drewN | apply below_drew1 | refine below_set ?_ GE671.out | refine below_set ?_ GE699.out) | exact HB.out)⟩⟩
 case rest =>
  clear HC14
  try clear c1
  try clear c2
  try clear p2
  try clear c3
  try clear c3b0
  try clear c3b1
  try clear c6
  try clear c6b0
  try clear c9
  try clear c19
  try clear c22
  try clear c24
  try clear c28
  try clear c34
  try clear c36
  try clear hcz16_0
  try clear hcz16_1
  try clear hcz16_2
  try clear hcz16_3
  try clear hcz16_4
  try clear hcz18_0
  try clear hcz18_1
  try clear hcz18_2
  try clear hcz18_3
  try clear hcz18_4
  try clear hcz24_0
  try clear hcz24_1
  try clear hcz24_2
  try clear hcz24_3
  try clear hcz24_4
  try clear hcz29_0
  try clear hcz29_1
  try clear hcz29_2
  try clear hcz29_3
  try clear hcz29_4
  try clear hcz8_0
  try clear hcz8_1
  try clear hcz8_2
  try clear hcz8_3
  try clear hcz8_4
  try clear hfz16_0
  try clear hfz16_1
  try clear hfz16_2
  try clear hfz16_3
  try clear hfz16_4
  try clear hfz18_0
  try clear hfz18_1
  try clear hfz18_2
  try clear hfz18_3
  try clear hfz18_4
  try clear hfz24_0
  try clear hfz24_1
  try clear hfz24_2
  try clear hfz24_3
  try clear hfz24_4
  try clear hfz29_0
  try clear hfz29_1
  try clear hfz29_2
  try clear hfz29_3
  try clear hfz29_4
  try clear hfz8_0
  try clear hfz8_1
  try clear hfz8_2
  try clear hfz8_3
  try clear hfz8_4
  obtain ⟨kq, x47_13, rfl, HA, HJ13, HO_6, HO_9, HO_700000, HO_700003, HO_700004, BK671, BK699, HB⟩ := hcut
  cases kq with
  | zero => exact absurd HA.out (by simp [laws_FnExactPsalmSing.j0])
  | succ kj13 =>
   have H := HA.out
   clear HA
   simp only [laws_FnExactPsalmSing.j0] at H
   by_cases c41 : x47_13 = true
   ·subst c41
    have H1 : (none) = some r := by rw [if_pos rfl] at H; exact H
    clear H
    have H := H1
    clear H1
    exact absurd H (by simp)
   replace c41 := Bool.eq_false_iff.mpr c41
   subst c41
   have H1 : ((laws_toPsalm.f kj13 l0_0 a0_1 a0_2 l0_3 l0_4).bind fun bt705 => ((laws_eqPsalm.f kj13 t688 t691 t692 t693 t696 bt705.1 bt705.2.1 bt705.2.2.1 bt705.2.2.2.1 bt705.2.2.2.2).bind fun t716 => (if t716 = true then ((laws_markPsalm.f kj13 t688 t691 t692 t693 t696 1).bind fun bt717 => (if bt717.1 < 0 then (laws_FnExactPsalmSing.j1 kj13 a1 t684 t687 t700 true l0_0 a0_1 a0_2 l0_3 l0_4) else ((laws_eqToneS.f kj13 t700 t684).bind fun t721 => (if t721 = true then (laws_FnExactPsalmSing.j1 kj13 a1 t684 t687 t700 (t703 != t687) l0_0 a0_1 a0_2 l0_3 l0_4) else (laws_FnExactPsalmSing.j1 kj13 a1 t684 t687 t700 true l0_0 a0_1 a0_2 l0_3 l0_4))))) else (none)))) = some r := by rw [if_neg (show ¬ (false = true) by decide)] at H; exact H
   clear H
   have H := H1
   clear H1
   replace H := Option.bind_eq_some_iff.mp H
   obtain ⟨⟨t705, t708, t709, t710, t713⟩, A420, H⟩ := H
   replace H : ((laws_eqPsalm.f kj13 t688 t691 t692 t693 t696 t705 t708 t709 t710 t713).bind fun t716 => (if t716 = true then ((laws_markPsalm.f kj13 t688 t691 t692 t693 t696 1).bind fun bt717 => (if bt717.1 < 0 then (laws_FnExactPsalmSing.j1 kj13 a1 t684 t687 t700 true l0_0 a0_1 a0_2 l0_3 l0_4) else ((laws_eqToneS.f kj13 t700 t684).bind fun t721 => (if t721 = true then (laws_FnExactPsalmSing.j1 kj13 a1 t684 t687 t700 (t703 != t687) l0_0 a0_1 a0_2 l0_3 l0_4) else (laws_FnExactPsalmSing.j1 kj13 a1 t684 t687 t700 true l0_0 a0_1 a0_2 l0_3 l0_4))))) else (none))) = some r := H
   have A42 := Aside0.mk A420
   clear A420
   replace H := Option.bind_eq_some_iff.mp H
   obtain ⟨t716, A430, H⟩ := H
   replace H : (if t716 = true then ((laws_markPsalm.f kj13 t688 t691 t692 t693 t696 1).bind fun bt717 => (if bt717.1 < 0 then (laws_FnExactPsalmSing.j1 kj13 a1 t684 t687 t700 true l0_0 a0_1 a0_2 l0_3 l0_4) else ((laws_eqToneS.f kj13 t700 t684).bind fun t721 => (if t721 = true then (laws_FnExactPsalmSing.j1 kj13 a1 t684 t687 t700 (t703 != t687) l0_0 a0_1 a0_2 l0_3 l0_4) else (laws_FnExactPsalmSing.j1 kj13 a1 t684 t687 t700 true l0_0 a0_1 a0_2 l0_3 l0_4))))) else (none)) = some r := H
   have A43 := Aside0.mk A430
   clear A430
   by_cases c44 : t716 = true
   rotate_left
   ·replace c44 := Bool.eq_false_iff.mpr c44
    subst c44
    have H1 : (none) = some r := by rw [if_neg (show ¬ (false = true) by decide)] at H; exact H
    clear H
    have H := H1
    clear H1
    exact absurd H (by simp)
   subst c44
   have H1 : ((laws_markPsalm.f kj13 t688 t691 t692 t693 t696 1).bind fun bt717 => (if bt717.1 < 0 then (laws_FnExactPsalmSing.j1 kj13 a1 t684 t687 t700 true l0_0 a0_1 a0_2 l0_3 l0_4) else ((laws_eqToneS.f kj13 t700 t684).bind fun t721 => (if t721 = true then (laws_FnExactPsalmSing.j1 kj13 a1 t684 t687 t700 (t703 != t687) l0_0 a0_1 a0_2 l0_3 l0_4) else (laws_FnExactPsalmSing.j1 kj13 a1 t684 t687 t700 true l0_0 a0_1 a0_2 l0_3 l0_4))))) = some r := by rw [if_pos rfl] at H; exact H
   clear H
   have H := H1
   clear H1
   replace H := Option.bind_eq_some_iff.mp H
   obtain ⟨⟨t717, t718, t719, t720⟩, A450, H⟩ := H
   replace H : (if t717 < 0 then (laws_FnExactPsalmSing.j1 kj13 a1 t684 t687 t700 true l0_0 a0_1 a0_2 l0_3 l0_4) else ((laws_eqToneS.f kj13 t700 t684).bind fun t721 => (if t721 = true then (laws_FnExactPsalmSing.j1 kj13 a1 t684 t687 t700 (t703 != t687) l0_0 a0_1 a0_2 l0_3 l0_4) else (laws_FnExactPsalmSing.j1 kj13 a1 t684 t687 t700 true l0_0 a0_1 a0_2 l0_3 l0_4)))) = some r := H
   have A45 := Aside0.mk A450
   clear A450
   have HC46 := Aside0.mk H
   clear H
   try go_wp2
   have n0_ := Aside0.mk (Kd.R_drew HO_6.out)
   have n1_ := Aside0.mk (Kd.R_drew HO_9.out)
   have n2_ := Aside0.mk (Kd.R_drew HO_700000.out)
   have n3_ := Aside0.mk (Kd.R_drew HO_700003.out)
   have n4_ := Aside0.mk (Kd.R_drew HO_700004.out)
   have n5_ := Aside0.mk (blk_drew BK671.out)
   have n6_ := Aside0.mk (blk_drew BK699.out)
   have n7_ := Aside0.mk (below_drew1 HB.out)
   clear HO_6
   clear HO_9
   clear HO_700000
   clear HO_700003
   clear HO_700004
   clear BK671
   clear BK699
   clear HB
   have HO_6 := n0_
   have HO_9 := n1_
   have HO_700000 := n2_
   have HO_700003 := n3_
   have HO_700004 := n4_
   have BK671 := n5_
   have BK699 := n6_
   have HB := n7_
   clear n0_ n1_ n2_ n3_ n4_ n5_ n6_ n7_
   refine start_ (n := 5) (S := fun w' => w'.cell? ⟨gb699, 0, none⟩ = some (.slice Ao27 t688.length co27) ∧ w'.cell? ⟨gb699, 1, none⟩ = some (.int .i64 t691) ∧ w'.cell? ⟨gb699, 2, none⟩ = some (.bool t692) ∧ w'.cell? ⟨gb699, 3, none⟩ = some (.slice Ao30 t693.length co30) ∧ w'.cell? ⟨gb699, 4, none⟩ = some (.slice Ao31 t696.length co31) ∧ w'.cell? ⟨gb671, 0, none⟩ = some (.slice A0_0 l0_0.length c0_0) ∧ w'.cell? ⟨gb671, 1, none⟩ = some (.int .i64 a0_1) ∧ w'.cell? ⟨gb671, 2, none⟩ = some (.bool a0_2) ∧ w'.cell? ⟨gb671, 3, none⟩ = some (.slice A0_3 l0_3.length c0_3) ∧ w'.cell? ⟨gb671, 4, none⟩ = some (.slice A0_4 l0_4.length c0_4)) (ds := []) #[false, false, false, false, false] (by kernel_rfl) rfl rfl ⟨(blk_cell BK699.out 0).trans rfl, (blk_cell BK699.out 1).trans rfl, (blk_cell BK699.out 2).trans rfl, (blk_cell BK699.out 3).trans rfl, (blk_cell BK699.out 4).trans rfl, (blk_cell BK671.out 0).trans rfl, (blk_cell BK671.out 1).trans rfl, (blk_cell BK671.out 2).trans rfl, (blk_cell BK671.out 3).trans rfl, (blk_cell BK671.out 4).trans rfl⟩ (fun hHeld => ?_)
   generalize wc.drew = w47 at HO_6 HO_9 HO_700000 HO_700003 HO_700004 BK671 BK699 HB hHeld ⊢
   refine take_ (i := 0) (N := some 48) (v := ?_) (a' := ?_) #[true, false, false, false, false] rfl rfl (by kernel_rfl) (fun _ _ _ h => h) (Or.inl ⟨by rfl, ?_⟩) hHeld ?_ ?_
   rotate_left
   ·rintro w' ⟨s0, s1, s2, s3, s4, s5, s6, s7, s8, s9⟩
    go_simp
    with_reducible rfl
   rotate_left
   ·simp only [Act.put, List.setIfInBounds_toArray, List.set_cons_zero, List.set_cons_succ, i64_w, i32_w]
    rfl
   refine take_ (i := 1) (N := some 49) (v := ?_) (a' := ?_) #[true, true, false, false, false] rfl rfl (by kernel_rfl) (fun _ _ _ h => h) (Or.inl ⟨by rfl, ?_⟩) hHeld ?_ ?_
   rotate_left
   ·rintro w' ⟨s0, s1, s2, s3, s4, s5, s6, s7, s8, s9⟩
    go_simp
    with_reducible rfl
   rotate_left
   ·simp only [Act.put, List.setIfInBounds_toArray, List.set_cons_zero, List.set_cons_succ, i64_w, i32_w]
    rfl
   refine one_ (i := 2) (N := some 50) #[true, true, true, false, false] rfl rfl (by kernel_rfl) (by decide) (fun K hK => ?_)
   refine goes_ Tryd.func24 (by kernel_rfl) rfl #[.agg #[.slice A0_0 l0_0.length c0_0, .int .i64 a0_1, .bool a0_2, .slice A0_3 l0_3.length c0_3, .slice A0_4 l0_4.length c0_4]] (by rfl) rfl rfl (by (try simp only [List.map_toArray, List.map_cons, List.map_nil]); first | done | rfl | (simp only [List.length_drop, List.length_take]; rfl)) ?_
   with_reducible refine (laws_toPsalm.calls kj13 _ _ l0_0 a0_1 a0_2 _ _ l0_3 _ _ l0_4 t705 t708 t709 t710 t713 _ ?side1 ?side2 ?side3 ?side4 ?side5 ?side6 A42.out).mono ?_
   (case side1 => repeat (first | exact (Kd.C_below HR0_0.out HB.out) | (with_reducible refine Kd.C_alloc ?_ _) | (with_reducible refine Kd.C_drewN ?_ _) | (with_reducible refine Kd.C_drew ?_)))
   (case side2 => exact HC0_0.out)
   (case side3 => repeat (first | exact (Kd.C_below HR0_3.out HB.out) | (with_reducible refine Kd.C_alloc ?_ _) | (with_reducible refine Kd.C_drewN ?_ _) | (with_reducible refine Kd.C_drew ?_)))
   (case side4 => exact HC0_3.out)
   (case side5 => repeat (first | exact (Kd.C_below HR0_4.out HB.out) | (with_reducible refine Kd.C_alloc ?_ _) | (with_reducible refine Kd.C_drewN ?_ _) | (with_reducible refine Kd.C_drew ?_)))
   (case side6 => exact HC0_4.out)
   rintro e w48 ⟨v706, v711, v714, rfl, ho0, ho1, ho2, hb⟩
   refine ⟨_, rfl, ?_⟩
   have n0_ := Aside0.mk (Kd.R_mono (Kd.R_told (Kd.R_told (Kd.R_told (Kd.R_old (by (with_reducible repeat (first | apply Kd.R_alloc | apply Kd.R_drewN | apply Kd.R_drew)); exact HO_6.out) hb) (Kd.R_base ho0)) (Kd.R_base ho1)) (Kd.R_base ho2)) (fun _ h_ => h_.1))
   have n1_ := Aside0.mk (Kd.R_mono (Kd.R_told (Kd.R_told (Kd.R_told (Kd.R_old (by (with_reducible repeat (first | apply Kd.R_alloc | apply Kd.R_drewN | apply Kd.R_drew)); exact HO_9.out) hb) (Kd.R_base ho0)) (Kd.R_base ho1)) (Kd.R_base ho2)) (fun _ h_ => h_.1))
   have n2_ := Aside0.mk (Kd.R_mono (Kd.R_told (Kd.R_told (Kd.R_told (Kd.R_old (by (with_reducible repeat (first | apply Kd.R_alloc | apply Kd.R_drewN | apply Kd.R_drew)); exact HO_700000.out) hb) (Kd.R_base ho0)) (Kd.R_base ho1)) (Kd.R_base ho2)) (fun _ h_ => h_.1))
   have n3_ := Aside0.mk (Kd.R_mono (Kd.R_told (Kd.R_told (Kd.R_told (Kd.R_old (by (with_reducible repeat (first | apply Kd.R_alloc | apply Kd.R_drewN | apply Kd.R_drew)); exact HO_700003.out) hb) (Kd.R_base ho0)) (Kd.R_base ho1)) (Kd.R_base ho2)) (fun _ h_ => h_.1))
   have n4_ := Aside0.mk (Kd.R_mono (Kd.R_told (Kd.R_told (Kd.R_told (Kd.R_old (by (with_reducible repeat (first | apply Kd.R_alloc | apply Kd.R_drewN | apply Kd.R_drew)); exact HO_700004.out) hb) (Kd.R_base ho0)) (Kd.R_base ho1)) (Kd.R_base ho2)) (fun _ h_ => h_.1))
   have n5_ := Aside0.mk (Kd.R_lower (Kd.R_new' (Kd.R_new' (Kd.R_new' (Kd.R_new' (Kd.R_new' ho0 (Kd.R_lt (by (with_reducible repeat (first | apply Kd.R_alloc | apply Kd.R_drewN | apply Kd.R_drew)); exact HO_6.out))) (Kd.R_lt (by (with_reducible repeat (first | apply Kd.R_alloc | apply Kd.R_drewN | apply Kd.R_drew)); exact HO_9.out))) (Kd.R_lt (by (with_reducible repeat (first | apply Kd.R_alloc | apply Kd.R_drewN | apply Kd.R_drew)); exact HO_700000.out))) (Kd.R_lt (by (with_reducible repeat (first | apply Kd.R_alloc | apply Kd.R_drewN | apply Kd.R_drew)); exact HO_700003.out))) (Kd.R_lt (by (with_reducible repeat (first | apply Kd.R_alloc | apply Kd.R_drewN | apply Kd.R_drew)); exact HO_700004.out))) (below_size (by repeat (first | (with_reducible first | exact HB.out | apply below_alloc | apply pw_below_drewN | apply below_drew1 | refine below_set ?_ GE671.out | refine below_set ?_ GE699.out) | exact HB.out))))
   have n6_ := Aside0.mk (Kd.R_lower (Kd.R_new' (Kd.R_new' (Kd.R_new' (Kd.R_new' (Kd.R_new' ho1 (Kd.R_lt (by (with_reducible repeat (first | apply Kd.R_alloc | apply Kd.R_drewN | apply Kd.R_drew)); exact HO_6.out))) (Kd.R_lt (by (with_reducible repeat (first | apply Kd.R_alloc | apply Kd.R_drewN | apply Kd.R_drew)); exact HO_9.out))) (Kd.R_lt (by (with_reducible repeat (first | apply Kd.R_alloc | apply Kd.R_drewN | apply Kd.R_drew)); exact HO_700000.out))) (Kd.R_lt (by (with_reducible repeat (first | apply Kd.R_alloc | apply Kd.R_drewN | apply Kd.R_drew)); exact HO_700003.out))) (Kd.R_lt (by (with_reducible repeat (first | apply Kd.R_alloc | apply Kd.R_drewN | apply Kd.R_drew)); exact HO_700004.out))) (below_size (by repeat (first | (with_reducible first | exact HB.out | apply below_alloc | apply pw_below_drewN | apply below_drew1 | refine below_set ?_ GE671.out | refine below_set ?_ GE699.out) | exact HB.out))))
   have n7_ := Aside0.mk (Kd.R_lower (Kd.R_new' (Kd.R_new' (Kd.R_new' (Kd.R_new' (Kd.R_new' ho2 (Kd.R_lt (by (with_reducible repeat (first | apply Kd.R_alloc | apply Kd.R_drewN | apply Kd.R_drew)); exact HO_6.out))) (Kd.R_lt (by (with_reducible repeat (first | apply Kd.R_alloc | apply Kd.R_drewN | apply Kd.R_drew)); exact HO_9.out))) (Kd.R_lt (by (with_reducible repeat (first | apply Kd.R_alloc | apply Kd.R_drewN | apply Kd.R_drew)); exact HO_700000.out))) (Kd.R_lt (by (with_reducible repeat (first | apply Kd.R_alloc | apply Kd.R_drewN | apply Kd.R_drew)); exact HO_700003.out))) (Kd.R_lt (by (with_reducible repeat (first | apply Kd.R_alloc | apply Kd.R_drewN | apply Kd.R_drew)); exact HO_700004.out))) (below_size (by repeat (first | (with_reducible first | exact HB.out | apply below_alloc | apply pw_below_drewN | apply below_drew1 | refine below_set ?_ GE671.out | refine below_set ?_ GE699.out) | exact HB.out))))
   have n8_ := Aside0.mk (blk_below (g := gb671) (o := .cells #[.slice A0_0 l0_0.length c0_0, .int .i64 a0_1, .bool a0_2, .slice A0_3 l0_3.length c0_3, .slice A0_4 l0_4.length c0_4] 41 (0, 0)) (by (with_reducible repeat (first | refine blk_drewN ?_ _ | refine blk_drew ?_ | refine blk_alloc ?_ _)); exact BK671.out) hb)
   have n9_ := Aside0.mk (blk_below (g := gb699) (o := .cells #[.slice Ao27 t688.length co27, .int .i64 t691, .bool t692, .slice Ao30 t693.length co30, .slice Ao31 t696.length co31] 27 (0, 0)) (by (with_reducible repeat (first | refine blk_drewN ?_ _ | refine blk_drew ?_ | refine blk_alloc ?_ _)); exact BK699.out) hb)
   have n10_ := Aside0.mk (below_step (by repeat (first | (with_reducible first | exact HB.out | apply below_alloc | apply pw_below_drewN | apply below_drew1 | refine below_set ?_ GE671.out | refine below_set ?_ GE699.out) | exact HB.out)) hb)
   clear HO_6
   clear HO_9
   clear HO_700000
   clear HO_700003
   clear HO_700004
   clear BK671
   clear BK699
   clear HB
   have HO_6 := n0_
   have HO_9 := n1_
   have HO_700000 := n2_
   have HO_700003 := n3_
   have HO_700004 := n4_
   have HO707 := n5_
   have HO712 := n6_
   have HO715 := n7_
   have BK671 := n8_
   have BK699 := n9_
   have HB := n10_
   clear n0_ n1_ n2_ n3_ n4_ n5_ n6_ n7_ n8_ n9_ n10_
   (try clear hb)
   (try clear hb2)
   (try clear hk)
   (try clear hi)
   (try clear ho0)
   (try clear ho1)
   (try clear ho2)
   obtain ⟨Ao49, co49, eo49⟩ := Kd.R_slice HO707.out
   (first | subst eo49 | (injection eo49 with f1_ f2_ f3_; have f4_ := f1_.symm; have f5_ := f3_.symm; clear f1_ f2_ f3_; subst f4_; subst f5_))
   obtain ⟨Ao50, co50, eo50⟩ := Kd.R_slice HO712.out
   (first | subst eo50 | (injection eo50 with f1_ f2_ f3_; have f4_ := f1_.symm; have f5_ := f3_.symm; clear f1_ f2_ f3_; subst f4_; subst f5_))
   obtain ⟨Ao51, co51, eo51⟩ := Kd.R_slice HO715.out
   (first | subst eo51 | (injection eo51 with f1_ f2_ f3_; have f4_ := f1_.symm; have f5_ := f3_.symm; clear f1_ f2_ f3_; subst f4_; subst f5_))
   refine hK.out _ _ ⟨(blk_cell BK699.out 0).trans rfl, (blk_cell BK699.out 1).trans rfl, (blk_cell BK699.out 2).trans rfl, (blk_cell BK699.out 3).trans rfl, (blk_cell BK699.out 4).trans rfl, (blk_cell BK671.out 0).trans rfl, (blk_cell BK671.out 1).trans rfl, (blk_cell BK671.out 2).trans rfl, (blk_cell BK671.out 3).trans rfl, (blk_cell BK671.out 4).trans rfl⟩ (fun hHeld => ?_)
   clear hK K
   refine norm_ (a' := ?_) ?_ ?_
   rotate_left
   ·show Act.put _ (some 50) _ = _
    simp only [Act.put, List.setIfInBounds_toArray, List.set_cons_zero, List.set_cons_succ, i64_w, i32_w]
    rfl
   refine one_ (i := 3) (N := some 51) #[true, true, true, true, false] rfl rfl (by kernel_rfl) (by decide) (fun K hK => ?_)
   refine goes_ Tryd.func26 (by kernel_rfl) rfl #[.agg #[.slice Ao27 t688.length co27, .int .i64 t691, .bool t692, .slice Ao30 t693.length co30, .slice Ao31 t696.length co31], .agg #[.slice Ao49 t705.length co49, .int .i64 t708, .bool t709, .slice Ao50 t710.length co50, .slice Ao51 t713.length co51]] (by rfl) rfl rfl (by (try simp only [List.map_toArray, List.map_cons, List.map_nil]); first | done | rfl | (simp only [List.length_drop, List.length_take]; rfl)) ?_
   with_reducible refine (laws_eqPsalm.calls kj13 _ _ t688 t691 t692 _ _ t693 _ _ t696 _ _ t705 t708 t709 _ _ t710 _ _ t713 true _ ?side1 ?side2 ?side3 ?side4 ?side5 ?side6 ?side7 ?side8 ?side9 ?side10 ?side11 ?side12 A43.out).mono ?_
   (case side1 => repeat (first | exact (Kd.R_reads' HO_700000.out).2.2 | (with_reducible refine Kd.C_alloc ?_ _) | (with_reducible refine Kd.C_drewN ?_ _) | (with_reducible refine Kd.C_drew ?_)))
   (case side2 => exact (Kd.R_reads' HO_700000.out).2.1)
   (case side3 => repeat (first | exact (Kd.R_reads' HO_700003.out).2.2 | (with_reducible refine Kd.C_alloc ?_ _) | (with_reducible refine Kd.C_drewN ?_ _) | (with_reducible refine Kd.C_drew ?_)))
   (case side4 => exact (Kd.R_reads' HO_700003.out).2.1)
   (case side5 => repeat (first | exact (Kd.R_reads' HO_700004.out).2.2 | (with_reducible refine Kd.C_alloc ?_ _) | (with_reducible refine Kd.C_drewN ?_ _) | (with_reducible refine Kd.C_drew ?_)))
   (case side6 => exact (Kd.R_reads' HO_700004.out).2.1)
   (case side7 => repeat (first | exact (Kd.R_reads' HO707.out).2.2 | (with_reducible refine Kd.C_alloc ?_ _) | (with_reducible refine Kd.C_drewN ?_ _) | (with_reducible refine Kd.C_drew ?_)))
   (case side8 => exact (Kd.R_reads' HO707.out).2.1)
   (case side9 => repeat (first | exact (Kd.R_reads' HO712.out).2.2 | (with_reducible refine Kd.C_alloc ?_ _) | (with_reducible refine Kd.C_drewN ?_ _) | (with_reducible refine Kd.C_drew ?_)))
   (case side10 => exact (Kd.R_reads' HO712.out).2.1)
   (case side11 => repeat (first | exact (Kd.R_reads' HO715.out).2.2 | (with_reducible refine Kd.C_alloc ?_ _) | (with_reducible refine Kd.C_drewN ?_ _) | (with_reducible refine Kd.C_drew ?_)))
   (case side12 => exact (Kd.R_reads' HO715.out).2.1)
   rintro e w52 ⟨rfl, hb⟩
   refine ⟨_, rfl, ?_⟩
   have n0_ := Aside0.mk (Kd.R_below (by (with_reducible repeat (first | apply Kd.R_alloc | apply Kd.R_drewN | apply Kd.R_drew)); exact HO_6.out) hb)
   have n1_ := Aside0.mk (Kd.R_below (by (with_reducible repeat (first | apply Kd.R_alloc | apply Kd.R_drewN | apply Kd.R_drew)); exact HO_9.out) hb)
   have n2_ := Aside0.mk (Kd.R_below (by (with_reducible repeat (first | apply Kd.R_alloc | apply Kd.R_drewN | apply Kd.R_drew)); exact HO_700000.out) hb)
   have n3_ := Aside0.mk (Kd.R_below (by (with_reducible repeat (first | apply Kd.R_alloc | apply Kd.R_drewN | apply Kd.R_drew)); exact HO_700003.out) hb)
   have n4_ := Aside0.mk (Kd.R_below (by (with_reducible repeat (first | apply Kd.R_alloc | apply Kd.R_drewN | apply Kd.R_drew)); exact HO_700004.out) hb)
   have n5_ := Aside0.mk (Kd.R_below (by (with_reducible repeat (first | apply Kd.R_alloc | apply Kd.R_drewN | apply Kd.R_drew)); exact HO707.out) hb)
   have n6_ := Aside0.mk (Kd.R_below (by (with_reducible repeat (first | apply Kd.R_alloc | apply Kd.R_drewN | apply Kd.R_drew)); exact HO712.out) hb)
   have n7_ := Aside0.mk (Kd.R_below (by (with_reducible repeat (first | apply Kd.R_alloc | apply Kd.R_drewN | apply Kd.R_drew)); exact HO715.out) hb)
   have n8_ := Aside0.mk (blk_below (g := gb671) (o := .cells #[.slice A0_0 l0_0.length c0_0, .int .i64 a0_1, .bool a0_2, .slice A0_3 l0_3.length c0_3, .slice A0_4 l0_4.length c0_4] 41 (0, 0)) (by (with_reducible repeat (first | refine blk_drewN ?_ _ | refine blk_drew ?_ | refine blk_alloc ?_ _)); exact BK671.out) hb)
   have n9_ := Aside0.mk (blk_below (g := gb699) (o := .cells #[.slice Ao27 t688.length co27, .int .i64 t691, .bool t692, .slice Ao30 t693.length co30, .slice Ao31 t696.length co31] 27 (0, 0)) (by (with_reducible repeat (first | refine blk_drewN ?_ _ | refine blk_drew ?_ | refine blk_alloc ?_ _)); exact BK699.out) hb)
   have n10_ := Aside0.mk (below_step (by repeat (first | (with_reducible first | exact HB.out | apply below_alloc | apply pw_below_drewN | apply below_drew1 | refine below_set ?_ GE671.out | refine below_set ?_ GE699.out) | exact HB.out)) hb)
   clear HO_6
   clear HO_9
   clear HO_700000
   clear HO_700003
   clear HO_700004
   clear HO707
   clear HO712
   clear HO715
   clear BK671
   clear BK699
   clear HB
   have HO_6 := n0_
   have HO_9 := n1_
   have HO_700000 := n2_
   have HO_700003 := n3_
   have HO_700004 := n4_
   have HO707 := n5_
   have HO712 := n6_
   have HO715 := n7_
   have BK671 := n8_
   have BK699 := n9_
   have HB := n10_
   clear n0_ n1_ n2_ n3_ n4_ n5_ n6_ n7_ n8_ n9_ n10_
   (try clear hb)
   (try clear hb2)
   (try clear hk)
   (try clear hi)
   refine hK.out _ _ ⟨(blk_cell BK699.out 0).trans rfl, (blk_cell BK699.out 1).trans rfl, (blk_cell BK699.out 2).trans rfl, (blk_cell BK699.out 3).trans rfl, (blk_cell BK699.out 4).trans rfl, (blk_cell BK671.out 0).trans rfl, (blk_cell BK671.out 1).trans rfl, (blk_cell BK671.out 2).trans rfl, (blk_cell BK671.out 3).trans rfl, (blk_cell BK671.out 4).trans rfl⟩ (fun hHeld => ?_)
   clear hK K
   refine norm_ (a' := ?_) ?_ ?_
   rotate_left
   ·show Act.put _ (some 51) _ = _
    simp only [Act.put, List.setIfInBounds_toArray, List.set_cons_zero, List.set_cons_succ, i64_w, i32_w]
    rfl
   refine pure_ (i := 4) (N := some 52) (v := ?_) (a' := ?_) #[true, true, true, true, true] rfl rfl (by kernel_rfl) (fun _ _ _ h => h) (Or.inl ⟨by rfl, ?_⟩) ?_ ?_
   rotate_left
   ·intro w'
    go_simp
    with_reducible rfl
   rotate_left
   ·simp only [Act.put, List.setIfInBounds_toArray, List.set_cons_zero, List.set_cons_succ, i64_w, i32_w]
    rfl
   refine done_ (by kernel_rfl) ?_
   have hnb53 := NB699_671.out
   have hnc53 := NB671_699.out
   have hcz54_0 : w52.cell? ⟨gb699, 0, none⟩ = some (.slice Ao27 t688.length co27) := (blk_cell BK699.out 0).trans rfl
   have hcz54_1 : w52.cell? ⟨gb699, 1, none⟩ = some (.int .i64 t691) := (blk_cell BK699.out 1).trans rfl
   have hcz54_2 : w52.cell? ⟨gb699, 2, none⟩ = some (.bool t692) := (blk_cell BK699.out 2).trans rfl
   have hcz54_3 : w52.cell? ⟨gb699, 3, none⟩ = some (.slice Ao30 t693.length co30) := (blk_cell BK699.out 3).trans rfl
   have hcz54_4 : w52.cell? ⟨gb699, 4, none⟩ = some (.slice Ao31 t696.length co31) := (blk_cell BK699.out 4).trans rfl
   have hfz54_0 := blk_frozen BK699.out 0
   have hfz54_1 := blk_frozen BK699.out 1
   have hfz54_2 := blk_frozen BK699.out 2
   have hfz54_3 := blk_frozen BK699.out 3
   have hfz54_4 := blk_frozen BK699.out 4
   go_upto_region 16 with (first | ((with_reducible refine gate_callee (f := 37) rfl ?_); refine goesL_ (some 55) rfl rfl Tryd.func37 (by kernel_rfl) rfl #[.agg #[.slice Ao27 t688.length co27, .int .i64 t691, .bool t692, .slice Ao30 t693.length co30, .slice Ao31 t696.length co31], .int .i64 1] rfl (by (try simp only [List.map_toArray, List.map_cons, List.map_nil]); first | done | rfl | (simp only [List.length_drop, List.length_take]; rfl)) ?_; (with_reducible refine (laws_markPsalm.calls kj13 (fun k_ => some k_ = (.slice Ao27 t688.length co27 : Value).ownBlock) (.slice Ao27 t688.length co27) t688 t691 t692 (fun k_ => some k_ = (.slice Ao30 t693.length co30 : Value).ownBlock) (.slice Ao30 t693.length co30) t693 (fun k_ => some k_ = (.slice Ao31 t696.length co31 : Value).ownBlock) (.slice Ao31 t696.length co31) t696 1 t717 t718 t719 t720 w _ ?side1 ?side2 ?side3 ?side4 ?side5 ?side6 ?side7 ?side8 ?side9 ?side10 A45.out).mono ?_); (case side1 => repeat (first | (with_reducible first | exact HB.out | apply below_alloc | apply pw_below_drewN | apply below_drew1 | refine below_set ?_ GE671.out | refine below_set ?_ GE699.out) | exact HB.out)); (case side2 => exact Kd.R_tight rfl HO_700000.out); (case side3 => exact fun k_ e_ => (HO_700000.out.1 k_ e_.symm).1.1.1.2.2.1); (case side4 => exact fun k_ e_ => (HO_700000.out.1 k_ e_.symm).1.1.1.2.2.2); (case side5 => exact Kd.R_tight rfl HO_700003.out); (case side6 => exact fun k_ e_ => (HO_700003.out.1 k_ e_.symm).1.1.1.2.2.1); (case side7 => exact fun k_ e_ => (HO_700003.out.1 k_ e_.symm).1.1.1.2.2.2); (case side8 => exact Kd.R_tight rfl HO_700004.out); (case side9 => exact fun k_ e_ => (HO_700004.out.1 k_ e_.symm).1.1.1.2.2.1); (case side10 => exact fun k_ e_ => (HO_700004.out.1 k_ e_.symm).1.1.1.2.2.2); rintro e w55 ⟨rfl, hy0, hy1, hy2, hb, hkp⟩; refine ⟨_, rfl, ?_⟩; have n0_ := Aside0.mk (Kd.R_mono (ok' := fun k_ => some k_ ≠ (v701 : Value).ownBlock ∧ some k_ ≠ (.slice Ao27 t688.length co27 : Value).ownBlock ∧ some k_ ≠ (.slice Ao30 t693.length co30 : Value).ownBlock ∧ some k_ ≠ (.slice Ao31 t696.length co31 : Value).ownBlock ∧ some k_ ≠ (.slice Ao49 t705.length co49 : Value).ownBlock ∧ some k_ ≠ (.slice Ao50 t710.length co50 : Value).ownBlock ∧ some k_ ≠ (.slice Ao51 t713.length co51 : Value).ownBlock) (Kd.R_keptB (HO_6.out) hkp (fun k_ hk_ hs_ => Or.elim hs_ (fun e_ => (hk_.1.1.1.2.1) e_) (fun e_ => Or.elim e_ (fun e_ => (hk_.1.1.1.2.2.1) e_) (fun e_ => (hk_.1.1.1.2.2.2) e_)))) (fun k_ hk_ => ⟨hk_.1.1.1.1.1, hk_.1.1.1.1.2.1, hk_.1.1.1.1.2.2.1, hk_.1.1.1.1.2.2.2, hk_.1.1.1.2, hk_.1.1.2, hk_.1.2⟩)); have n1_ := Aside0.mk (Kd.R_mono (ok' := fun k_ => some k_ ≠ (v685 : Value).ownBlock ∧ some k_ ≠ (.slice Ao27 t688.length co27 : Value).ownBlock ∧ some k_ ≠ (.slice Ao30 t693.length co30 : Value).ownBlock ∧ some k_ ≠ (.slice Ao31 t696.length co31 : Value).ownBlock ∧ some k_ ≠ (.slice Ao49 t705.length co49 : Value).ownBlock ∧ some k_ ≠ (.slice Ao50 t710.length co50 : Value).ownBlock ∧ some k_ ≠ (.slice Ao51 t713.length co51 : Value).ownBlock) (Kd.R_keptB (HO_9.out) hkp (fun k_ hk_ hs_ => Or.elim hs_ (fun e_ => (hk_.1.1.1.2.1) e_) (fun e_ => Or.elim e_ (fun e_ => (hk_.1.1.1.2.2.1) e_) (fun e_ => (hk_.1.1.1.2.2.2) e_)))) (fun k_ hk_ => ⟨hk_.1.1.1.1.1, hk_.1.1.1.1.2.1, hk_.1.1.1.1.2.2.1, hk_.1.1.1.1.2.2.2, hk_.1.1.1.2, hk_.1.1.2, hk_.1.2⟩)); have n2_ := Aside0.mk (Kd.R_reok rfl hy0 (fun k_ e_ => HO_700000.out.1 k_ e_)); have n3_ := Aside0.mk (Kd.R_reok rfl hy1 (fun k_ e_ => HO_700003.out.1 k_ e_)); have n4_ := Aside0.mk (Kd.R_reok rfl hy2 (fun k_ e_ => HO_700004.out.1 k_ e_)); have n5_ := Aside0.mk (blk_kept (by (with_reducible repeat (first | refine blk_drewN ?_ _ | refine blk_drew ?_ | refine blk_alloc ?_ _)); exact BK671.out) hkp (fun hs_ => Or.elim hs_ (fun e_ => (fun e_ => (Kd.R_ne HO_700000.out BK671.out (by decide)) e_) e_) (fun e_ => Or.elim e_ (fun e_ => (fun e_ => (Kd.R_ne HO_700003.out BK671.out (by decide)) e_) e_) (fun e_ => (fun e_ => (Kd.R_ne HO_700004.out BK671.out (by decide)) e_) e_)))); have n6_ := Aside0.mk (blk_kept (by (with_reducible repeat (first | refine blk_drewN ?_ _ | refine blk_drew ?_ | refine blk_alloc ?_ _)); exact BK699.out) hkp (fun hs_ => Or.elim hs_ (fun e_ => (fun e_ => (Kd.R_ne HO_700000.out BK699.out (by decide)) e_) e_) (fun e_ => Or.elim e_ (fun e_ => (fun e_ => (Kd.R_ne HO_700003.out BK699.out (by decide)) e_) e_) (fun e_ => (fun e_ => (Kd.R_ne HO_700004.out BK699.out (by decide)) e_) e_)))); have n7_ := Aside0.mk (Kd.R_mono (ok' := fun k_ => some k_ ≠ (v685 : Value).ownBlock ∧ some k_ ≠ (v701 : Value).ownBlock ∧ some k_ ≠ (.slice Ao27 t688.length co27 : Value).ownBlock ∧ some k_ ≠ (.slice Ao30 t693.length co30 : Value).ownBlock ∧ some k_ ≠ (.slice Ao31 t696.length co31 : Value).ownBlock ∧ some k_ ≠ (.slice Ao50 t710.length co50 : Value).ownBlock ∧ some k_ ≠ (.slice Ao51 t713.length co51 : Value).ownBlock) (Kd.R_keptB (HO707.out) hkp (fun k_ hk_ hs_ => Or.elim hs_ (fun e_ => (hk_.1.1.2) e_) (fun e_ => Or.elim e_ (fun e_ => (hk_.1.2) e_) (fun e_ => (hk_.2) e_)))) (fun k_ hk_ => ⟨hk_.1.1.1.1.1.2, hk_.1.1.1.1.2, hk_.1.1.1.2, hk_.1.1.2, hk_.1.2, hk_.1.1.1.1.1.1.1, hk_.1.1.1.1.1.1.2⟩)); have n8_ := Aside0.mk (Kd.R_mono (ok' := fun k_ => some k_ ≠ (v685 : Value).ownBlock ∧ some k_ ≠ (v701 : Value).ownBlock ∧ some k_ ≠ (.slice Ao27 t688.length co27 : Value).ownBlock ∧ some k_ ≠ (.slice Ao30 t693.length co30 : Value).ownBlock ∧ some k_ ≠ (.slice Ao31 t696.length co31 : Value).ownBlock ∧ some k_ ≠ (.slice Ao49 t705.length co49 : Value).ownBlock ∧ some k_ ≠ (.slice Ao51 t713.length co51 : Value).ownBlock) (Kd.R_keptB (HO712.out) hkp (fun k_ hk_ hs_ => Or.elim hs_ (fun e_ => (hk_.1.1.2) e_) (fun e_ => Or.elim e_ (fun e_ => (hk_.1.2) e_) (fun e_ => (hk_.2) e_)))) (fun k_ hk_ => ⟨hk_.1.1.1.1.1.2, hk_.1.1.1.1.2, hk_.1.1.1.2, hk_.1.1.2, hk_.1.2, hk_.1.1.1.1.1.1.1, hk_.1.1.1.1.1.1.2⟩)); have n9_ := Aside0.mk (Kd.R_mono (ok' := fun k_ => some k_ ≠ (v685 : Value).ownBlock ∧ some k_ ≠ (v701 : Value).ownBlock ∧ some k_ ≠ (.slice Ao27 t688.length co27 : Value).ownBlock ∧ some k_ ≠ (.slice Ao30 t693.length co30 : Value).ownBlock ∧ some k_ ≠ (.slice Ao31 t696.length co31 : Value).ownBlock ∧ some k_ ≠ (.slice Ao49 t705.length co49 : Value).ownBlock ∧ some k_ ≠ (.slice Ao50 t710.length co50 : Value).ownBlock) (Kd.R_keptB (HO715.out) hkp (fun k_ hk_ hs_ => Or.elim hs_ (fun e_ => (hk_.1.1.2) e_) (fun e_ => Or.elim e_ (fun e_ => (hk_.1.2) e_) (fun e_ => (hk_.2) e_)))) (fun k_ hk_ => ⟨hk_.1.1.1.1.1.2, hk_.1.1.1.1.2, hk_.1.1.1.2, hk_.1.1.2, hk_.1.2, hk_.1.1.1.1.1.1.1, hk_.1.1.1.1.1.1.2⟩)); have n10_ := Aside0.mk (hb); clear HO_6; clear HO_9; clear HO_700000; clear HO_700003; clear HO_700004; clear BK671; clear BK699; clear HO707; clear HO712; clear HO715; clear HB; have HO_6 := n0_; have HO_9 := n1_; have HO_700000 := n2_; have HO_700003 := n3_; have HO_700004 := n4_; have BK671 := n5_; have BK699 := n6_; have HO707 := n7_; have HO712 := n8_; have HO715 := n9_; have HB := n10_; clear n0_ n1_ n2_ n3_ n4_ n5_ n6_ n7_ n8_ n9_ n10_; (try clear hb); (try clear hkp); (try clear hy0); (try clear hy1); (try clear hy2)))
   (try simp only [Act.put, List.setIfInBounds_toArray, List.set_cons_zero, List.set_cons_succ])
   go_cut [68] (fun v68 wc => ∃ (kq : Nat) (x68_45 : Bool), v68 = .bool x68_45 ∧ Aside0 (laws_FnExactPsalmSing.j1 kq a1 t684 t687 t700 x68_45 l0_0 a0_1 a0_2 l0_3 l0_4 = some r) ∧ Aside0 (kq ≤ kj13) ∧ Aside0 (Kd.R k25 25 wc w.heap.size (fun k_ => some k_ ≠ (v701 : Value).ownBlock ∧ some k_ ≠ ((.slice Ao27 t688.length co27) : Value).ownBlock ∧ some k_ ≠ ((.slice Ao30 t693.length co30) : Value).ownBlock ∧ some k_ ≠ ((.slice Ao31 t696.length co31) : Value).ownBlock) v685 t684) ∧ Aside0 (Kd.R k25 25 wc w.heap.size (fun k_ => some k_ ≠ (v685 : Value).ownBlock ∧ some k_ ≠ ((.slice Ao27 t688.length co27) : Value).ownBlock ∧ some k_ ≠ ((.slice Ao30 t693.length co30) : Value).ownBlock ∧ some k_ ≠ ((.slice Ao31 t696.length co31) : Value).ownBlock) v701 t700) ∧ Aside0 (Kd.R k25 25 wc w.heap.size (fun k_ => some k_ ≠ (v685 : Value).ownBlock ∧ some k_ ≠ (v701 : Value).ownBlock ∧ some k_ ≠ ((.slice Ao30 t693.length co30) : Value).ownBlock ∧ some k_ ≠ ((.slice Ao31 t696.length co31) : Value).ownBlock) (.slice Ao27 t688.length co27) t718) ∧ Aside0 (Kd.R k25 25 wc w.heap.size (fun k_ => some k_ ≠ (v685 : Value).ownBlock ∧ some k_ ≠ (v701 : Value).ownBlock ∧ some k_ ≠ ((.slice Ao27 t688.length co27) : Value).ownBlock ∧ some k_ ≠ ((.slice Ao31 t696.length co31) : Value).ownBlock) (.slice Ao30 t693.length co30) t719) ∧ Aside0 (Kd.R k25 25 wc w.heap.size (fun k_ => some k_ ≠ (v685 : Value).ownBlock ∧ some k_ ≠ (v701 : Value).ownBlock ∧ some k_ ≠ ((.slice Ao27 t688.length co27) : Value).ownBlock ∧ some k_ ≠ ((.slice Ao30 t693.length co30) : Value).ownBlock) (.slice Ao31 t696.length co31) t720) ∧ Aside0 (wc.heap[gb671]? = some (.cells #[(.slice A0_0 l0_0.length c0_0), .int .i64 a0_1, .bool a0_2, (.slice A0_3 l0_3.length c0_3), (.slice A0_4 l0_4.length c0_4)] 41 (0, 0))) ∧ Aside0 (wc.heap[gb699]? = some (.cells #[(.slice Ao27 t688.length co27), .int .i64 t691, .bool t692, (.slice Ao30 t693.length co30), (.slice Ao31 t696.length co31)] 27 (0, 0))) ∧ Aside0 (Below w.heap.size w wc))
   case first =>
    have H := HC46.out
    clear HC46
    by_cases c56 : t717 < 0
    ·rw [if_pos c56] at H
     have c56b0 : decide (t717 < 0) = true := decide_eq_true c56
     clear c56
     (first | rw [c56b0] | (simp only [i64_w, i32_w]; rw [c56b0]) | skip)
     have H' := Aside0.mk H
     clear H
     go_wp2
     go_meet
     case rel => exact ⟨_, (true), (by first | rfl | (simp; done) | (simp [*]; done)), H', ⟨by have := HJ13.out; first | omega | exact Nat.le_refl _⟩, ⟨by (with_reducible repeat (first | apply Kd.R_alloc | apply Kd.R_drewN | apply Kd.R_drew)); exact Kd.R_mono HO_6.out (fun _ hk => ⟨hk.1, ⟨hk.2.1, ⟨hk.2.2.1, hk.2.2.2.1⟩⟩⟩)⟩, ⟨by (with_reducible repeat (first | apply Kd.R_alloc | apply Kd.R_drewN | apply Kd.R_drew)); exact Kd.R_mono HO_9.out (fun _ hk => ⟨hk.1, ⟨hk.2.1, ⟨hk.2.2.1, hk.2.2.2.1⟩⟩⟩)⟩, ⟨by (with_reducible repeat (first | apply Kd.R_alloc | apply Kd.R_drewN | apply Kd.R_drew)); exact Kd.R_mono HO_700000.out (fun _ hk => ⟨hk.1.1.1.1, ⟨hk.1.1.1.2.1, ⟨hk.1.1.1.2.2.1, hk.1.1.1.2.2.2⟩⟩⟩)⟩, ⟨by (with_reducible repeat (first | apply Kd.R_alloc | apply Kd.R_drewN | apply Kd.R_drew)); exact Kd.R_mono HO_700003.out (fun _ hk => ⟨hk.1.1.1.1, ⟨hk.1.1.1.2.1, ⟨hk.1.1.1.2.2.1, hk.1.1.1.2.2.2⟩⟩⟩)⟩, ⟨by (with_reducible repeat (first | apply Kd.R_alloc | apply Kd.R_drewN | apply Kd.R_drew)); exact Kd.R_mono HO_700004.out (fun _ hk => ⟨hk.1.1.1.1, ⟨hk.1.1.1.2.1, ⟨hk.1.1.1.2.2.1, hk.1.1.1.2.2.2⟩⟩⟩)⟩, ⟨by (with_reducible repeat (first | refine blk_drewN ?_ _ | refine blk_drew ?_ | refine blk_alloc ?_ _)); exact BK671.out⟩, ⟨by (with_reducible repeat (first | refine blk_drewN ?_ _ | refine blk_drew ?_ | refine blk_alloc ?_ _)); exact BK699.out⟩, ⟨by repeat (first | (with_reducible first | exact HB.out | apply below_alloc | apply pw_below_drewN | apply below_drew1 | refine below_set ?_ GE671.out | refine below_set ?_ GE699.out) | exact HB.out)⟩⟩
    rw [if_neg c56] at H
    have c56b0 : decide (t717 < 0) = false := decide_eq_false c56
    clear c56
    (first | rw [c56b0] | (simp only [i64_w, i32_w]; rw [c56b0]) | skip)
    replace H := Option.bind_eq_some_iff.mp H
    obtain ⟨t721, A570, H⟩ := H
    replace H : (if t721 = true then (laws_FnExactPsalmSing.j1 kj13 a1 t684 t687 t700 (t703 != t687) l0_0 a0_1 a0_2 l0_3 l0_4) else (laws_FnExactPsalmSing.j1 kj13 a1 t684 t687 t700 true l0_0 a0_1 a0_2 l0_3 l0_4)) = some r := H
    have A57 := Aside0.mk A570
    clear A570
    by_cases c58 : t721 = true
    ·subst c58
     have H1 : (laws_FnExactPsalmSing.j1 kj13 a1 t684 t687 t700 (t703 != t687) l0_0 a0_1 a0_2 l0_3 l0_4) = some r := by rw [if_pos rfl] at H; exact H
     clear H
     have H := H1
     clear H1
     have H' := Aside0.mk H
     clear H
     obtain ⟨Ao59, co59, eo59⟩ := Kd.R_slice HO_9.out
     subst eo59
     obtain ⟨Ao60, co60, eo60⟩ := Kd.R_slice HO_6.out
     subst eo60
     go_wp2_with (first | (go_at_call 36; (with_reducible refine (laws_eqToneS.calls kj13 _ _ t700 _ _ t684 true _ ?side1 ?side2 ?side3 ?side4 A57.out).mono ?_); (case side1 => repeat (first | exact (Kd.R_reads' HO_9.out).2.2 | (with_reducible refine Kd.C_alloc ?_ _) | (with_reducible refine Kd.C_drewN ?_ _) | (with_reducible refine Kd.C_drew ?_))); (case side2 => exact (Kd.R_reads' HO_9.out).2.1); (case side3 => repeat (first | exact (Kd.R_reads' HO_6.out).2.2 | (with_reducible refine Kd.C_alloc ?_ _) | (with_reducible refine Kd.C_drewN ?_ _) | (with_reducible refine Kd.C_drew ?_))); (case side4 => exact (Kd.R_reads' HO_6.out).2.1); rintro e w61 ⟨rfl, hb⟩; have n0_ := Aside0.mk (Kd.R_below (by (with_reducible repeat (first | apply Kd.R_alloc | apply Kd.R_drewN | apply Kd.R_drew)); exact HO_6.out) hb); have n1_ := Aside0.mk (Kd.R_below (by (with_reducible repeat (first | apply Kd.R_alloc | apply Kd.R_drewN | apply Kd.R_drew)); exact HO_9.out) hb); have n2_ := Aside0.mk (Kd.R_below (by (with_reducible repeat (first | apply Kd.R_alloc | apply Kd.R_drewN | apply Kd.R_drew)); exact HO_700000.out) hb); have n3_ := Aside0.mk (Kd.R_below (by (with_reducible repeat (first | apply Kd.R_alloc | apply Kd.R_drewN | apply Kd.R_drew)); exact HO_700003.out) hb); have n4_ := Aside0.mk (Kd.R_below (by (with_reducible repeat (first | apply Kd.R_alloc | apply Kd.R_drewN | apply Kd.R_drew)); exact HO_700004.out) hb); have n5_ := Aside0.mk (Kd.R_below (by (with_reducible repeat (first | apply Kd.R_alloc | apply Kd.R_drewN | apply Kd.R_drew)); exact HO707.out) hb); have n6_ := Aside0.mk (Kd.R_below (by (with_reducible repeat (first | apply Kd.R_alloc | apply Kd.R_drewN | apply Kd.R_drew)); exact HO712.out) hb); have n7_ := Aside0.mk (Kd.R_below (by (with_reducible repeat (first | apply Kd.R_alloc | apply Kd.R_drewN | apply Kd.R_drew)); exact HO715.out) hb); have n8_ := Aside0.mk (blk_below (g := gb671) (o := .cells #[.slice A0_0 l0_0.length c0_0, .int .i64 a0_1, .bool a0_2, .slice A0_3 l0_3.length c0_3, .slice A0_4 l0_4.length c0_4] 41 (0, 0)) (by (with_reducible repeat (first | refine blk_drewN ?_ _ | refine blk_drew ?_ | refine blk_alloc ?_ _)); exact BK671.out) hb); have n9_ := Aside0.mk (blk_below (g := gb699) (o := .cells #[.slice Ao27 t688.length co27, .int .i64 t691, .bool t692, .slice Ao30 t693.length co30, .slice Ao31 t696.length co31] 27 (0, 0)) (by (with_reducible repeat (first | refine blk_drewN ?_ _ | refine blk_drew ?_ | refine blk_alloc ?_ _)); exact BK699.out) hb); have n10_ := Aside0.mk (below_step (by repeat (first | (with_reducible first | exact HB.out | apply below_alloc | apply pw_below_drewN | apply below_drew1 | refine below_set ?_ GE671.out | refine below_set ?_ GE699.out) | exact HB.out)) hb); clear HO_6; clear HO_9; clear HO_700000; clear HO_700003; clear HO_700004; clear HO707; clear HO712; clear HO715; clear BK671; clear BK699; clear HB; have HO_6 := n0_; have HO_9 := n1_; have HO_700000 := n2_; have HO_700003 := n3_; have HO_700004 := n4_; have HO707 := n5_; have HO712 := n6_; have HO715 := n7_; have BK671 := n8_; have BK699 := n9_; have HB := n10_; clear n0_ n1_ n2_ n3_ n4_ n5_ n6_ n7_ n8_ n9_ n10_; (try clear hb); (try clear hb2); (try clear hk); (try clear hi)))
     go_meet
     case rel => exact ⟨_, ((t703 != t687)), (by first | rfl | (simp; done) | (simp [*]; done)), H', ⟨by have := HJ13.out; first | omega | exact Nat.le_refl _⟩, ⟨by (with_reducible repeat (first | apply Kd.R_alloc | apply Kd.R_drewN | apply Kd.R_drew)); exact Kd.R_mono HO_6.out (fun _ hk => ⟨hk.1, ⟨hk.2.1, ⟨hk.2.2.1, hk.2.2.2.1⟩⟩⟩)⟩, ⟨by (with_reducible repeat (first | apply Kd.R_alloc | apply Kd.R_drewN | apply Kd.R_drew)); exact Kd.R_mono HO_9.out (fun _ hk => ⟨hk.1, ⟨hk.2.1, ⟨hk.2.2.1, hk.2.2.2.1⟩⟩⟩)⟩, ⟨by (with_reducible repeat (first | apply Kd.R_alloc | apply Kd.R_drewN | apply Kd.R_drew)); exact Kd.R_mono HO_700000.out (fun _ hk => ⟨hk.1.1.1.1, ⟨hk.1.1.1.2.1, ⟨hk.1.1.1.2.2.1, hk.1.1.1.2.2.2⟩⟩⟩)⟩, ⟨by (with_reducible repeat (first | apply Kd.R_alloc | apply Kd.R_drewN | apply Kd.R_drew)); exact Kd.R_mono HO_700003.out (fun _ hk => ⟨hk.1.1.1.1, ⟨hk.1.1.1.2.1, ⟨hk.1.1.1.2.2.1, hk.1.1.1.2.2.2⟩⟩⟩)⟩, ⟨by (with_reducible repeat (first | apply Kd.R_alloc | apply Kd.R_drewN | apply Kd.R_drew)); exact Kd.R_mono HO_700004.out (fun _ hk => ⟨hk.1.1.1.1, ⟨hk.1.1.1.2.1, ⟨hk.1.1.1.2.2.1, hk.1.1.1.2.2.2⟩⟩⟩)⟩, ⟨by (with_reducible repeat (first | refine blk_drewN ?_ _ | refine blk_drew ?_ | refine blk_alloc ?_ _)); exact BK671.out⟩, ⟨by (with_reducible repeat (first | refine blk_drewN ?_ _ | refine blk_drew ?_ | refine blk_alloc ?_ _)); exact BK699.out⟩, ⟨by repeat (first | (with_reducible first | exact HB.out | apply below_alloc | apply pw_below_drewN | apply below_drew1 | refine below_set ?_ GE671.out | refine below_set ?_ GE699.out) | exact HB.out)⟩⟩
    replace c58 := Bool.eq_false_iff.mpr c58
    subst c58
    have H1 : (laws_FnExactPsalmSing.j1 kj13 a1 t684 t687 t700 true l0_0 a0_1 a0_2 l0_3 l0_4) = some r := by rw [if_neg (show ¬ (false = true) by decide)] at H; exact H
    clear H
    have H := H1
    clear H1
    have H' := Aside0.mk H
    clear H
    obtain ⟨Ao62, co62, eo62⟩ := Kd.R_slice HO_9.out
    subst eo62
    obtain ⟨Ao63, co63, eo63⟩ := Kd.R_slice HO_6.out
    subst eo63
    go_wp2_with (first | (go_at_call 36; (with_reducible refine (laws_eqToneS.calls kj13 _ _ t700 _ _ t684 false _ ?side1 ?side2 ?side3 ?side4 A57.out).mono ?_); (case side1 => repeat (first | exact (Kd.R_reads' HO_9.out).2.2 | (with_reducible refine Kd.C_alloc ?_ _) | (with_reducible refine Kd.C_drewN ?_ _) | (with_reducible refine Kd.C_drew ?_))); (case side2 => exact (Kd.R_reads' HO_9.out).2.1); (case side3 => repeat (first | exact (Kd.R_reads' HO_6.out).2.2 | (with_reducible refine Kd.C_alloc ?_ _) | (with_reducible refine Kd.C_drewN ?_ _) | (with_reducible refine Kd.C_drew ?_))); (case side4 => exact (Kd.R_reads' HO_6.out).2.1); rintro e w64 ⟨rfl, hb⟩; have n0_ := Aside0.mk (Kd.R_below (by (with_reducible repeat (first | apply Kd.R_alloc | apply Kd.R_drewN | apply Kd.R_drew)); exact HO_6.out) hb); have n1_ := Aside0.mk (Kd.R_below (by (with_reducible repeat (first | apply Kd.R_alloc | apply Kd.R_drewN | apply Kd.R_drew)); exact HO_9.out) hb); have n2_ := Aside0.mk (Kd.R_below (by (with_reducible repeat (first | apply Kd.R_alloc | apply Kd.R_drewN | apply Kd.R_drew)); exact HO_700000.out) hb); have n3_ := Aside0.mk (Kd.R_below (by (with_reducible repeat (first | apply Kd.R_alloc | apply Kd.R_drewN | apply Kd.R_drew)); exact HO_700003.out) hb); have n4_ := Aside0.mk (Kd.R_below (by (with_reducible repeat (first | apply Kd.R_alloc | apply Kd.R_drewN | apply Kd.R_drew)); exact HO_700004.out) hb); have n5_ := Aside0.mk (Kd.R_below (by (with_reducible repeat (first | apply Kd.R_alloc | apply Kd.R_drewN | apply Kd.R_drew)); exact HO707.out) hb); have n6_ := Aside0.mk (Kd.R_below (by (with_reducible repeat (first | apply Kd.R_alloc | apply Kd.R_drewN | apply Kd.R_drew)); exact HO712.out) hb); have n7_ := Aside0.mk (Kd.R_below (by (with_reducible repeat (first | apply Kd.R_alloc | apply Kd.R_drewN | apply Kd.R_drew)); exact HO715.out) hb); have n8_ := Aside0.mk (blk_below (g := gb671) (o := .cells #[.slice A0_0 l0_0.length c0_0, .int .i64 a0_1, .bool a0_2, .slice A0_3 l0_3.length c0_3, .slice A0_4 l0_4.length c0_4] 41 (0, 0)) (by (with_reducible repeat (first | refine blk_drewN ?_ _ | refine blk_drew ?_ | refine blk_alloc ?_ _)); exact BK671.out) hb); have n9_ := Aside0.mk (blk_below (g := gb699) (o := .cells #[.slice Ao27 t688.length co27, .int .i64 t691, .bool t692, .slice Ao30 t693.length co30, .slice Ao31 t696.length co31] 27 (0, 0)) (by (with_reducible repeat (first | refine blk_drewN ?_ _ | refine blk_drew ?_ | refine blk_alloc ?_ _)); exact BK699.out) hb); have n10_ := Aside0.mk (below_step (by repeat (first | (with_reducible first | exact HB.out | apply below_alloc | apply pw_below_drewN | apply below_drew1 | refine below_set ?_ GE671.out | refine below_set ?_ GE699.out) | exact HB.out)) hb); clear HO_6; clear HO_9; clear HO_700000; clear HO_700003; clear HO_700004; clear HO707; clear HO712; clear HO715; clear BK671; clear BK699; clear HB; have HO_6 := n0_; have HO_9 := n1_; have HO_700000 := n2_; have HO_700003 := n3_; have HO_700004 := n4_; have HO707 := n5_; have HO712 := n6_; have HO715 := n7_; have BK671 := n8_; have BK699 := n9_; have HB := n10_; clear n0_ n1_ n2_ n3_ n4_ n5_ n6_ n7_ n8_ n9_ n10_; (try clear hb); (try clear hb2); (try clear hk); (try clear hi)))
    go_meet
    case rel => exact ⟨_, (true), (by first | rfl | (simp; done) | (simp [*]; done)), H', ⟨by have := HJ13.out; first | omega | exact Nat.le_refl _⟩, ⟨by (with_reducible repeat (first | apply Kd.R_alloc | apply Kd.R_drewN | apply Kd.R_drew)); exact Kd.R_mono HO_6.out (fun _ hk => ⟨hk.1, ⟨hk.2.1, ⟨hk.2.2.1, hk.2.2.2.1⟩⟩⟩)⟩, ⟨by (with_reducible repeat (first | apply Kd.R_alloc | apply Kd.R_drewN | apply Kd.R_drew)); exact Kd.R_mono HO_9.out (fun _ hk => ⟨hk.1, ⟨hk.2.1, ⟨hk.2.2.1, hk.2.2.2.1⟩⟩⟩)⟩, ⟨by (with_reducible repeat (first | apply Kd.R_alloc | apply Kd.R_drewN | apply Kd.R_drew)); exact Kd.R_mono HO_700000.out (fun _ hk => ⟨hk.1.1.1.1, ⟨hk.1.1.1.2.1, ⟨hk.1.1.1.2.2.1, hk.1.1.1.2.2.2⟩⟩⟩)⟩, ⟨by (with_reducible repeat (first | apply Kd.R_alloc | apply Kd.R_drewN | apply Kd.R_drew)); exact Kd.R_mono HO_700003.out (fun _ hk => ⟨hk.1.1.1.1, ⟨hk.1.1.1.2.1, ⟨hk.1.1.1.2.2.1, hk.1.1.1.2.2.2⟩⟩⟩)⟩, ⟨by (with_reducible repeat (first | apply Kd.R_alloc | apply Kd.R_drewN | apply Kd.R_drew)); exact Kd.R_mono HO_700004.out (fun _ hk => ⟨hk.1.1.1.1, ⟨hk.1.1.1.2.1, ⟨hk.1.1.1.2.2.1, hk.1.1.1.2.2.2⟩⟩⟩)⟩, ⟨by (with_reducible repeat (first | refine blk_drewN ?_ _ | refine blk_drew ?_ | refine blk_alloc ?_ _)); exact BK671.out⟩, ⟨by (with_reducible repeat (first | refine blk_drewN ?_ _ | refine blk_drew ?_ | refine blk_alloc ?_ _)); exact BK699.out⟩, ⟨by repeat (first | (with_reducible first | exact HB.out | apply below_alloc | apply pw_below_drewN | apply below_drew1 | refine below_set ?_ GE671.out | refine below_set ?_ GE699.out) | exact HB.out)⟩⟩
   case rest =>
    clear HC46
    try clear c1
    try clear c2
    try clear p2
    try clear c3
    try clear c3b0
    try clear c3b1
    try clear c4
    try clear c5
    try clear c6
    try clear c6b0
    try clear c9
    try clear c19
    try clear c22
    try clear c24
    try clear c26
    try clear c28
    try clear c34
    try clear c36
    try clear c37
    try clear c41
    try clear c44
    try clear c53
    try clear c56
    try clear c56b0
    try clear c58
    try clear hcz16_0
    try clear hcz16_1
    try clear hcz16_2
    try clear hcz16_3
    try clear hcz16_4
    try clear hcz18_0
    try clear hcz18_1
    try clear hcz18_2
    try clear hcz18_3
    try clear hcz18_4
    try clear hcz24_0
    try clear hcz24_1
    try clear hcz24_2
    try clear hcz24_3
    try clear hcz24_4
    try clear hcz29_0
    try clear hcz29_1
    try clear hcz29_2
    try clear hcz29_3
    try clear hcz29_4
    try clear hcz54_0
    try clear hcz54_1
    try clear hcz54_2
    try clear hcz54_3
    try clear hcz54_4
    try clear hcz8_0
    try clear hcz8_1
    try clear hcz8_2
    try clear hcz8_3
    try clear hcz8_4
    try clear hfz16_0
    try clear hfz16_1
    try clear hfz16_2
    try clear hfz16_3
    try clear hfz16_4
    try clear hfz18_0
    try clear hfz18_1
    try clear hfz18_2
    try clear hfz18_3
    try clear hfz18_4
    try clear hfz24_0
    try clear hfz24_1
    try clear hfz24_2
    try clear hfz24_3
    try clear hfz24_4
    try clear hfz29_0
    try clear hfz29_1
    try clear hfz29_2
    try clear hfz29_3
    try clear hfz29_4
    try clear hfz54_0
    try clear hfz54_1
    try clear hfz54_2
    try clear hfz54_3
    try clear hfz54_4
    try clear hfz8_0
    try clear hfz8_1
    try clear hfz8_2
    try clear hfz8_3
    try clear hfz8_4
    try clear p2
    obtain ⟨kq, x68_45, rfl, HA, HJ45, HO_6, HO_9, HO_700000, HO_700003, HO_700004, BK671, BK699, HB⟩ := hcut
    have hl700000_45 := (Kd.R_reads' HO_700000.out).1
    rw [hl700000_45] at HO_700000
    (try simp only [hl700000_45])
    (try simp only [hl700000_45] at BK671)
    (try simp only [hl700000_45] at BK699)
    (try simp only [hl700000_45] at HO_6)
    (try simp only [hl700000_45] at HO_9)
    (try simp only [hl700000_45] at HO_700003)
    (try simp only [hl700000_45] at HO_700004)
    have hl700003_45 := (Kd.R_reads' HO_700003.out).1
    rw [hl700003_45] at HO_700003
    (try simp only [hl700003_45])
    (try simp only [hl700003_45] at BK671)
    (try simp only [hl700003_45] at BK699)
    (try simp only [hl700003_45] at HO_6)
    (try simp only [hl700003_45] at HO_9)
    (try simp only [hl700003_45] at HO_700000)
    (try simp only [hl700003_45] at HO_700004)
    have hl700004_45 := (Kd.R_reads' HO_700004.out).1
    rw [hl700004_45] at HO_700004
    (try simp only [hl700004_45])
    (try simp only [hl700004_45] at BK671)
    (try simp only [hl700004_45] at BK699)
    (try simp only [hl700004_45] at HO_6)
    (try simp only [hl700004_45] at HO_9)
    (try simp only [hl700004_45] at HO_700000)
    (try simp only [hl700004_45] at HO_700003)
    cases kq with
    | zero => exact absurd HA.out (by simp [laws_FnExactPsalmSing.j1])
    | succ kj45 =>
     have H := HA.out
     clear HA
     simp only [laws_FnExactPsalmSing.j1] at H
     by_cases c65 : x68_45 = true
     ·subst c65
      have H1 : (none) = some r := by rw [if_pos rfl] at H; exact H
      clear H
      have H := H1
      clear H1
      exact absurd H (by simp)
     replace c65 := Bool.eq_false_iff.mpr c65
     subst c65
     have H1 : ((laws_markToneS.f kj45 t700 1).bind fun bt722 => ((laws_heldToneS.f kj45 bt722.2 1).bind fun t724 => (if t724 < 0 then (none) else (if t724 = bt722.1 then ((laws_toPsalm.f kj45 l0_0 a0_1 a0_2 l0_3 l0_4).bind fun bt725 => ((impl_PsalmSing.f kj45 bt725.1 bt725.2.1 bt725.2.2.1 bt725.2.2.2.1 bt725.2.2.2.2 a1).bind fun bt736 => ((laws_eqToneS.f kj45 bt736.1 t684).bind fun t740 => (if t740 = true then (laws_FnExactPsalmSing.j2 kj45 bt722.2 bt722.1 (bt736.2 != t687)) else (laws_FnExactPsalmSing.j2 kj45 bt722.2 bt722.1 true))))) else (none))))) = some r := by rw [if_neg (show ¬ (false = true) by decide)] at H; exact H
     clear H
     have H := H1
     clear H1
     replace H := Option.bind_eq_some_iff.mp H
     obtain ⟨⟨t722, t723⟩, A660, H⟩ := H
     replace H : ((laws_heldToneS.f kj45 t723 1).bind fun t724 => (if t724 < 0 then (none) else (if t724 = t722 then ((laws_toPsalm.f kj45 l0_0 a0_1 a0_2 l0_3 l0_4).bind fun bt725 => ((impl_PsalmSing.f kj45 bt725.1 bt725.2.1 bt725.2.2.1 bt725.2.2.2.1 bt725.2.2.2.2 a1).bind fun bt736 => ((laws_eqToneS.f kj45 bt736.1 t684).bind fun t740 => (if t740 = true then (laws_FnExactPsalmSing.j2 kj45 t723 t722 (bt736.2 != t687)) else (laws_FnExactPsalmSing.j2 kj45 t723 t722 true))))) else (none)))) = some r := H
     have A66 := Aside0.mk A660
     clear A660
     replace H := Option.bind_eq_some_iff.mp H
     obtain ⟨t724, A670, H⟩ := H
     replace H : (if t724 < 0 then (none) else (if t724 = t722 then ((laws_toPsalm.f kj45 l0_0 a0_1 a0_2 l0_3 l0_4).bind fun bt725 => ((impl_PsalmSing.f kj45 bt725.1 bt725.2.1 bt725.2.2.1 bt725.2.2.2.1 bt725.2.2.2.2 a1).bind fun bt736 => ((laws_eqToneS.f kj45 bt736.1 t684).bind fun t740 => (if t740 = true then (laws_FnExactPsalmSing.j2 kj45 t723 t722 (bt736.2 != t687)) else (laws_FnExactPsalmSing.j2 kj45 t723 t722 true))))) else (none))) = some r := H
     have A67 := Aside0.mk A670
     clear A670
     by_cases c68 : t724 < 0
     ·rw [if_pos c68] at H
      exact absurd H (by simp)
     rw [if_neg c68] at H
     have c68b0 : decide (t724 < 0) = false := decide_eq_false c68
     clear c68
     by_cases c69 : t724 = t722
     rotate_left
     ·rw [if_neg c69] at H
      exact absurd H (by simp)
     rw [if_pos c69] at H
     have c69b0 : (t724 == t722) = true := beq_iff_eq.mpr c69
     have c69b1 : (t724 != t722) = false := bne_eq_false_iff_eq.mpr c69
     clear c69
     replace H := Option.bind_eq_some_iff.mp H
     obtain ⟨⟨t725, t728, t729, t730, t733⟩, A700, H⟩ := H
     replace H : ((impl_PsalmSing.f kj45 t725 t728 t729 t730 t733 a1).bind fun bt736 => ((laws_eqToneS.f kj45 bt736.1 t684).bind fun t740 => (if t740 = true then (laws_FnExactPsalmSing.j2 kj45 t723 t722 (bt736.2 != t687)) else (laws_FnExactPsalmSing.j2 kj45 t723 t722 true)))) = some r := H
     have A70 := Aside0.mk A700
     clear A700
     replace H := Option.bind_eq_some_iff.mp H
     obtain ⟨⟨t736, t739⟩, A710, H⟩ := H
     replace H : ((laws_eqToneS.f kj45 t736 t684).bind fun t740 => (if t740 = true then (laws_FnExactPsalmSing.j2 kj45 t723 t722 (t739 != t687)) else (laws_FnExactPsalmSing.j2 kj45 t723 t722 true))) = some r := H
     have A71 := Aside0.mk A710
     clear A710
     have HC72 := Aside0.mk H
     clear H
     obtain ⟨Ao73, co73, eo73⟩ := Kd.R_slice HO_9.out
     subst eo73
     go_upto_region 27 with (first | ((with_reducible refine gate_callee (f := 38) rfl ?_); refine goesL_ (some 71) rfl rfl Tryd.func38 (by kernel_rfl) rfl #[.slice Ao73 t700.length co73, .int .i64 1] rfl (by (try simp only [List.map_toArray, List.map_cons, List.map_nil]); first | done | rfl | (simp only [List.length_drop, List.length_take]; rfl)) ?_; (with_reducible refine (laws_markToneS.calls kj45 (fun k_ => some k_ = (.slice Ao73 t700.length co73 : Value).ownBlock) (.slice Ao73 t700.length co73) t700 1 t722 t723 w _ ?side1 ?side2 A66.out).mono ?_); (case side1 => repeat (first | (with_reducible first | exact HB.out | apply below_alloc | apply pw_below_drewN | apply below_drew1 | refine below_set ?_ GE671.out | refine below_set ?_ GE699.out) | exact HB.out)); (case side2 => exact Kd.R_tight rfl HO_9.out); rintro e w74 ⟨rfl, hy0, hb, hkp⟩; refine ⟨_, rfl, ?_⟩; have n0_ := Aside0.mk (Kd.R_mono (ok' := fun k_ => some k_ ≠ (.slice Ao73 t700.length co73 : Value).ownBlock ∧ some k_ ≠ (.slice Ao27 t718.length co27 : Value).ownBlock ∧ some k_ ≠ (.slice Ao30 t719.length co30 : Value).ownBlock ∧ some k_ ≠ (.slice Ao31 t720.length co31 : Value).ownBlock) (Kd.R_keptB (HO_6.out) hkp (fun k_ hk_ hs_ => (hk_.1) hs_)) (fun k_ hk_ => ⟨hk_.1.1, hk_.1.2.1, hk_.1.2.2.1, hk_.1.2.2.2⟩)); have n1_ := Aside0.mk (Kd.R_reok rfl hy0 (fun k_ e_ => HO_9.out.1 k_ e_)); have n2_ := Aside0.mk (Kd.R_mono (ok' := fun k_ => some k_ ≠ (v685 : Value).ownBlock ∧ some k_ ≠ (.slice Ao73 t700.length co73 : Value).ownBlock ∧ some k_ ≠ (.slice Ao30 t719.length co30 : Value).ownBlock ∧ some k_ ≠ (.slice Ao31 t720.length co31 : Value).ownBlock) (Kd.R_keptB (HO_700000.out) hkp (fun k_ hk_ hs_ => (hk_.2.1) hs_)) (fun k_ hk_ => ⟨hk_.1.1, hk_.1.2.1, hk_.1.2.2.1, hk_.1.2.2.2⟩)); have n3_ := Aside0.mk (Kd.R_mono (ok' := fun k_ => some k_ ≠ (v685 : Value).ownBlock ∧ some k_ ≠ (.slice Ao73 t700.length co73 : Value).ownBlock ∧ some k_ ≠ (.slice Ao27 t718.length co27 : Value).ownBlock ∧ some k_ ≠ (.slice Ao31 t720.length co31 : Value).ownBlock) (Kd.R_keptB (HO_700003.out) hkp (fun k_ hk_ hs_ => (hk_.2.1) hs_)) (fun k_ hk_ => ⟨hk_.1.1, hk_.1.2.1, hk_.1.2.2.1, hk_.1.2.2.2⟩)); have n4_ := Aside0.mk (Kd.R_mono (ok' := fun k_ => some k_ ≠ (v685 : Value).ownBlock ∧ some k_ ≠ (.slice Ao73 t700.length co73 : Value).ownBlock ∧ some k_ ≠ (.slice Ao27 t718.length co27 : Value).ownBlock ∧ some k_ ≠ (.slice Ao30 t719.length co30 : Value).ownBlock) (Kd.R_keptB (HO_700004.out) hkp (fun k_ hk_ hs_ => (hk_.2.1) hs_)) (fun k_ hk_ => ⟨hk_.1.1, hk_.1.2.1, hk_.1.2.2.1, hk_.1.2.2.2⟩)); have n5_ := Aside0.mk (blk_kept (by (with_reducible repeat (first | refine blk_drewN ?_ _ | refine blk_drew ?_ | refine blk_alloc ?_ _)); exact BK671.out) hkp (fun hs_ => (fun e_ => (Kd.R_ne HO_9.out BK671.out (by decide)) e_) hs_)); have n6_ := Aside0.mk (blk_kept (by (with_reducible repeat (first | refine blk_drewN ?_ _ | refine blk_drew ?_ | refine blk_alloc ?_ _)); exact BK699.out) hkp (fun hs_ => (fun e_ => (Kd.R_ne HO_9.out BK699.out (by decide)) e_) hs_)); have n7_ := Aside0.mk (hb); clear HO_6; clear HO_9; clear HO_700000; clear HO_700003; clear HO_700004; clear BK671; clear BK699; clear HB; have HO_6 := n0_; have HO_9 := n1_; have HO_700000 := n2_; have HO_700003 := n3_; have HO_700004 := n4_; have BK671 := n5_; have BK699 := n6_; have HB := n7_; clear n0_ n1_ n2_ n3_ n4_ n5_ n6_ n7_; (try clear hb); (try clear hkp); (try clear hy0)) | ((with_reducible refine gate_callee (f := 39) rfl ?_); refine goesL_ (some 74) rfl rfl Tryd.func39 (by kernel_rfl) rfl #[.slice Ao73 t723.length co73, .int .i64 1] rfl (by (try simp only [List.map_toArray, List.map_cons, List.map_nil]); first | done | (rw [show t723.length = t700.length from (Kd.R_reads' HO_9.out).1.symm] <;> rfl) | rfl | (simp only [List.length_drop, List.length_take]; rfl)) ?_; (with_reducible refine (laws_heldToneS.calls kj45 _ _ t723 1 t724 _ ?side1 ?side2 A67.out).mono ?_); (case side1 => repeat (first | exact (Kd.R_reads' HO_9.out).2.2 | (with_reducible refine Kd.C_alloc ?_ _) | (with_reducible refine Kd.C_drewN ?_ _) | (with_reducible refine Kd.C_drew ?_))); (case side2 => rw [show t723.length = t700.length from (Kd.R_reads' HO_9.out).1.symm]; exact (Kd.R_reads' HO_9.out).2.1); rintro e w' ⟨rfl, ⟨nd, rfl⟩⟩; refine ⟨_, rfl, ?_⟩; have hnb75 := NB671_699.out; have hnc75 := NB699_671.out; have hcz76_0 : w74.cell? ⟨gb671, 0, none⟩ = some (.slice A0_0 l0_0.length c0_0) := (blk_cell BK671.out 0).trans rfl; have hcz76_1 : w74.cell? ⟨gb671, 1, none⟩ = some (.int .i64 a0_1) := (blk_cell BK671.out 1).trans rfl; have hcz76_2 : w74.cell? ⟨gb671, 2, none⟩ = some (.bool a0_2) := (blk_cell BK671.out 2).trans rfl; have hcz76_3 : w74.cell? ⟨gb671, 3, none⟩ = some (.slice A0_3 l0_3.length c0_3) := (blk_cell BK671.out 3).trans rfl; have hcz76_4 : w74.cell? ⟨gb671, 4, none⟩ = some (.slice A0_4 l0_4.length c0_4) := (blk_cell BK671.out 4).trans rfl; have hfz76_0 := blk_frozen BK671.out 0; have hfz76_1 := blk_frozen BK671.out 1; have hfz76_2 := blk_frozen BK671.out 2; have hfz76_3 := blk_frozen BK671.out 3; have hfz76_4 := blk_frozen BK671.out 4) | ((with_reducible refine gate_callee (f := 24) rfl ?_); refine goesL_ (some 82) rfl rfl Tryd.func24 (by kernel_rfl) rfl #[.agg #[.slice A0_0 l0_0.length c0_0, .int .i64 a0_1, .bool a0_2, .slice A0_3 l0_3.length c0_3, .slice A0_4 l0_4.length c0_4]] rfl (by (try simp only [List.map_toArray, List.map_cons, List.map_nil]); first | done | rfl | (simp only [List.length_drop, List.length_take]; rfl)) ?_; (with_reducible refine (laws_toPsalm.calls kj45 _ _ l0_0 a0_1 a0_2 _ _ l0_3 _ _ l0_4 t725 t728 t729 t730 t733 _ ?side1 ?side2 ?side3 ?side4 ?side5 ?side6 A70.out).mono ?_); (case side1 => repeat (first | exact (Kd.C_below HR0_0.out (by repeat (first | (with_reducible first | exact HB.out | apply below_alloc | apply pw_below_drewN | apply below_drew1 | refine below_set ?_ GE671.out | refine below_set ?_ GE699.out) | exact HB.out))) | (with_reducible refine Kd.C_alloc ?_ _) | (with_reducible refine Kd.C_drewN ?_ _) | (with_reducible refine Kd.C_drew ?_))); (case side2 => exact HC0_0.out); (case side3 => repeat (first | exact (Kd.C_below HR0_3.out (by repeat (first | (with_reducible first | exact HB.out | apply below_alloc | apply pw_below_drewN | apply below_drew1 | refine below_set ?_ GE671.out | refine below_set ?_ GE699.out) | exact HB.out))) | (with_reducible refine Kd.C_alloc ?_ _) | (with_reducible refine Kd.C_drewN ?_ _) | (with_reducible refine Kd.C_drew ?_))); (case side4 => exact HC0_3.out); (case side5 => repeat (first | exact (Kd.C_below HR0_4.out (by repeat (first | (with_reducible first | exact HB.out | apply below_alloc | apply pw_below_drewN | apply below_drew1 | refine below_set ?_ GE671.out | refine below_set ?_ GE699.out) | exact HB.out))) | (with_reducible refine Kd.C_alloc ?_ _) | (with_reducible refine Kd.C_drewN ?_ _) | (with_reducible refine Kd.C_drew ?_))); (case side6 => exact HC0_4.out); rintro e w77 ⟨v726, v731, v734, rfl, ho0, ho1, ho2, hb⟩; refine ⟨_, rfl, ?_⟩; have n0_ := Aside0.mk (Kd.R_mono (Kd.R_told (Kd.R_told (Kd.R_told (Kd.R_old (by (with_reducible repeat (first | apply Kd.R_alloc | apply Kd.R_drewN | apply Kd.R_drew)); exact HO_6.out) hb) (Kd.R_base ho0)) (Kd.R_base ho1)) (Kd.R_base ho2)) (fun _ h_ => h_.1)); have n1_ := Aside0.mk (Kd.R_mono (Kd.R_told (Kd.R_told (Kd.R_told (Kd.R_old (by (with_reducible repeat (first | apply Kd.R_alloc | apply Kd.R_drewN | apply Kd.R_drew)); exact HO_9.out) hb) (Kd.R_base ho0)) (Kd.R_base ho1)) (Kd.R_base ho2)) (fun _ h_ => h_.1)); have n2_ := Aside0.mk (Kd.R_mono (Kd.R_told (Kd.R_told (Kd.R_told (Kd.R_old (by (with_reducible repeat (first | apply Kd.R_alloc | apply Kd.R_drewN | apply Kd.R_drew)); exact HO_700000.out) hb) (Kd.R_base ho0)) (Kd.R_base ho1)) (Kd.R_base ho2)) (fun _ h_ => h_.1)); have n3_ := Aside0.mk (Kd.R_mono (Kd.R_told (Kd.R_told (Kd.R_told (Kd.R_old (by (with_reducible repeat (first | apply Kd.R_alloc | apply Kd.R_drewN | apply Kd.R_drew)); exact HO_700003.out) hb) (Kd.R_base ho0)) (Kd.R_base ho1)) (Kd.R_base ho2)) (fun _ h_ => h_.1)); have n4_ := Aside0.mk (Kd.R_mono (Kd.R_told (Kd.R_told (Kd.R_told (Kd.R_old (by (with_reducible repeat (first | apply Kd.R_alloc | apply Kd.R_drewN | apply Kd.R_drew)); exact HO_700004.out) hb) (Kd.R_base ho0)) (Kd.R_base ho1)) (Kd.R_base ho2)) (fun _ h_ => h_.1)); have n5_ := Aside0.mk (Kd.R_lower (Kd.R_new' (Kd.R_new' (Kd.R_new' (Kd.R_new' (Kd.R_new' ho0 (Kd.R_lt (by (with_reducible repeat (first | apply Kd.R_alloc | apply Kd.R_drewN | apply Kd.R_drew)); exact HO_6.out))) (Kd.R_lt (by (with_reducible repeat (first | apply Kd.R_alloc | apply Kd.R_drewN | apply Kd.R_drew)); exact HO_9.out))) (Kd.R_lt (by (with_reducible repeat (first | apply Kd.R_alloc | apply Kd.R_drewN | apply Kd.R_drew)); exact HO_700000.out))) (Kd.R_lt (by (with_reducible repeat (first | apply Kd.R_alloc | apply Kd.R_drewN | apply Kd.R_drew)); exact HO_700003.out))) (Kd.R_lt (by (with_reducible repeat (first | apply Kd.R_alloc | apply Kd.R_drewN | apply Kd.R_drew)); exact HO_700004.out))) (below_size (by repeat (first | (with_reducible first | exact HB.out | apply below_alloc | apply pw_below_drewN | apply below_drew1 | refine below_set ?_ GE671.out | refine below_set ?_ GE699.out) | exact HB.out)))); have n6_ := Aside0.mk (Kd.R_lower (Kd.R_new' (Kd.R_new' (Kd.R_new' (Kd.R_new' (Kd.R_new' ho1 (Kd.R_lt (by (with_reducible repeat (first | apply Kd.R_alloc | apply Kd.R_drewN | apply Kd.R_drew)); exact HO_6.out))) (Kd.R_lt (by (with_reducible repeat (first | apply Kd.R_alloc | apply Kd.R_drewN | apply Kd.R_drew)); exact HO_9.out))) (Kd.R_lt (by (with_reducible repeat (first | apply Kd.R_alloc | apply Kd.R_drewN | apply Kd.R_drew)); exact HO_700000.out))) (Kd.R_lt (by (with_reducible repeat (first | apply Kd.R_alloc | apply Kd.R_drewN | apply Kd.R_drew)); exact HO_700003.out))) (Kd.R_lt (by (with_reducible repeat (first | apply Kd.R_alloc | apply Kd.R_drewN | apply Kd.R_drew)); exact HO_700004.out))) (below_size (by repeat (first | (with_reducible first | exact HB.out | apply below_alloc | apply pw_below_drewN | apply below_drew1 | refine below_set ?_ GE671.out | refine below_set ?_ GE699.out) | exact HB.out)))); have n7_ := Aside0.mk (Kd.R_lower (Kd.R_new' (Kd.R_new' (Kd.R_new' (Kd.R_new' (Kd.R_new' ho2 (Kd.R_lt (by (with_reducible repeat (first | apply Kd.R_alloc | apply Kd.R_drewN | apply Kd.R_drew)); exact HO_6.out))) (Kd.R_lt (by (with_reducible repeat (first | apply Kd.R_alloc | apply Kd.R_drewN | apply Kd.R_drew)); exact HO_9.out))) (Kd.R_lt (by (with_reducible repeat (first | apply Kd.R_alloc | apply Kd.R_drewN | apply Kd.R_drew)); exact HO_700000.out))) (Kd.R_lt (by (with_reducible repeat (first | apply Kd.R_alloc | apply Kd.R_drewN | apply Kd.R_drew)); exact HO_700003.out))) (Kd.R_lt (by (with_reducible repeat (first | apply Kd.R_alloc | apply Kd.R_drewN | apply Kd.R_drew)); exact HO_700004.out))) (below_size (by repeat (first | (with_reducible first | exact HB.out | apply below_alloc | apply pw_below_drewN | apply below_drew1 | refine below_set ?_ GE671.out | refine below_set ?_ GE699.out) | exact HB.out)))); have n8_ := Aside0.mk (blk_below (g := gb671) (o := .cells #[.slice A0_0 l0_0.length c0_0, .int .i64 a0_1, .bool a0_2, .slice A0_3 l0_3.length c0_3, .slice A0_4 l0_4.length c0_4] 41 (0, 0)) (by (with_reducible repeat (first | refine blk_drewN ?_ _ | refine blk_drew ?_ | refine blk_alloc ?_ _)); exact BK671.out) hb); have n9_ := Aside0.mk (blk_below (g := gb699) (o := .cells #[.slice Ao27 t718.length co27, .int .i64 t691, .bool t692, .slice Ao30 t719.length co30, .slice Ao31 t720.length co31] 27 (0, 0)) (by (with_reducible repeat (first | refine blk_drewN ?_ _ | refine blk_drew ?_ | refine blk_alloc ?_ _)); exact BK699.out) hb); have n10_ := Aside0.mk (below_step (by repeat (first | (with_reducible first | exact HB.out | apply below_alloc | apply pw_below_drewN | apply below_drew1 | refine below_set ?_ GE671.out | refine below_set ?_ GE699.out) | exact HB.out)) hb); clear HO_6; clear HO_9; clear HO_700000; clear HO_700003; clear HO_700004; clear BK671; clear BK699; clear HB; have HO_6 := n0_; have HO_9 := n1_; have HO_700000 := n2_; have HO_700003 := n3_; have HO_700004 := n4_; have HO727 := n5_; have HO732 := n6_; have HO735 := n7_; have BK671 := n8_; have BK699 := n9_; have HB := n10_; clear n0_ n1_ n2_ n3_ n4_ n5_ n6_ n7_ n8_ n9_ n10_; (try clear hb); (try clear hb2); (try clear hk); (try clear hi); (try clear ho0); (try clear ho1); (try clear ho2); obtain ⟨Ao78, co78, eo78⟩ := Kd.R_slice HO727.out; subst eo78; obtain ⟨Ao79, co79, eo79⟩ := Kd.R_slice HO732.out; subst eo79; obtain ⟨Ao80, co80, eo80⟩ := Kd.R_slice HO735.out; subst eo80) | ((with_reducible refine gate_callee (f := 19) rfl ?_); refine goesL_ (some 84) rfl rfl Tryd.func19 (by kernel_rfl) rfl #[.agg #[.slice Ao78 t725.length co78, .int .i64 t728, .bool t729, .slice Ao79 t730.length co79, .slice Ao80 t733.length co80], .string a1] rfl (by (try simp only [List.map_toArray, List.map_cons, List.map_nil]); first | done | rfl | (simp only [List.length_drop, List.length_take]; rfl)) ?_; (with_reducible refine (impl_PsalmSing.calls kj45 _ _ t725 t728 t729 _ _ t730 _ _ t733 a1 t736 t739 _ ?side1 ?side2 ?side3 ?side4 ?side5 ?side6 ?side7 A71.out).mono ?_); (case side1 => repeat (first | exact (Kd.R_reads' HO727.out).2.2 | (with_reducible refine Kd.C_alloc ?_ _) | (with_reducible refine Kd.C_drewN ?_ _) | (with_reducible refine Kd.C_drew ?_))); (case side2 => exact (Kd.R_reads' HO727.out).2.1); (case side3 => repeat (first | exact (Kd.R_reads' HO732.out).2.2 | (with_reducible refine Kd.C_alloc ?_ _) | (with_reducible refine Kd.C_drewN ?_ _) | (with_reducible refine Kd.C_drew ?_))); (case side4 => exact (Kd.R_reads' HO732.out).2.1); (case side5 => repeat (first | exact (Kd.R_reads' HO735.out).2.2 | (with_reducible refine Kd.C_alloc ?_ _) | (with_reducible refine Kd.C_drewN ?_ _) | (with_reducible refine Kd.C_drew ?_))); (case side6 => exact (Kd.R_reads' HO735.out).2.1); (case side7 => exact GOk.sub (GOk.below HG.out (by repeat (first | (with_reducible first | exact HB.out | apply below_alloc | apply pw_below_drewN | apply below_drew1 | refine below_set ?_ GE671.out | refine below_set ?_ GE699.out) | exact HB.out))) (by decide)); rintro e w81 ⟨v737, rfl, ho0, hb⟩; refine ⟨_, rfl, ?_⟩; have n0_ := Aside0.mk (Kd.R_elder' (by (with_reducible repeat (first | apply Kd.R_alloc | apply Kd.R_drewN | apply Kd.R_drew)); exact HO_6.out) (Kd.R_base ho0) hb); have n1_ := Aside0.mk (Kd.R_elder' (by (with_reducible repeat (first | apply Kd.R_alloc | apply Kd.R_drewN | apply Kd.R_drew)); exact HO_9.out) (Kd.R_base ho0) hb); have n2_ := Aside0.mk (Kd.R_elder' (by (with_reducible repeat (first | apply Kd.R_alloc | apply Kd.R_drewN | apply Kd.R_drew)); exact HO_700000.out) (Kd.R_base ho0) hb); have n3_ := Aside0.mk (Kd.R_elder' (by (with_reducible repeat (first | apply Kd.R_alloc | apply Kd.R_drewN | apply Kd.R_drew)); exact HO_700003.out) (Kd.R_base ho0) hb); have n4_ := Aside0.mk (Kd.R_elder' (by (with_reducible repeat (first | apply Kd.R_alloc | apply Kd.R_drewN | apply Kd.R_drew)); exact HO_700004.out) (Kd.R_base ho0) hb); have n5_ := Aside0.mk (Kd.R_elder' (by (with_reducible repeat (first | apply Kd.R_alloc | apply Kd.R_drewN | apply Kd.R_drew)); exact HO727.out) (Kd.R_base ho0) hb); have n6_ := Aside0.mk (Kd.R_elder' (by (with_reducible repeat (first | apply Kd.R_alloc | apply Kd.R_drewN | apply Kd.R_drew)); exact HO732.out) (Kd.R_base ho0) hb); have n7_ := Aside0.mk (Kd.R_elder' (by (with_reducible repeat (first | apply Kd.R_alloc | apply Kd.R_drewN | apply Kd.R_drew)); exact HO735.out) (Kd.R_base ho0) hb); have n8_ := Aside0.mk (Kd.R_lower (Kd.R_new' (Kd.R_new' (Kd.R_new' (Kd.R_new' (Kd.R_new' (Kd.R_new' (Kd.R_new' (Kd.R_new' ho0 (Kd.R_lt (by (with_reducible repeat (first | apply Kd.R_alloc | apply Kd.R_drewN | apply Kd.R_drew)); exact HO_6.out))) (Kd.R_lt (by (with_reducible repeat (first | apply Kd.R_alloc | apply Kd.R_drewN | apply Kd.R_drew)); exact HO_9.out))) (Kd.R_lt (by (with_reducible repeat (first | apply Kd.R_alloc | apply Kd.R_drewN | apply Kd.R_drew)); exact HO_700000.out))) (Kd.R_lt (by (with_reducible repeat (first | apply Kd.R_alloc | apply Kd.R_drewN | apply Kd.R_drew)); exact HO_700003.out))) (Kd.R_lt (by (with_reducible repeat (first | apply Kd.R_alloc | apply Kd.R_drewN | apply Kd.R_drew)); exact HO_700004.out))) (Kd.R_lt (by (with_reducible repeat (first | apply Kd.R_alloc | apply Kd.R_drewN | apply Kd.R_drew)); exact HO727.out))) (Kd.R_lt (by (with_reducible repeat (first | apply Kd.R_alloc | apply Kd.R_drewN | apply Kd.R_drew)); exact HO732.out))) (Kd.R_lt (by (with_reducible repeat (first | apply Kd.R_alloc | apply Kd.R_drewN | apply Kd.R_drew)); exact HO735.out))) (below_size (by repeat (first | (with_reducible first | exact HB.out | apply below_alloc | apply pw_below_drewN | apply below_drew1 | refine below_set ?_ GE671.out | refine below_set ?_ GE699.out) | exact HB.out)))); have n9_ := Aside0.mk (blk_below (g := gb671) (o := .cells #[.slice A0_0 l0_0.length c0_0, .int .i64 a0_1, .bool a0_2, .slice A0_3 l0_3.length c0_3, .slice A0_4 l0_4.length c0_4] 41 (0, 0)) (by (with_reducible repeat (first | refine blk_drewN ?_ _ | refine blk_drew ?_ | refine blk_alloc ?_ _)); exact BK671.out) hb); have n10_ := Aside0.mk (blk_below (g := gb699) (o := .cells #[.slice Ao27 t718.length co27, .int .i64 t691, .bool t692, .slice Ao30 t719.length co30, .slice Ao31 t720.length co31] 27 (0, 0)) (by (with_reducible repeat (first | refine blk_drewN ?_ _ | refine blk_drew ?_ | refine blk_alloc ?_ _)); exact BK699.out) hb); have n11_ := Aside0.mk (below_step (by repeat (first | (with_reducible first | exact HB.out | apply below_alloc | apply pw_below_drewN | apply below_drew1 | refine below_set ?_ GE671.out | refine below_set ?_ GE699.out) | exact HB.out)) hb); clear HO_6; clear HO_9; clear HO_700000; clear HO_700003; clear HO_700004; clear HO727; clear HO732; clear HO735; clear BK671; clear BK699; clear HB; have HO_6 := n0_; have HO_9 := n1_; have HO_700000 := n2_; have HO_700003 := n3_; have HO_700004 := n4_; have HO727 := n5_; have HO732 := n6_; have HO735 := n7_; have HO738 := n8_; have BK671 := n9_; have BK699 := n10_; have HB := n11_; clear n0_ n1_ n2_ n3_ n4_ n5_ n6_ n7_ n8_ n9_ n10_ n11_; (try clear hb); (try clear hb2); (try clear hk); (try clear hi); (try clear ho0)))
     (try simp only [Act.put, List.setIfInBounds_toArray, List.set_cons_zero, List.set_cons_succ])
     go_cut [95] (fun v95 wc => ∃ (kq : Nat) (x95_71 : Bool), v95 = .bool x95_71 ∧ Aside0 (laws_FnExactPsalmSing.j2 kq t723 t722 x95_71 = some r) ∧ Aside0 (kq ≤ kj45) ∧ Aside0 (Kd.R k25 25 wc w.heap.size (fun k_ => some k_ ≠ ((.slice Ao27 t718.length co27) : Value).ownBlock ∧ some k_ ≠ ((.slice Ao30 t719.length co30) : Value).ownBlock ∧ some k_ ≠ ((.slice Ao31 t720.length co31) : Value).ownBlock) (.slice Ao73 t700.length co73) t723) ∧ Aside0 (Kd.R k25 25 wc w.heap.size (fun k_ => some k_ ≠ ((.slice Ao73 t700.length co73) : Value).ownBlock ∧ some k_ ≠ ((.slice Ao30 t719.length co30) : Value).ownBlock ∧ some k_ ≠ ((.slice Ao31 t720.length co31) : Value).ownBlock) (.slice Ao27 t718.length co27) t718) ∧ Aside0 (Kd.R k25 25 wc w.heap.size (fun k_ => some k_ ≠ ((.slice Ao73 t700.length co73) : Value).ownBlock ∧ some k_ ≠ ((.slice Ao27 t718.length co27) : Value).ownBlock ∧ some k_ ≠ ((.slice Ao31 t720.length co31) : Value).ownBlock) (.slice Ao30 t719.length co30) t719) ∧ Aside0 (Kd.R k25 25 wc w.heap.size (fun k_ => some k_ ≠ ((.slice Ao73 t700.length co73) : Value).ownBlock ∧ some k_ ≠ ((.slice Ao27 t718.length co27) : Value).ownBlock ∧ some k_ ≠ ((.slice Ao30 t719.length co30) : Value).ownBlock) (.slice Ao31 t720.length co31) t720) ∧ Aside0 (wc.heap[gb671]? = some (.cells #[(.slice A0_0 l0_0.length c0_0), .int .i64 a0_1, .bool a0_2, (.slice A0_3 l0_3.length c0_3), (.slice A0_4 l0_4.length c0_4)] 41 (0, 0))) ∧ Aside0 (wc.heap[gb699]? = some (.cells #[(.slice Ao27 t718.length co27), .int .i64 t691, .bool t692, (.slice Ao30 t719.length co30), (.slice Ao31 t720.length co31)] 27 (0, 0))) ∧ Aside0 (Below w.heap.size w wc))
     case first =>
      have H := HC72.out
      clear HC72
      replace H := Option.bind_eq_some_iff.mp H
      obtain ⟨t740, A820, H⟩ := H
      replace H : (if t740 = true then (laws_FnExactPsalmSing.j2 kj45 t723 t722 (t739 != t687)) else (laws_FnExactPsalmSing.j2 kj45 t723 t722 true)) = some r := H
      have A82 := Aside0.mk A820
      clear A820
      by_cases c83 : t740 = true
      ·subst c83
       have H1 : (laws_FnExactPsalmSing.j2 kj45 t723 t722 (t739 != t687)) = some r := by rw [if_pos rfl] at H; exact H
       clear H
       have H := H1
       clear H1
       have H' := Aside0.mk H
       clear H
       obtain ⟨Ao84, co84, eo84⟩ := Kd.R_slice HO738.out
       subst eo84
       obtain ⟨Ao85, co85, eo85⟩ := Kd.R_slice HO_6.out
       subst eo85
       go_wp2_with (first | ((with_reducible refine gate_callee (f := 36) rfl ?_); refine goesL_ (some 89) rfl rfl Tryd.func36 (by kernel_rfl) rfl #[.slice Ao84 t736.length co84, .slice Ao85 t684.length co85] rfl (by (try simp only [List.map_toArray, List.map_cons, List.map_nil]); first | done | rfl | (simp only [List.length_drop, List.length_take]; rfl)) ?_; (with_reducible refine (laws_eqToneS.calls kj45 _ _ t736 _ _ t684 true _ ?side1 ?side2 ?side3 ?side4 A82.out).mono ?_); (case side1 => repeat (first | exact (Kd.R_reads' HO738.out).2.2 | (with_reducible refine Kd.C_alloc ?_ _) | (with_reducible refine Kd.C_drewN ?_ _) | (with_reducible refine Kd.C_drew ?_))); (case side2 => exact (Kd.R_reads' HO738.out).2.1); (case side3 => repeat (first | exact (Kd.R_reads' HO_6.out).2.2 | (with_reducible refine Kd.C_alloc ?_ _) | (with_reducible refine Kd.C_drewN ?_ _) | (with_reducible refine Kd.C_drew ?_))); (case side4 => exact (Kd.R_reads' HO_6.out).2.1); rintro e w86 ⟨rfl, hb⟩; refine ⟨_, rfl, ?_⟩; have n0_ := Aside0.mk (Kd.R_below (by (with_reducible repeat (first | apply Kd.R_alloc | apply Kd.R_drewN | apply Kd.R_drew)); exact HO_6.out) hb); have n1_ := Aside0.mk (Kd.R_below (by (with_reducible repeat (first | apply Kd.R_alloc | apply Kd.R_drewN | apply Kd.R_drew)); exact HO_9.out) hb); have n2_ := Aside0.mk (Kd.R_below (by (with_reducible repeat (first | apply Kd.R_alloc | apply Kd.R_drewN | apply Kd.R_drew)); exact HO_700000.out) hb); have n3_ := Aside0.mk (Kd.R_below (by (with_reducible repeat (first | apply Kd.R_alloc | apply Kd.R_drewN | apply Kd.R_drew)); exact HO_700003.out) hb); have n4_ := Aside0.mk (Kd.R_below (by (with_reducible repeat (first | apply Kd.R_alloc | apply Kd.R_drewN | apply Kd.R_drew)); exact HO_700004.out) hb); have n5_ := Aside0.mk (Kd.R_below (by (with_reducible repeat (first | apply Kd.R_alloc | apply Kd.R_drewN | apply Kd.R_drew)); exact HO727.out) hb); have n6_ := Aside0.mk (Kd.R_below (by (with_reducible repeat (first | apply Kd.R_alloc | apply Kd.R_drewN | apply Kd.R_drew)); exact HO732.out) hb); have n7_ := Aside0.mk (Kd.R_below (by (with_reducible repeat (first | apply Kd.R_alloc | apply Kd.R_drewN | apply Kd.R_drew)); exact HO735.out) hb); have n8_ := Aside0.mk (Kd.R_below (by (with_reducible repeat (first | apply Kd.R_alloc | apply Kd.R_drewN | apply Kd.R_drew)); exact HO738.out) hb); have n9_ := Aside0.mk (blk_below (g := gb671) (o := .cells #[.slice A0_0 l0_0.length c0_0, .int .i64 a0_1, .bool a0_2, .slice A0_3 l0_3.length c0_3, .slice A0_4 l0_4.length c0_4] 41 (0, 0)) (by (with_reducible repeat (first | refine blk_drewN ?_ _ | refine blk_drew ?_ | refine blk_alloc ?_ _)); exact BK671.out) hb); have n10_ := Aside0.mk (blk_below (g := gb699) (o := .cells #[.slice Ao27 t718.length co27, .int .i64 t691, .bool t692, .slice Ao30 t719.length co30, .slice Ao31 t720.length co31] 27 (0, 0)) (by (with_reducible repeat (first | refine blk_drewN ?_ _ | refine blk_drew ?_ | refine blk_alloc ?_ _)); exact BK699.out) hb); have n11_ := Aside0.mk (below_step (by repeat (first | (with_reducible first | exact HB.out | apply below_alloc | apply pw_below_drewN | apply below_drew1 | refine below_set ?_ GE671.out | refine below_set ?_ GE699.out) | exact HB.out)) hb); clear HO_6; clear HO_9; clear HO_700000; clear HO_700003; clear HO_700004; clear HO727; clear HO732; clear HO735; clear HO738; clear BK671; clear BK699; clear HB; have HO_6 := n0_; have HO_9 := n1_; have HO_700000 := n2_; have HO_700003 := n3_; have HO_700004 := n4_; have HO727 := n5_; have HO732 := n6_; have HO735 := n7_; have HO738 := n8_; have BK671 := n9_; have BK699 := n10_; have HB := n11_; clear n0_ n1_ n2_ n3_ n4_ n5_ n6_ n7_ n8_ n9_ n10_ n11_; (try clear hb); (try clear hb2); (try clear hk); (try clear hi)))
       go_meet
       case rel => exact ⟨_, ((t739 != t687)), (by first | rfl | (simp; done) | (simp [*]; done)), H', ⟨by have := HJ13.out; have := HJ45.out; first | omega | exact Nat.le_refl _⟩, ⟨by (try simp only [hl700000_45]); (try simp only [hl700003_45]); (try simp only [hl700004_45]); (with_reducible repeat (first | apply Kd.R_alloc | apply Kd.R_drewN | apply Kd.R_drew)); exact Kd.R_mono HO_9.out (fun _ hk => ⟨hk.1.1.1.1.2.1, ⟨hk.1.1.1.1.2.2.1, hk.1.1.1.1.2.2.2⟩⟩)⟩, ⟨by (try simp only [hl700000_45]); (try simp only [hl700003_45]); (try simp only [hl700004_45]); (with_reducible repeat (first | apply Kd.R_alloc | apply Kd.R_drewN | apply Kd.R_drew)); exact Kd.R_mono HO_700000.out (fun _ hk => ⟨hk.1.1.1.1.2.1, ⟨hk.1.1.1.1.2.2.1, hk.1.1.1.1.2.2.2⟩⟩)⟩, ⟨by (try simp only [hl700000_45]); (try simp only [hl700003_45]); (try simp only [hl700004_45]); (with_reducible repeat (first | apply Kd.R_alloc | apply Kd.R_drewN | apply Kd.R_drew)); exact Kd.R_mono HO_700003.out (fun _ hk => ⟨hk.1.1.1.1.2.1, ⟨hk.1.1.1.1.2.2.1, hk.1.1.1.1.2.2.2⟩⟩)⟩, ⟨by (try simp only [hl700000_45]); (try simp only [hl700003_45]); (try simp only [hl700004_45]); (with_reducible repeat (first | apply Kd.R_alloc | apply Kd.R_drewN | apply Kd.R_drew)); exact Kd.R_mono HO_700004.out (fun _ hk => ⟨hk.1.1.1.1.2.1, ⟨hk.1.1.1.1.2.2.1, hk.1.1.1.1.2.2.2⟩⟩)⟩, ⟨by (try simp only [hl700000_45]); (try simp only [hl700003_45]); (try simp only [hl700004_45]); (with_reducible repeat (first | refine blk_drewN ?_ _ | refine blk_drew ?_ | refine blk_alloc ?_ _)); exact BK671.out⟩, ⟨by (try simp only [hl700000_45]); (try simp only [hl700003_45]); (try simp only [hl700004_45]); (with_reducible repeat (first | refine blk_drewN ?_ _ | refine blk_drew ?_ | refine blk_alloc ?_ _)); exact BK699.out⟩, ⟨by repeat (first | (with_reducible first | exact HB.out | apply below_alloc | apply pw_below_drewN | apply below_drew1 | refine below_set ?_ GE671.out | refine below_set ?_ GE699.out) | exact HB.out)⟩⟩
      replace c83 := Bool.eq_false_iff.mpr c83
      subst c83
      have H1 : (laws_FnExactPsalmSing.j2 kj45 t723 t722 true) = some r := by rw [if_neg (show ¬ (false = true) by decide)] at H; exact H
      clear H
      have H := H1
      clear H1
      have H' := Aside0.mk H
      clear H
      obtain ⟨Ao87, co87, eo87⟩ := Kd.R_slice HO738.out
      subst eo87
      obtain ⟨Ao88, co88, eo88⟩ := Kd.R_slice HO_6.out
      subst eo88
      go_wp2_with (first | ((with_reducible refine gate_callee (f := 36) rfl ?_); refine goesL_ (some 89) rfl rfl Tryd.func36 (by kernel_rfl) rfl #[.slice Ao87 t736.length co87, .slice Ao88 t684.length co88] rfl (by (try simp only [List.map_toArray, List.map_cons, List.map_nil]); first | done | rfl | (simp only [List.length_drop, List.length_take]; rfl)) ?_; (with_reducible refine (laws_eqToneS.calls kj45 _ _ t736 _ _ t684 false _ ?side1 ?side2 ?side3 ?side4 A82.out).mono ?_); (case side1 => repeat (first | exact (Kd.R_reads' HO738.out).2.2 | (with_reducible refine Kd.C_alloc ?_ _) | (with_reducible refine Kd.C_drewN ?_ _) | (with_reducible refine Kd.C_drew ?_))); (case side2 => exact (Kd.R_reads' HO738.out).2.1); (case side3 => repeat (first | exact (Kd.R_reads' HO_6.out).2.2 | (with_reducible refine Kd.C_alloc ?_ _) | (with_reducible refine Kd.C_drewN ?_ _) | (with_reducible refine Kd.C_drew ?_))); (case side4 => exact (Kd.R_reads' HO_6.out).2.1); rintro e w89 ⟨rfl, hb⟩; refine ⟨_, rfl, ?_⟩; have n0_ := Aside0.mk (Kd.R_below (by (with_reducible repeat (first | apply Kd.R_alloc | apply Kd.R_drewN | apply Kd.R_drew)); exact HO_6.out) hb); have n1_ := Aside0.mk (Kd.R_below (by (with_reducible repeat (first | apply Kd.R_alloc | apply Kd.R_drewN | apply Kd.R_drew)); exact HO_9.out) hb); have n2_ := Aside0.mk (Kd.R_below (by (with_reducible repeat (first | apply Kd.R_alloc | apply Kd.R_drewN | apply Kd.R_drew)); exact HO_700000.out) hb); have n3_ := Aside0.mk (Kd.R_below (by (with_reducible repeat (first | apply Kd.R_alloc | apply Kd.R_drewN | apply Kd.R_drew)); exact HO_700003.out) hb); have n4_ := Aside0.mk (Kd.R_below (by (with_reducible repeat (first | apply Kd.R_alloc | apply Kd.R_drewN | apply Kd.R_drew)); exact HO_700004.out) hb); have n5_ := Aside0.mk (Kd.R_below (by (with_reducible repeat (first | apply Kd.R_alloc | apply Kd.R_drewN | apply Kd.R_drew)); exact HO727.out) hb); have n6_ := Aside0.mk (Kd.R_below (by (with_reducible repeat (first | apply Kd.R_alloc | apply Kd.R_drewN | apply Kd.R_drew)); exact HO732.out) hb); have n7_ := Aside0.mk (Kd.R_below (by (with_reducible repeat (first | apply Kd.R_alloc | apply Kd.R_drewN | apply Kd.R_drew)); exact HO735.out) hb); have n8_ := Aside0.mk (Kd.R_below (by (with_reducible repeat (first | apply Kd.R_alloc | apply Kd.R_drewN | apply Kd.R_drew)); exact HO738.out) hb); have n9_ := Aside0.mk (blk_below (g := gb671) (o := .cells #[.slice A0_0 l0_0.length c0_0, .int .i64 a0_1, .bool a0_2, .slice A0_3 l0_3.length c0_3, .slice A0_4 l0_4.length c0_4] 41 (0, 0)) (by (with_reducible repeat (first | refine blk_drewN ?_ _ | refine blk_drew ?_ | refine blk_alloc ?_ _)); exact BK671.out) hb); have n10_ := Aside0.mk (blk_below (g := gb699) (o := .cells #[.slice Ao27 t718.length co27, .int .i64 t691, .bool t692, .slice Ao30 t719.length co30, .slice Ao31 t720.length co31] 27 (0, 0)) (by (with_reducible repeat (first | refine blk_drewN ?_ _ | refine blk_drew ?_ | refine blk_alloc ?_ _)); exact BK699.out) hb); have n11_ := Aside0.mk (below_step (by repeat (first | (with_reducible first | exact HB.out | apply below_alloc | apply pw_below_drewN | apply below_drew1 | refine below_set ?_ GE671.out | refine below_set ?_ GE699.out) | exact HB.out)) hb); clear HO_6; clear HO_9; clear HO_700000; clear HO_700003; clear HO_700004; clear HO727; clear HO732; clear HO735; clear HO738; clear BK671; clear BK699; clear HB; have HO_6 := n0_; have HO_9 := n1_; have HO_700000 := n2_; have HO_700003 := n3_; have HO_700004 := n4_; have HO727 := n5_; have HO732 := n6_; have HO735 := n7_; have HO738 := n8_; have BK671 := n9_; have BK699 := n10_; have HB := n11_; clear n0_ n1_ n2_ n3_ n4_ n5_ n6_ n7_ n8_ n9_ n10_ n11_; (try clear hb); (try clear hb2); (try clear hk); (try clear hi)))
      go_meet
      case rel => exact ⟨_, (true), (by first | rfl | (simp; done) | (simp [*]; done)), H', ⟨by have := HJ13.out; have := HJ45.out; first | omega | exact Nat.le_refl _⟩, ⟨by (try simp only [hl700000_45]); (try simp only [hl700003_45]); (try simp only [hl700004_45]); (with_reducible repeat (first | apply Kd.R_alloc | apply Kd.R_drewN | apply Kd.R_drew)); exact Kd.R_mono HO_9.out (fun _ hk => ⟨hk.1.1.1.1.2.1, ⟨hk.1.1.1.1.2.2.1, hk.1.1.1.1.2.2.2⟩⟩)⟩, ⟨by (try simp only [hl700000_45]); (try simp only [hl700003_45]); (try simp only [hl700004_45]); (with_reducible repeat (first | apply Kd.R_alloc | apply Kd.R_drewN | apply Kd.R_drew)); exact Kd.R_mono HO_700000.out (fun _ hk => ⟨hk.1.1.1.1.2.1, ⟨hk.1.1.1.1.2.2.1, hk.1.1.1.1.2.2.2⟩⟩)⟩, ⟨by (try simp only [hl700000_45]); (try simp only [hl700003_45]); (try simp only [hl700004_45]); (with_reducible repeat (first | apply Kd.R_alloc | apply Kd.R_drewN | apply Kd.R_drew)); exact Kd.R_mono HO_700003.out (fun _ hk => ⟨hk.1.1.1.1.2.1, ⟨hk.1.1.1.1.2.2.1, hk.1.1.1.1.2.2.2⟩⟩)⟩, ⟨by (try simp only [hl700000_45]); (try simp only [hl700003_45]); (try simp only [hl700004_45]); (with_reducible repeat (first | apply Kd.R_alloc | apply Kd.R_drewN | apply Kd.R_drew)); exact Kd.R_mono HO_700004.out (fun _ hk => ⟨hk.1.1.1.1.2.1, ⟨hk.1.1.1.1.2.2.1, hk.1.1.1.1.2.2.2⟩⟩)⟩, ⟨by (try simp only [hl700000_45]); (try simp only [hl700003_45]); (try simp only [hl700004_45]); (with_reducible repeat (first | refine blk_drewN ?_ _ | refine blk_drew ?_ | refine blk_alloc ?_ _)); exact BK671.out⟩, ⟨by (try simp only [hl700000_45]); (try simp only [hl700003_45]); (try simp only [hl700004_45]); (with_reducible repeat (first | refine blk_drewN ?_ _ | refine blk_drew ?_ | refine blk_alloc ?_ _)); exact BK699.out⟩, ⟨by repeat (first | (with_reducible first | exact HB.out | apply below_alloc | apply pw_below_drewN | apply below_drew1 | refine below_set ?_ GE671.out | refine below_set ?_ GE699.out) | exact HB.out)⟩⟩
     case rest =>
      clear HC72
      try clear c1
      try clear c2
      try clear p2
      try clear c3
      try clear c3b0
      try clear c3b1
      try clear c4
      try clear c5
      try clear c6
      try clear c6b0
      try clear c7
      try clear c8
      try clear c9
      try clear c19
      try clear c22
      try clear c24
      try clear c26
      try clear c28
      try clear c34
      try clear c36
      try clear c37
      try clear c38
      try clear c39
      try clear c41
      try clear c44
      try clear c53
      try clear c56
      try clear c56b0
      try clear c58
      try clear c65
      try clear c68
      try clear c68b0
      try clear c69
      try clear c69b0
      try clear c69b1
      try clear c75
      try clear c83
      try clear hcz16_0
      try clear hcz16_1
      try clear hcz16_2
      try clear hcz16_3
      try clear hcz16_4
      try clear hcz18_0
      try clear hcz18_1
      try clear hcz18_2
      try clear hcz18_3
      try clear hcz18_4
      try clear hcz24_0
      try clear hcz24_1
      try clear hcz24_2
      try clear hcz24_3
      try clear hcz24_4
      try clear hcz29_0
      try clear hcz29_1
      try clear hcz29_2
      try clear hcz29_3
      try clear hcz29_4
      try clear hcz54_0
      try clear hcz54_1
      try clear hcz54_2
      try clear hcz54_3
      try clear hcz54_4
      try clear hcz76_0
      try clear hcz76_1
      try clear hcz76_2
      try clear hcz76_3
      try clear hcz76_4
      try clear hcz8_0
      try clear hcz8_1
      try clear hcz8_2
      try clear hcz8_3
      try clear hcz8_4
      try clear hfz16_0
      try clear hfz16_1
      try clear hfz16_2
      try clear hfz16_3
      try clear hfz16_4
      try clear hfz18_0
      try clear hfz18_1
      try clear hfz18_2
      try clear hfz18_3
      try clear hfz18_4
      try clear hfz24_0
      try clear hfz24_1
      try clear hfz24_2
      try clear hfz24_3
      try clear hfz24_4
      try clear hfz29_0
      try clear hfz29_1
      try clear hfz29_2
      try clear hfz29_3
      try clear hfz29_4
      try clear hfz54_0
      try clear hfz54_1
      try clear hfz54_2
      try clear hfz54_3
      try clear hfz54_4
      try clear hfz76_0
      try clear hfz76_1
      try clear hfz76_2
      try clear hfz76_3
      try clear hfz76_4
      try clear hfz8_0
      try clear hfz8_1
      try clear hfz8_2
      try clear hfz8_3
      try clear hfz8_4
      try clear p2
      obtain ⟨kq, x95_71, rfl, HA, HJ71, HO_9, HO_700000, HO_700003, HO_700004, BK671, BK699, HB⟩ := hcut
      have hl9_71 := (Kd.R_reads' HO_9.out).1
      rw [hl9_71] at HO_9
      (try simp only [hl9_71])
      (try simp only [hl9_71] at BK671)
      (try simp only [hl9_71] at BK699)
      (try simp only [hl9_71] at HO_700000)
      (try simp only [hl9_71] at HO_700003)
      (try simp only [hl9_71] at HO_700004)
      cases kq with
      | zero => exact absurd HA.out (by simp [laws_FnExactPsalmSing.j2])
      | succ kj71 =>
       have H := HA.out
       clear HA
       simp only [laws_FnExactPsalmSing.j2] at H
       by_cases c90 : x95_71 = true
       ·subst c90
        have H1 : (none) = some r := by rw [if_pos rfl] at H; exact H
        clear H
        have H := H1
        clear H1
        exact absurd H (by simp)
       replace c90 := Bool.eq_false_iff.mpr c90
       subst c90
       have H1 : ((laws_heldToneS.f kj71 t723 1).bind fun t741 => (if t741 < 0 then (none) else (if t741 = t722 then (some true) else (none)))) = some r := by rw [if_neg (show ¬ (false = true) by decide)] at H; exact H
       clear H
       have H := H1
       clear H1
       replace H := Option.bind_eq_some_iff.mp H
       obtain ⟨t741, A910, H⟩ := H
       replace H : (if t741 < 0 then (none) else (if t741 = t722 then (some true) else (none))) = some r := H
       have A91 := Aside0.mk A910
       clear A910
       by_cases c92 : t741 < 0
       ·rw [if_pos c92] at H
        exact absurd H (by simp)
       rw [if_neg c92] at H
       have c92b0 : decide (t741 < 0) = false := decide_eq_false c92
       clear c92
       by_cases c93 : t741 = t722
       rotate_left
       ·rw [if_neg c93] at H
        exact absurd H (by simp)
       rw [if_pos c93] at H
       have c93b0 : (t741 == t722) = true := beq_iff_eq.mpr c93
       have c93b1 : (t741 != t722) = false := bne_eq_false_iff_eq.mpr c93
       clear c93
       obtain rfl := Option.some.inj H
       go_wp2_with (first | ((with_reducible refine gate_callee (f := 39) rfl ?_); refine goesL_ (some 98) rfl rfl Tryd.func39 (by kernel_rfl) rfl #[.slice Ao73 t723.length co73, .int .i64 1] rfl (by (try simp only [List.map_toArray, List.map_cons, List.map_nil]); first | done | rfl | (simp only [List.length_drop, List.length_take]; rfl)) ?_; (with_reducible refine (laws_heldToneS.calls kj71 _ _ t723 1 t741 _ ?side1 ?side2 A91.out).mono ?_); (case side1 => repeat (first | exact (Kd.R_reads' HO_9.out).2.2 | (with_reducible refine Kd.C_alloc ?_ _) | (with_reducible refine Kd.C_drewN ?_ _) | (with_reducible refine Kd.C_drew ?_))); (case side2 => exact (Kd.R_reads' HO_9.out).2.1); rintro e w' ⟨rfl, ⟨nd, rfl⟩⟩; refine ⟨_, rfl, ?_⟩))
       go_ret
       exact ⟨by first | rfl | (simp [errW_none, errW_some] <;> rfl) | (simp [*, errW_none, errW_some] <;> rfl), by repeat (first | (with_reducible first | exact HB.out | apply below_alloc | apply pw_below_drewN | apply below_drew1 | refine below_set ?_ GE671.out | refine below_set ?_ GE699.out) | exact HB.out)⟩
end Go.Proofs.YtdgmkfbmeaalpaaDoor.E
end
section
namespace Go.Proofs.YtdgmkfbmeaalpaaDoor.Pur
open Go.RowKit Go.Proofs.YtdgmkfbmeaalpaaDoorW.PrintWords
def EvP {α : Type} (g : Nat → Option α) (P : α → Prop) : Prop := ∃ r, Ev g r ∧ P r
section
variable {α β : Type}
theorem EvP.bind {g : Nat → Option α} {f : Nat → α → Option β} {P : α → Prop} {Q : β → Prop} (h : EvP g P) (k : ∀ a, P a → EvP (fun n => f n a) Q) : EvP (fun n => (g n).bind (f n)) Q := by
  obtain ⟨a, ha, hp⟩ := h
  obtain ⟨b, hb, hq⟩ := k a hp
  exact ⟨b, Ev.bind ha hb, hq⟩
theorem EvP.ret {P : α → Prop} {r : α} (h : P r) : EvP (fun _ => some r) P := ⟨r, Ev.now r, h⟩
theorem EvP.con {o : Option α} {P : α → Prop} {r : α} (h : o = some r) (hp : P r) : EvP (fun _ => o) P := by subst h; exact .ret hp
theorem EvP.ite {c : Prop} [Decidable c] {f g : Nat → Option α} {P : α → Prop} (h : c → EvP f P) (k : ¬ c → EvP g P) : EvP (fun n => if c then f n else g n) P := by
  by_cases hc : c
  · obtain ⟨r, hr, hp⟩ := h hc
    exact ⟨r, Ev.congr (fun n => if_pos hc) hr, hp⟩
  · obtain ⟨r, hr, hp⟩ := k hc
    exact ⟨r, Ev.congr (fun n => if_neg hc) hr, hp⟩
theorem EvP.yes {c : Prop} [Decidable c] {f g : Nat → Option α} {P : α → Prop} (hc : c) (h : EvP f P) : EvP (fun n => if c then f n else g n) P := .ite (fun _ => h) (fun k => absurd hc k)
theorem EvP.no {c : Prop} [Decidable c] {f g : Nat → Option α} {P : α → Prop} (hc : ¬ c) (h : EvP g P) : EvP (fun n => if c then f n else g n) P := .ite (fun k => absurd k hc) (fun _ => h)
theorem EvP.step {g f : Nat → Option α} {P : α → Prop} (h : ∀ k, g (k + 1) = f k) (k : EvP f P) : EvP g P := by
  obtain ⟨r, hr, hp⟩ := k
  exact ⟨r, Ev.step h hr, hp⟩
theorem EvP.succ {g : Nat → Option α} {P : α → Prop} (k : EvP (fun n => g (n + 1)) P) : EvP g P := EvP.step (fun _ => rfl) k
theorem EvP.mono {g : Nat → Option α} {P Q : α → Prop} (h : EvP g P) (k : ∀ r, P r → Q r) : EvP g Q := by
  obtain ⟨r, hr, hp⟩ := h
  exact ⟨r, hr, k r hp⟩
theorem EvP.rounds {g : Nat → Option α} {r : α} (h : EvP g (· = r)) : ∃ k, g k = some r := by
  obtain ⟨_, hr, rfl⟩ := h
  exact hr.rounds
end
structure Hd (p : Prop) : Prop where mk :: (out : p)
theorem w64 {i : Int} (h0 : -9223372036854775808 ≤ i) (h1 : i ≤ 9223372036854775807) : wrap64 i = i := by unfold wrap64; omega
theorem tmod_pos {a : Int} (b : Int) (h : 0 ≤ a) : Int.tmod a b = a % b := Int.tmod_eq_emod_of_nonneg h
theorem toNat_nat (n : Nat) : ((n : Int)).toNat = n := rfl
theorem toNat_succ (n : Nat) : ((n : Int) + 1).toNat = n + 1 := by omega
end Go.Proofs.YtdgmkfbmeaalpaaDoor.Pur
end
section
namespace Go.Proofs.YtdgmkfbmeaalpaaDoor.E
open Go.RowKit Go.Proofs.YtdgmkfbmeaalpaaDoorW.PrintWords Go.Proofs.YtdgmkfbmeaalpaaDoorW.PrintLast Go.Proofs.YtdgmkfbmeaalpaaDoorW.PrintMore
attribute [local go_sem] max2_int min2_int max_two min_two max_three min_three max_four min_four
set_option linter.unusedVariables false
set_option linter.unusedSimpArgs false
attribute [local go_sem] str_leq_ str_gtr_ str_geq_
def impl_VerseValid.f (a0 : ByteArray) : Option (Bool) := (impl_VerseHalves.f a0).bind fun bt262 => (some bt262.2.2)
end Go.Proofs.YtdgmkfbmeaalpaaDoor.E
end
section
namespace Go.Proofs.YtdgmkfbmeaalpaaDoor.E
open Go.RowKit Go.Proofs.YtdgmkfbmeaalpaaDoorW.PrintWords Go.Proofs.YtdgmkfbmeaalpaaDoorW.PrintLast Go.Proofs.YtdgmkfbmeaalpaaDoorW.PrintMore
attribute [local go_sem] max2_int min2_int max_two min_two max_three min_three max_four min_four
set_option linter.unusedVariables false
set_option linter.unusedSimpArgs false
attribute [local go_sem] str_leq_ str_gtr_ str_geq_
def spec_VerseSyllables.f (k : Nat) (a0 : ByteArray) : Option (Int) := (spec_VerseValid.f k a0).bind fun t314 => (if t314 = true then (some (wrap64 ((a0.size : Int) - 1))) else (some (-1)))
end Go.Proofs.YtdgmkfbmeaalpaaDoor.E
end
section
namespace Go.Proofs.YtdgmkfbmeaalpaaDoor.E
open Go.RowKit Go.Proofs.YtdgmkfbmeaalpaaDoorW.PrintWords Go.Proofs.YtdgmkfbmeaalpaaDoorW.PrintLast Go.Proofs.YtdgmkfbmeaalpaaDoorW.PrintMore
attribute [local go_sem] max2_int min2_int max_two min_two max_three min_three max_four min_four
set_option linter.unusedVariables false
set_option linter.unusedSimpArgs false
attribute [local go_sem] str_leq_ str_gtr_ str_geq_
def impl_VerseSyllables.f (a0 : ByteArray) : Option (Int) := (impl_VerseHalves.f a0).bind fun bt613 => (if bt613.2.2 = true then (some (wrap64 ((bt613.1.size : Int) + (bt613.2.1.size : Int)))) else (some (-1)))
end Go.Proofs.YtdgmkfbmeaalpaaDoor.E
end
section
namespace Go.Proofs.YtdgmkfbmeaalpaaDoor.Pur
open Go.RowKit Go.Proofs.YtdgmkfbmeaalpaaDoorW.PrintWords Go.Proofs.YtdgmkfbmeaalpaaDoorW.PrintMore Go.Proofs.YtdgmkfbmeaalpaaDoor.E
theorem bt_at (t : ByteArray) (i : Nat) (h : i < t.size) : bt t (i : Int) = ((t.data.toList[i]'(by rw [Array.length_toList]; exact h)).toNat : Int) := by
  unfold bt
  rw [toNat_nat, dif_pos h, Array.getElem_toList]
  rfl
theorem list_len (t : ByteArray) : t.data.toList.length = t.size := Array.length_toList
theorem ba_ext {a b : ByteArray} (h : a.data.toList = b.data.toList) : a = b := by
  cases a; cases b
  congr 1
  exact Array.toList_inj.mp h
theorem ba_list (l : List UInt8) : (⟨l.toArray⟩ : ByteArray).data.toList = l := rfl
theorem ba_size (l : List UInt8) : (⟨l.toArray⟩ : ByteArray).size = l.length := by rw [← list_len]
def cutL : List UInt8 → List UInt8 × List UInt8 × Bool
  | [] => ([], [], false)
  | b :: l => if b = 124 then ([], l, true) else (b :: (cutL l).1, (cutL l).2.1, (cutL l).2.2)
theorem cut_is : ∀ l : List UInt8, Lib.cut l [124] = if (cutL l).2.2 = true then cutL l else (l, [], false)
  | [] => rfl
  | b :: l => by
    have ih := cut_is l
    have hge := Lib.index_ge l [124]
    have hp : List.isPrefixOf [(124 : UInt8)] (b :: l) = ((124 : UInt8) == b) := by simp [List.isPrefixOf]
    unfold Lib.cut at ih ⊢
    rw [Lib.index, hp, cutL]
    by_cases h : b = 124
    · subst h
      simp
    · rw [if_neg h, show ((124 : UInt8) == b) = false from beq_eq_false_iff_ne.mpr (fun e => h e.symm)]
      simp only [Bool.false_eq_true, if_false]
      by_cases g : Lib.index l [124] = -1
      · have e : (if (Lib.index l [124] == -1) = true then -1 else Lib.index l [124] + 1) = -1 := by rw [g]; rfl
        rw [e, if_neg (by decide)]
        rw [g, if_neg (by decide)] at ih
        by_cases k : (cutL l).2.2 = true
        · rw [if_pos k] at ih
          rw [← ih] at k
          exact absurd k Bool.false_ne_true
        · rw [if_neg k]
      · have e : (if (Lib.index l [124] == -1) = true then -1 else Lib.index l [124] + 1) = Lib.index l [124] + 1 := if_neg (fun h => g (by simpa using h))
        rw [e, if_pos (by omega)]
        rw [if_pos (by omega)] at ih
        by_cases k : (cutL l).2.2 = true
        · rw [if_pos k] at ih ⊢
          rw [← ih]
          obtain ⟨j, ej⟩ : ∃ j : Nat, Lib.index l [124] = (j : Int) := ⟨(Lib.index l [124]).toNat, by omega⟩
          rw [ej]
          simp only [toNat_nat, toNat_succ, List.take_succ_cons, List.length_singleton]
          rw [show j + 1 + 1 = (j + 1) + 1 from rfl, List.drop_succ_cons]
        · rw [if_neg k] at ih
          have := congrArg (fun x => x.2.2) ih
          exact absurd this (by simp)
theorem cut_miss : ∀ l : List UInt8, (cutL l).2.2 = false → cutL l = (l, [], false)
  | [], _ => rfl
  | b :: l, h => by
    rw [cutL] at h ⊢
    by_cases g : b = 124
    · rw [if_pos g] at h; cases h
    · rw [if_neg g] at h ⊢
      have := cut_miss l h
      rw [this]
theorem cut_eq (l : List UInt8) : Lib.cut l [124] = cutL l := by
  rw [cut_is]
  by_cases h : (cutL l).2.2 = true
  · rw [if_pos h]
  · rw [if_neg h, cut_miss l (Bool.eq_false_iff.mpr h)]
theorem cut_len : ∀ l : List UInt8, (cutL l).1.length + (cutL l).2.1.length + (if (cutL l).2.2 = true then 1 else 0) = l.length
  | [] => rfl
  | b :: l => by
    have ih := cut_len l
    rw [cutL]
    by_cases g : b = 124
    · rw [if_pos g]; simp
    · rw [if_neg g]
      simp only [List.length_cons]
      omega
def halfL (l : List UInt8) : Bool := !l.isEmpty && l.all (fun b => b == 120 || b == 47)
def verse (s : ByteArray) : Option (ByteArray × ByteArray) := if (cutL s.data.toList).2.2 = true ∧ halfL (cutL s.data.toList).1 = true ∧ halfL (cutL s.data.toList).2.1 = true ∧ (cutL s.data.toList).1.length + (cutL s.data.toList).2.1.length ≤ 20 then some (⟨(cutL s.data.toList).1.toArray⟩, ⟨(cutL s.data.toList).2.1.toArray⟩) else none
def halvesOf (s : ByteArray) : ByteArray × ByteArray × Bool := match verse s with
  | some (a, b) => (a, b, true)
  | none => (⟨#[]⟩, ⟨#[]⟩, false)
theorem verse_some {s a b : ByteArray} (h : verse s = some (a, b)) : a.size + b.size ≤ 20 ∧ 1 ≤ a.size ∧ 1 ≤ b.size ∧ s.size = a.size + b.size + 1 ∧ halfL a.data.toList = true ∧ halfL b.data.toList = true ∧ a.data.toList = (cutL s.data.toList).1 ∧ b.data.toList = (cutL s.data.toList).2.1 := by
  unfold verse at h
  split at h
  · rename_i g
    obtain ⟨g1, g2, g3, g4⟩ := g
    simp only [Option.some.injEq, Prod.mk.injEq] at h
    obtain ⟨rfl, rfl⟩ := h
    have hl := cut_len s.data.toList
    rw [if_pos g1, list_len s] at hl
    have n1 : 1 ≤ (cutL s.data.toList).1.length := by
      rw [halfL, Bool.and_eq_true] at g2
      have := g2.1
      rcases e : (cutL s.data.toList).1 with _ | ⟨x, y⟩
      · rw [e] at this; simp at this
      · simp
    have n2 : 1 ≤ (cutL s.data.toList).2.1.length := by
      rw [halfL, Bool.and_eq_true] at g3
      have := g3.1
      rcases e : (cutL s.data.toList).2.1 with _ | ⟨x, y⟩
      · rw [e] at this; simp at this
      · simp
    have e1 := ba_size (cutL s.data.toList).1
    have e2 := ba_size (cutL s.data.toList).2.1
    refine ⟨by omega, by omega, by omega, by omega, g2, g3, rfl, rfl⟩
  · cases h
theorem dropWhile_nil {α : Type} (p : α → Bool) : ∀ l : List α, l.dropWhile p = [] ↔ l.all p = true
  | [] => by simp
  | a :: l => by
    by_cases h : p a = true
    · simp [h, dropWhile_nil p l]
    · simp [h]
theorem trim_nil (l cs : List UInt8) : Lib.trimS l cs = [] ↔ l.all (cs.contains ·) = true := by
  unfold Lib.trimS Lib.trimLeftS Lib.trimRightS
  rw [dropWhile_nil, List.all_reverse]
  constructor
  · intro h
    rw [List.all_eq_true] at h ⊢
    intro x hx
    by_cases hm : x ∈ l.reverse.dropWhile (cs.contains ·)
    · exact h x hm
    · have hs := List.takeWhile_append_dropWhile (p := fun y => cs.contains y) (l := l.reverse)
      have hx' : x ∈ l.reverse := List.mem_reverse.mpr hx
      rw [← hs, List.mem_append] at hx'
      rcases hx' with g | g
      · have := List.all_takeWhile (p := fun y => cs.contains y) (l := l.reverse)
        rw [List.all_eq_true] at this
        exact this x g
      · exact absurd g hm
  · intro h
    rw [List.all_eq_true] at h ⊢
    intro x hx
    have := (List.dropWhile_sublist (fun y => cs.contains y) (l := l.reverse)).subset hx
    exact h x (List.mem_reverse.mp this)
theorem half_is (t : ByteArray) (ht : t.size ≤ 1000000) : impl_halfValid.f t = some (halfL t.data.toList) := by
  unfold impl_halfValid.f halfL
  rw [ByteArray.toList_eq]
  by_cases h0 : t.data.toList = ([] : List UInt8)
  · rw [if_pos h0, h0]
    rfl
  · rw [if_neg h0]
    unfold strings_Trim.f
    rw [if_pos (by omega), if_pos (by decide), if_pos (by decide)]
    simp only [Option.bind_some]
    congr 1
    have e : (t.data.toList.all (fun b => [120, 47].contains b)) = t.data.toList.all (fun b => b == 120 || b == 47) := by
      congr 1
      funext b
      simp only [List.contains, List.elem]
      cases b == 120 <;> cases b == 47 <;> rfl
    have hne : (!t.data.toList.isEmpty) = true := by
      rcases e : t.data.toList with _ | ⟨x, y⟩
      · exact absurd e h0
      · rfl
    rw [hne, Bool.true_and, ← e]
    rw [Bool.eq_iff_iff, beq_iff_eq, ByteArray.toList_eq]
    exact trim_nil t.data.toList [120, 47]
theorem impl_halves (s : ByteArray) (hs : s.size ≤ 100000000) : impl_VerseHalves.f s = some (halvesOf s) := by
  have hl := cut_len s.data.toList
  rw [list_len s] at hl
  have sz1 : (⟨(cutL s.data.toList).1.toArray⟩ : ByteArray).size = (cutL s.data.toList).1.length := ba_size _
  have sz2 : (⟨(cutL s.data.toList).2.1.toArray⟩ : ByteArray).size = (cutL s.data.toList).2.1.length := ba_size _
  unfold impl_VerseHalves.f strings_Cut.f halvesOf verse
  rw [if_pos (by omega), show (⟨#[124]⟩ : ByteArray).data.toList = [124] from rfl, cut_eq]
  simp only [Option.bind_some]
  by_cases g1 : (cutL s.data.toList).2.2 = true
  rotate_left
  · rw [if_neg g1, if_neg (fun h => g1 h.1)]
  rw [if_pos g1, sz1, sz2, w64 (by omega) (by omega)]
  by_cases g4 : (cutL s.data.toList).1.length + (cutL s.data.toList).2.1.length ≤ 20
  rotate_left
  · rw [if_pos (by omega), if_neg (fun h => g4 h.2.2.2)]
  rw [if_neg (by omega), half_is _ (by omega), half_is _ (by omega)]
  simp only [Option.bind_some]
  by_cases g2 : halfL (cutL s.data.toList).1 = true
  rotate_left
  · rw [if_neg g2, if_neg (fun h => g2 h.2.1)]
  rw [if_pos g2]
  by_cases g3 : halfL (cutL s.data.toList).2.1 = true
  · rw [if_pos g3, if_pos ⟨g1, g2, g3, g4⟩]
  · rw [if_neg g3, if_neg (fun h => g3 h.2.2.1)]
def hv (s : ByteArray) : ByteArray × ByteArray := (⟨(cutL s.data.toList).1.toArray⟩, ⟨(cutL s.data.toList).2.1.toArray⟩)
theorem cut_at : ∀ (l : List UInt8) (i : Nat), (∀ j, j < i → l[j]? ≠ some 124) → (cutL l).1 = l.take i ++ (cutL (l.drop i)).1 ∧ (cutL l).2.1 = (cutL (l.drop i)).2.1 ∧ (cutL l).2.2 = (cutL (l.drop i)).2.2
  | _, 0, _ => ⟨rfl, rfl, rfl⟩
  | [], i + 1, _ => ⟨rfl, rfl, rfl⟩
  | b :: l, i + 1, h => by
    have hb : b ≠ 124 := fun e => h 0 (by omega) (by rw [e]; rfl)
    have ih := cut_at l i (fun j hj => by have := h (j + 1) (by omega); rwa [List.getElem?_cons_succ] at this)
    rw [cutL, if_neg hb]
    refine ⟨?_, ih.2.1, ih.2.2⟩
    rw [List.take_succ_cons, List.drop_succ_cons, List.cons_append, ih.1]
theorem spec_halves_loop (s : ByteArray) (hs : s.size ≤ 100000000) : ∀ (d i : Nat), i + d = s.size → (∀ j, j < i → s.data.toList[j]? ≠ some 124) → EvP (fun k => spec_l4Halves.l0 k s (i : Int)) (· = hv s) := by
  intro d
  induction d with
  | zero =>
    intro i hi hn
    refine EvP.succ ?_
    simp only [spec_l4Halves.l0]
    refine EvP.no (by omega) (EvP.ret ?_)
    obtain ⟨a, b, c⟩ := cut_at s.data.toList i hn
    have e : s.data.toList.drop i = [] := List.drop_of_length_le (by rw [list_len]; omega)
    rw [e] at a b
    have e2 : s.data.toList.take i = s.data.toList := List.take_of_length_le (by rw [list_len]; omega)
    unfold hv
    rw [a, b, e2]
    refine Prod.ext (ba_ext ?_) (ba_ext rfl)
    rw [ba_list]
    simp [cutL]
  | succ d ih =>
    intro i hi hn
    have hlt : i < s.data.toList.length := by rw [list_len]; omega
    have e2 : Hd (wrap64 ((i : Int) + 1) = ((i + 1 : Nat) : Int)) := ⟨w64 (by omega) (by omega)⟩
    refine EvP.succ ?_
    simp only [spec_l4Halves.l0]
    refine EvP.yes (by omega) (EvP.yes (by omega) ?_)
    rw [bt_at s i (by omega), e2.out]
    refine EvP.ite (fun g => ?_) (fun g => ?_)
    · refine EvP.yes (by omega) (EvP.yes (by omega) (EvP.yes (by omega) (EvP.ret ?_)))
      have eb : s.data.toList[i] = 124 := by rw [← UInt8.toNat_inj]; show _ = 124; omega
      obtain ⟨a, b, c⟩ := cut_at s.data.toList i hn
      rw [List.drop_eq_getElem_cons hlt, eb, cutL, if_pos rfl] at a b
      unfold hv
      rw [a, b]
      refine Prod.ext (ba_ext ?_) (ba_ext ?_)
      · show (s.extract 0 (i : Int).toNat).data.toList = List.take i s.data.toList ++ []
        rw [Lib.extract_eq, toNat_nat, List.append_nil]
        rfl
      · show (s.extract ((i + 1 : Nat) : Int).toNat s.size).data.toList = List.drop (i + 1) s.data.toList
        rw [Lib.extract_eq, toNat_nat, ba_list, List.take_of_length_le (by rw [List.length_drop, list_len s]; omega)]
    · refine ih (i + 1) (by omega) (fun j hj e => ?_)
      by_cases ej : j = i
      · subst ej
        rw [List.getElem?_eq_getElem hlt] at e
        have := Option.some.inj e
        rw [this] at g
        exact g rfl
      · exact hn j (by omega) e
theorem spec_halves (s : ByteArray) (hs : s.size ≤ 100000000) : EvP (fun k => spec_l4Halves.f k s) (· = hv s) := by
  unfold spec_l4Halves.f
  exact spec_halves_loop s hs s.size 0 (by omega) (fun j hj => by omega)
theorem spec_half_loop (t : ByteArray) (ht : t.size ≤ 100000000) : ∀ (d i : Nat), i + d = t.size → EvP (fun k => spec_l4Half.l0 k t (i : Int)) (· = ((t.data.toList.drop i).all (fun b => b == 120 || b == 47) && decide (t.size > 0))) := by
  intro d
  induction d with
  | zero =>
    intro i hi
    refine EvP.succ ?_
    simp only [spec_l4Half.l0]
    refine EvP.no (by omega) (EvP.ret ?_)
    rw [List.drop_of_length_le (by rw [list_len]; omega)]
    rw [List.all_nil, Bool.true_and]
    exact decide_eq_decide.mpr (by omega)
  | succ d ih =>
    intro i hi
    have hlt : i < t.data.toList.length := by rw [list_len]; omega
    have e2 : Hd (wrap64 ((i : Int) + 1) = ((i + 1 : Nat) : Int)) := ⟨w64 (by omega) (by omega)⟩
    refine EvP.succ ?_
    simp only [spec_l4Half.l0]
    refine EvP.yes (by omega) (EvP.yes (by omega) ?_)
    rw [bt_at t i (by omega), e2.out, List.drop_eq_getElem_cons hlt, List.all_cons]
    refine EvP.ite (fun g => ?_) (fun g => EvP.ite (fun g' => ?_) (fun g' => EvP.ret ?_))
    · rw [show t.data.toList[i] = 120 from by rw [← UInt8.toNat_inj]; show _ = 120; omega]
      exact ih (i + 1) (by omega)
    · rw [show t.data.toList[i] = 47 from by rw [← UInt8.toNat_inj]; show _ = 47; omega]
      exact ih (i + 1) (by omega)
    · rw [show (t.data.toList[i] == 120) = false from beq_eq_false_iff_ne.mpr (fun e => g (by rw [e]; rfl)), show (t.data.toList[i] == 47) = false from beq_eq_false_iff_ne.mpr (fun e => g' (by rw [e]; rfl))]
      rfl
theorem spec_half (t : ByteArray) (ht : t.size ≤ 100000000) : EvP (fun k => spec_l4Half.f k t) (· = halfL t.data.toList) := by
  unfold spec_l4Half.f
  refine (spec_half_loop t ht t.size 0 (by omega)).mono (fun r e => ?_)
  rw [e, List.drop_zero, Bool.and_comm]
  unfold halfL
  congr 1
  rw [← list_len]
  rcases t.data.toList with _ | ⟨x, y⟩
  · rfl
  · simp
theorem hv_of {s a b : ByteArray} (h : verse s = some (a, b)) : hv s = (a, b) := by
  obtain ⟨_, _, _, _, _, _, e1, e2⟩ := verse_some h
  unfold hv
  exact Prod.ext (ba_ext e1.symm) (ba_ext e2.symm)
theorem spec_valid_v (s : ByteArray) (hs : s.size ≤ 100000000) : EvP (fun k => spec_VerseValid.f k s) (· = (verse s).isSome) := by
  have hl := cut_len s.data.toList
  rw [list_len s] at hl
  unfold spec_VerseValid.f
  refine EvP.bind (spec_halves s hs) (fun _ e => ?_)
  subst e
  have sz1 : (hv s).1.size = (cutL s.data.toList).1.length := ba_size _
  have sz2 : (hv s).2.size = (cutL s.data.toList).2.1.length := ba_size _
  refine EvP.bind (spec_half (hv s).1 (by omega)) (fun _ e => ?_)
  subst e
  unfold verse
  refine EvP.ite (fun g1 => ?_) (fun g1 => EvP.ret ?_)
  · refine EvP.bind (spec_half (hv s).2 (by omega)) (fun _ e => ?_)
    subst e
    refine EvP.ite (fun g2 => EvP.ret ?_) (fun g2 => EvP.ret ?_)
    · rw [w64 (by omega) (by omega), sz1, sz2]
      have g3 : (cutL s.data.toList).2.2 = true := by
        by_cases k : (cutL s.data.toList).2.2 = true
        · exact k
        · have := cut_miss _ (Bool.eq_false_iff.mpr k)
          have e2 : (hv s).2.data.toList = (cutL s.data.toList).2.1 := rfl
          rw [e2, this] at g2
          exact absurd (show halfL [] = true from g2) (by decide)
      by_cases g4 : (cutL s.data.toList).1.length + (cutL s.data.toList).2.1.length ≤ 20
      · rw [if_pos ⟨g3, g1, g2, g4⟩]
        exact decide_eq_true (by omega)
      · rw [if_neg (fun h => g4 h.2.2.2)]
        exact decide_eq_false (by omega)
    · rw [if_neg (fun h => g2 h.2.2.1)]; rfl
  · rw [if_neg (fun h => g1 h.2.1)]; rfl
end Go.Proofs.YtdgmkfbmeaalpaaDoor.Pur
end
section
namespace Go.Proofs.YtdgmkfbmeaalpaaDoor.Pur
open Go.RowKit Go.Proofs.YtdgmkfbmeaalpaaDoorW.PrintWords Go.Proofs.YtdgmkfbmeaalpaaDoor.E
def okT (t : S25) : Bool := decide (0 ≤ t.f0) && decide (t.f0 ≤ 20) && (!t.f1 || decide (t.f0 % 7 = 2))
def okM (l : List S25) : Bool := l.all okT && decide (l.length ≤ 24)
theorem spec_valid (t : S25) : spec_ToneValid.f t.f0 t.f1 = some (okT t) := by
  obtain ⟨s, b⟩ := t
  unfold spec_ToneValid.f spec_l6In.f spec_l1Letter.f okT
  by_cases h0 : s ≥ 0
  · rw [if_pos h0]
    by_cases h1 : s ≤ 20
    · cases b <;> simp [h0, h1, tmod_pos, Bool.beq_eq_decide_eq]
    · simp [h0, h1]
  · simp [h0]
theorem impl_valid (t : S25) : impl_Tone_valid.f t.f0 t.f1 = some (okT t) := by
  obtain ⟨s, b⟩ := t
  unfold impl_Tone_valid.f okT
  by_cases h0 : s ≥ 0
  · rw [if_pos h0]
    by_cases h1 : s ≤ 20
    · cases b <;> simp [h0, h1, tmod_pos, Bool.beq_eq_decide_eq]
    · simp [h0, h1]
  · simp [h0]
theorem rdT_lt {l : List S25} {i : Nat} (h : i < l.length) : rd_T25 l (i : Int) = l[i] := by
  unfold rd_T25
  rw [toNat_nat, List.getD_eq_getElem?_getD, List.getElem?_eq_getElem h]
  rfl
theorem all_drop {l : List S25} {i : Nat} (h : i < l.length) : (l.drop i).all okT = (okT l[i] && (l.drop (i + 1)).all okT) := by
  rw [List.drop_eq_getElem_cons h, List.all_cons]
theorem spec_melody_loop (l : List S25) (hl : l.length < 9223372036854775807) : ∀ d i : Nat, i + d = l.length → EvP (fun k => spec_MelodyValid.l0 k l (i : Int)) (· = ((l.drop i).all okT && decide (l.length ≤ 24))) := by
  intro d
  induction d with
  | zero =>
    intro i hi
    refine EvP.succ ?_
    simp only [spec_MelodyValid.l0]
    refine (EvP.no (by omega) (EvP.ret ?_))
    rw [List.drop_of_length_le (by omega)]
    simp only [List.all_nil, Bool.true_and]
    by_cases h : l.length ≤ 24
    · have : (l.length : Int) ≤ 24 := by omega
      simp [h, this]
    · have : ¬ (l.length : Int) ≤ 24 := by omega
      simp [h, this]
  | succ d ih =>
    intro i hi
    have hlt : i < l.length := by omega
    refine EvP.step (fun k => rfl) (EvP.yes (by omega) (EvP.yes (by omega) ?_))
    rw [rdT_lt hlt, all_drop hlt]
    refine EvP.bind (P := (· = okT l[i])) (EvP.con (spec_valid _) rfl) (fun _ e => ?_)
    subst e
    refine EvP.ite (fun h => ?_) (fun h => EvP.ret ?_)
    · rw [w64 (by omega) (by omega), h, Bool.true_and]
      exact ih (i + 1) (by omega)
    · simp [h]
theorem spec_melody (l : List S25) (hl : l.length < 9223372036854775807) : EvP (fun k => spec_MelodyValid.f k l) (· = okM l) := spec_melody_loop l hl l.length 0 (by omega)
theorem impl_melody_loop (l : List S25) (hl : l.length ≤ 24) : ∀ d i : Nat, i + d = l.length → EvP (fun k => impl_MelodyValid.l0 k l (l.length : Int) (i : Int)) (· = (l.drop i).all okT) := by
  intro d
  induction d with
  | zero =>
    intro i hi
    refine EvP.step (fun k => rfl) (EvP.no (by omega) (EvP.ret ?_))
    rw [List.drop_of_length_le (by omega)]
    rfl
  | succ d ih =>
    intro i hi
    have hlt : i < l.length := by omega
    refine EvP.step (fun k => rfl) (EvP.yes (by omega) (EvP.yes (by omega) ?_))
    try refine EvP.yes (by omega) ?_
    rw [rdT_lt hlt, all_drop hlt]
    refine EvP.bind (P := (· = okT l[i])) (EvP.con (impl_valid _) rfl) (fun _ e => ?_)
    subst e
    refine EvP.ite (fun h => ?_) (fun h => EvP.ret ?_)
    · rw [w64 (by omega) (by omega), h, Bool.true_and]
      exact ih (i + 1) (by omega)
    · simp [h]
theorem impl_melody (l : List S25) : EvP (fun k => impl_MelodyValid.f k l) (· = okM l) := by
  unfold impl_MelodyValid.f
  refine EvP.ite (fun h => EvP.ret ?_) (fun h => ?_)
  · simp [okM]; intro; omega
  · have hl : l.length ≤ 24 := by omega
    refine (impl_melody_loop l hl l.length 0 (by omega)).mono (fun r e => ?_)
    rw [e]
    simp [okM, hl]
end Go.Proofs.YtdgmkfbmeaalpaaDoor.Pur
end
section
namespace Go.Proofs.YtdgmkfbmeaalpaaDoor.Pur
open Go.RowKit Go.Proofs.YtdgmkfbmeaalpaaDoorW.PrintWords
def sumN (f : Nat → Nat) : Nat → Nat
  | 0 => 0
  | n + 1 => sumN f n + f n
end Go.Proofs.YtdgmkfbmeaalpaaDoor.Pur
end
section
namespace Go.Proofs.YtdgmkfbmeaalpaaDoor.E
open Go.RowKit Go.Proofs.YtdgmkfbmeaalpaaDoorW.PrintWords Go.Proofs.YtdgmkfbmeaalpaaDoorW.PrintLast Go.Proofs.YtdgmkfbmeaalpaaDoorW.PrintMore
attribute [local go_sem] max2_int min2_int max_two min_two max_three min_three max_four min_four
set_option linter.unusedVariables false
set_option linter.unusedSimpArgs false
attribute [local go_sem] str_leq_ str_gtr_ str_geq_
def impl_PsalmFits.f (k : Nat) (l0_0 : List (S25)) (a0_1 : Int) (a0_2 : Bool) (l0_3 : List (S25)) (l0_4 : List (S25)) (a1 : ByteArray) : Option (Bool) := (impl_sungVerse.f k l0_0 a0_1 a0_2 l0_3 l0_4 a1).bind fun bt224 => (some bt224.2)
end Go.Proofs.YtdgmkfbmeaalpaaDoor.E
end
section
namespace Go.Proofs.YtdgmkfbmeaalpaaDoor.E
open Go.RowKit Go.Proofs.YtdgmkfbmeaalpaaDoorW.PrintWords Go.Proofs.YtdgmkfbmeaalpaaDoorW.PrintLast Go.Proofs.YtdgmkfbmeaalpaaDoorW.PrintMore
attribute [local go_sem] max2_int min2_int max_two min_two max_three min_three max_four min_four
set_option linter.unusedVariables false
set_option linter.unusedSimpArgs false
attribute [local go_sem] str_leq_ str_gtr_ str_geq_
def spec_PsalmTenors.f (k : Nat) (l0_0 : List (S25)) (a0_1 : Int) (a0_2 : Bool) (l0_3 : List (S25)) (l0_4 : List (S25)) (a1 : ByteArray) : Option (Int) := (spec_PsalmFits.f k l0_0 a0_1 a0_2 l0_3 l0_4 a1).bind fun t316 => (if t316 = true then ((spec_VerseSyllables.f k a1).bind fun t317 => (some (wrap64 ((wrap64 ((wrap64 (t317 - (l0_0.length : Int))) - (l0_3.length : Int))) - (l0_4.length : Int))))) else (some (-1)))
end Go.Proofs.YtdgmkfbmeaalpaaDoor.E
end
section
namespace Go.Proofs.YtdgmkfbmeaalpaaDoor.E
open Go.RowKit Go.Proofs.YtdgmkfbmeaalpaaDoorW.PrintWords Go.Proofs.YtdgmkfbmeaalpaaDoorW.PrintLast Go.Proofs.YtdgmkfbmeaalpaaDoorW.PrintMore
attribute [local go_sem] max2_int min2_int max_two min_two max_three min_three max_four min_four
set_option linter.unusedVariables false
set_option linter.unusedSimpArgs false
attribute [local go_sem] str_leq_ str_gtr_ str_geq_
def impl_PsalmTenors.l0 : Nat → Int → List (S86) → Int → Int → Option (Int)
 | 0, _, _, _, _ => none
 | k + 1, x7, x18, x19, x20 => if x20 < x19 then (if 0 ≤ x20 then (if x20 < (x18.length : Int) then (if ((rd_T86 x18 x20).f1) = 1 then (impl_PsalmTenors.l0 k (wrap64 (x7 + 1)) x18 x19 (wrap64 (x20 + 1))) else (impl_PsalmTenors.l0 k x7 x18 x19 (wrap64 (x20 + 1)))) else (none)) else (none)) else (some x7)
def impl_PsalmTenors.f (k : Nat) (l0_0 : List (S25)) (a0_1 : Int) (a0_2 : Bool) (l0_3 : List (S25)) (l0_4 : List (S25)) (a1 : ByteArray) : Option (Int) := (impl_sungVerse.f k l0_0 a0_1 a0_2 l0_3 l0_4 a1).bind fun bt343 => (if bt343.2 = true then (impl_PsalmTenors.l0 k 0 bt343.1 (bt343.1.length : Int) 0) else (some (-1)))
end Go.Proofs.YtdgmkfbmeaalpaaDoor.E
end
section
namespace Go.Proofs.YtdgmkfbmeaalpaaDoor.Pur
open Go.RowKit Go.Proofs.YtdgmkfbmeaalpaaDoorW.PrintWords Go.Proofs.YtdgmkfbmeaalpaaDoor.E
abbrev TL := List S25
def tonesB (l : TL) (lo hi : Int) : Bool := decide (lo ≤ (l.length : Int)) && (decide ((l.length : Int) ≤ hi) && okM l)
theorem impl_tones (l : TL) (lo hi : Int) : EvP (fun k => impl_tonesValid.f k l lo hi) (· = tonesB l lo hi) := by
  simp only [impl_tonesValid.f, tonesB]
  refine EvP.ite (fun h => EvP.ite (fun g => ?_) (fun g => EvP.ret ?_)) (fun h => EvP.ret ?_)
  · refine EvP.bind (impl_melody l) (fun _ e => EvP.ret ?_)
    subst e
    rw [decide_eq_true (show lo ≤ (l.length : Int) from h), decide_eq_true g]
    rfl
  · rw [decide_eq_false g]
    simp
  · rw [decide_eq_false (show ¬ lo ≤ (l.length : Int) from h)]
    rfl
theorem spec_tones (l : TL) (hl : l.length < 9223372036854775807) (lo hi : Int) : EvP (fun k => spec_l4Tones.f k l lo hi) (· = tonesB l lo hi) := by
  simp only [spec_l4Tones.f, tonesB, spec_l6In.f]
  refine EvP.bind (spec_melody l hl) (fun _ e => ?_)
  subst e
  refine EvP.ite (fun h => ?_) (fun h => EvP.ret ?_)
  · by_cases g : lo ≤ (l.length : Int)
    · rw [if_pos (show (l.length : Int) ≥ lo from g)]
      refine EvP.ret ?_
      rw [decide_eq_true g, h]
      simp
    · rw [if_neg (show ¬ (l.length : Int) ≥ lo from g)]
      refine EvP.ret ?_
      rw [decide_eq_false g]
      rfl
  · rw [Bool.eq_false_iff.mpr h]
    simp
def okPs (ps : TL) (x : Int) (b : Bool) (pm pe : TL) : Bool := tonesB ps 0 3 && (okT ⟨x, b⟩ && (tonesB pm 1 4 && tonesB pe 1 4))
theorem impl_psalm (ps : TL) (x : Int) (b : Bool) (pm pe : TL) : EvP (fun k => impl_PsalmValid.f k ps x b pm pe) (· = okPs ps x b pm pe) := by
  simp only [impl_PsalmValid.f, okPs]
  refine EvP.bind (impl_tones ps 0 3) (fun _ e => ?_)
  subst e
  refine EvP.ite (fun h => ?_) (fun h => EvP.ret ?_)
  · rw [h, Bool.true_and]
    refine EvP.bind (EvP.con (impl_valid ⟨x, b⟩) (P := (· = okT ⟨x, b⟩)) rfl) (fun _ e => ?_)
    subst e
    refine EvP.ite (fun h => ?_) (fun h => EvP.ret ?_)
    · rw [h, Bool.true_and]
      refine EvP.bind (impl_tones pm 1 4) (fun _ e => ?_)
      subst e
      refine EvP.ite (fun h => ?_) (fun h => EvP.ret ?_)
      · rw [h, Bool.true_and]
        refine EvP.bind (impl_tones pe 1 4) (fun _ e => EvP.ret e)
      · rw [Bool.eq_false_iff.mpr h, Bool.false_and]
    · rw [Bool.eq_false_iff.mpr h, Bool.false_and]
  · rw [Bool.eq_false_iff.mpr h, Bool.false_and]
theorem spec_psalm (ps : TL) (x : Int) (b : Bool) (pm pe : TL) (hs : ps.length < 9223372036854775807) (hm : pm.length < 9223372036854775807) (he : pe.length < 9223372036854775807) : EvP (fun k => spec_PsalmValid.f k ps x b pm pe) (· = okPs ps x b pm pe) := by
  simp only [spec_PsalmValid.f, okPs]
  refine EvP.bind (spec_tones ps hs 0 3) (fun _ e => ?_)
  subst e
  refine EvP.ite (fun h => ?_) (fun h => EvP.ret ?_)
  · rw [h, Bool.true_and]
    refine EvP.bind (EvP.con (spec_valid ⟨x, b⟩) (P := (· = okT ⟨x, b⟩)) rfl) (fun _ e => ?_)
    subst e
    refine EvP.ite (fun h => ?_) (fun h => EvP.ret ?_)
    · rw [h, Bool.true_and]
      refine EvP.bind (spec_tones pm hm 1 4) (fun _ e => ?_)
      subst e
      refine EvP.ite (fun h => ?_) (fun h => EvP.ret ?_)
      · rw [h, Bool.true_and]
        refine EvP.bind (spec_tones pe he 1 4) (fun _ e => EvP.ret e)
      · rw [Bool.eq_false_iff.mpr h, Bool.false_and]
    · rw [Bool.eq_false_iff.mpr h, Bool.false_and]
  · rw [Bool.eq_false_iff.mpr h, Bool.false_and]
theorem okPs_lens {ps pm pe : TL} {x : Int} {b : Bool} (h : okPs ps x b pm pe = true) : ps.length ≤ 3 ∧ 1 ≤ pm.length ∧ pm.length ≤ 4 ∧ 1 ≤ pe.length ∧ pe.length ≤ 4 ∧ okM ps = true ∧ okT ⟨x, b⟩ = true ∧ okM pm = true ∧ okM pe = true := by
  simp only [okPs, tonesB, Bool.and_eq_true, decide_eq_true_eq] at h
  obtain ⟨⟨_, h1, h2⟩, h3, ⟨h4, h5, h6⟩, h7, h8, h9⟩ := h
  exact ⟨by omega, by omega, by omega, by omega, by omega, h2, h3, h6, h9⟩
def fitP (ps : TL) (x : Int) (b : Bool) (pm pe : TL) (s : ByteArray) : Option (ByteArray × ByteArray) := if okPs ps x b pm pe = true then (verse s).bind (fun q => if ps.length + pm.length ≤ q.1.size ∧ pe.length ≤ q.2.size then some q else none) else none
theorem fit_some {ps pm pe : TL} {x : Int} {b : Bool} {s u v : ByteArray} (h : fitP ps x b pm pe s = some (u, v)) : okPs ps x b pm pe = true ∧ verse s = some (u, v) ∧ ps.length + pm.length ≤ u.size ∧ pe.length ≤ v.size := by
  unfold fitP at h
  split at h
  · rename_i g
    rw [Option.bind_eq_some_iff] at h
    obtain ⟨q, hq, h⟩ := h
    split at h
    · rename_i g2
      cases h
      exact ⟨g, hq, g2.1, g2.2⟩
    · cases h
  · cases h
theorem fit_of {ps pm pe : TL} {x : Int} {b : Bool} {s u v : ByteArray} (h : okPs ps x b pm pe = true) (hv : verse s = some (u, v)) (h1 : ps.length + pm.length ≤ u.size) (h2 : pe.length ≤ v.size) : fitP ps x b pm pe s = some (u, v) := by
  unfold fitP
  rw [if_pos h, hv]
  simp only [Option.bind_some]
  rw [if_pos ⟨h1, h2⟩]
theorem fit_bad {ps pm pe : TL} {x : Int} {b : Bool} {s : ByteArray} (h : okPs ps x b pm pe = false) : fitP ps x b pm pe s = none := by
  unfold fitP
  rw [h]
  rfl
theorem fit_none {ps pm pe : TL} {x : Int} {b : Bool} {s : ByteArray} (h : verse s = none) : fitP ps x b pm pe s = none := by
  unfold fitP
  rw [h]
  simp
theorem fit_short {ps pm pe : TL} {x : Int} {b : Bool} {s u v : ByteArray} (hv : verse s = some (u, v)) (h1 : ¬ (ps.length + pm.length ≤ u.size ∧ pe.length ≤ v.size)) : fitP ps x b pm pe s = none := by
  unfold fitP
  rw [hv]
  simp only [Option.bind_some]
  rw [if_neg h1]
  simp
def sungR (ps : TL) (x : Int) (b : Bool) (pm pe : TL) : Option (ByteArray × ByteArray) → List S86 × Bool
  | some q => (sungOf ps ⟨x, b⟩ pm pe q.1.size q.2.size, true)
  | none => ([], false)
theorem impl_sung (ps : TL) (x : Int) (b : Bool) (pm pe : TL) (s : ByteArray) (hs : s.size ≤ 100000000) : EvP (fun k => impl_sungVerse.f k ps x b pm pe s) (· = sungR ps x b pm pe (fitP ps x b pm pe s)) := by
  simp only [impl_sungVerse.f]
  refine EvP.bind (EvP.con (impl_halves s hs) (P := (· = halvesOf s)) rfl) (fun _ e => ?_)
  subst e
  rcases hv : verse s with _ | ⟨u, v⟩
  · have hh : halvesOf s = (⟨#[]⟩, ⟨#[]⟩, false) := by unfold halvesOf; rw [hv]
    rw [hh, fit_none hv]
    exact EvP.ret rfl
  · have hh : halvesOf s = (u, v, true) := by unfold halvesOf; rw [hv]
    rw [hh]
    refine EvP.yes rfl ?_
    refine EvP.bind (impl_psalm ps x b pm pe) (fun _ e => ?_)
    subst e
    refine EvP.ite (fun h => ?_) (fun h => EvP.ret ?_)
    · obtain ⟨l1, l2, l3, l4, l5, _⟩ := okPs_lens h
      have hl := (verse_some hv).1
      refine EvP.yes (by omega) ?_
      refine EvP.ite (fun g => EvP.ret ?_) (fun g => EvP.ite (fun g2 => EvP.ret ?_) (fun g2 => EvP.yes (by simp only []; omega) (EvP.ret ?_)))
      · rw [fit_short hv (by simp only [] at g; omega)]
        rfl
      · rw [fit_short hv (by simp only [] at g2; omega)]
        rfl
      · rw [fit_of h hv (by simp only [] at g; omega) (by simp only [] at g2; omega)]
        rfl
    · rw [fit_bad (Bool.eq_false_iff.mpr h)]
      rfl
theorem spec_fits (ps : TL) (x : Int) (b : Bool) (pm pe : TL) (s : ByteArray) (hs : s.size ≤ 100000000) (h1 : ps.length < 9223372036854775807) (hm : pm.length < 9223372036854775807) (he : pe.length < 9223372036854775807) : EvP (fun k => spec_PsalmFits.f k ps x b pm pe s) (· = (fitP ps x b pm pe s).isSome) := by
  simp only [spec_PsalmFits.f]
  refine EvP.bind (spec_halves s hs) (fun _ e => ?_)
  subst e
  refine EvP.bind (spec_psalm ps x b pm pe h1 hm he) (fun _ e => ?_)
  subst e
  refine EvP.ite (fun h => ?_) (fun h => EvP.ret ?_)
  · refine EvP.bind (spec_valid_v s hs) (fun _ e => ?_)
    subst e
    rcases hv : verse s with _ | ⟨u, v⟩
    · rw [fit_none hv]
      exact EvP.ret rfl
    · refine EvP.yes rfl ?_
      rw [hv_of hv]
      obtain ⟨l1, l2, l3, l4, l5, _⟩ := okPs_lens h
      rw [w64 (by omega) (by omega)]
      refine EvP.ite (fun g => EvP.ret ?_) (fun g => EvP.ret ?_)
      · simp only [] at g ⊢
        by_cases g2 : pe.length ≤ v.size
        · rw [fit_of h hv (by omega) g2]
          exact decide_eq_true (by omega)
        · rw [fit_short hv (by omega)]
          exact decide_eq_false (by omega)
      · simp only [] at g
        rw [fit_short hv (by omega)]
        rfl
  · rw [fit_bad (Bool.eq_false_iff.mpr h)]
    rfl
def singOf (ps : TL) (x : Int) (b : Bool) (pm pe : TL) (m n : Nat) : TL := ps ++ (List.replicate (m - pm.length - ps.length) ⟨x, b⟩ ++ (pm ++ (List.replicate (n - pe.length) ⟨x, b⟩ ++ pe)))
theorem sing_map (ps : TL) (x : Int) (b : Bool) (pm pe : TL) (m n : Nat) : (sungOf ps ⟨x, b⟩ pm pe m n).map (·.f0) = singOf ps x b pm pe m n := by
  unfold sungOf singOf
  simp only [List.map_append, List.map_map, List.map_replicate]
  have hid : ∀ (l : TL) (n : Int), l.map ((fun y : S86 => y.f0) ∘ fun y => ⟨y, n⟩) = l := fun l n => List.map_id l
  rw [hid, hid, hid]
theorem sing_len {ps pm pe : TL} {x : Int} {b : Bool} {m n : Nat} (h1 : ps.length + pm.length ≤ m) (h2 : pe.length ≤ n) : (singOf ps x b pm pe m n).length = m + n := by
  simp only [singOf, List.length_append, List.length_replicate]
  omega
def singR (ps : TL) (x : Int) (b : Bool) (pm pe : TL) : Option (ByteArray × ByteArray) → TL × Bool
  | some q => (singOf ps x b pm pe q.1.size q.2.size, true)
  | none => ([], false)
theorem rdS_lt {l : List S86} {i : Nat} (h : i < l.length) : rd_T86 l (i : Int) = l[i] := by
  unfold rd_T86
  rw [toNat_nat, List.getD_eq_getElem?_getD, List.getElem?_eq_getElem h]
  rfl
theorem impl_sing_loop (L : List S86) (hl : L.length ≤ 1000) : ∀ (d i : Nat) (xs : TL), i + d = L.length → xs.length = i → EvP (fun k => impl_PsalmSing.l0 k xs L (L.length : Int) (i : Int)) (· = (xs ++ (L.drop i).map (·.f0), true)) := by
  intro d
  induction d with
  | zero =>
    intro i xs hi hx
    refine EvP.succ ?_
    simp only [impl_PsalmSing.l0]
    refine EvP.no (by omega) (EvP.ret ?_)
    rw [List.drop_of_length_le (by omega)]
    simp
  | succ d ih =>
    intro i xs hi hx
    have hlt : i < L.length := by omega
    refine EvP.succ ?_
    simp only [impl_PsalmSing.l0]
    refine EvP.yes (by omega) (EvP.yes (by omega) (EvP.yes (by omega) (EvP.yes (by omega) ?_)))
    rw [rdS_lt hlt, w64 (by omega) (by omega), show (i : Int) + 1 = ((i + 1 : Nat) : Int) by omega]
    refine (ih (i + 1) (xs ++ [L[i].f0]) (by omega) (by simp; omega)).mono ?_
    intro r e
    rw [e, List.drop_eq_getElem_cons hlt, List.map_cons, List.append_assoc]
    rfl
theorem impl_sing (ps : TL) (x : Int) (b : Bool) (pm pe : TL) (s : ByteArray) (hs : s.size ≤ 100000000) : EvP (fun k => impl_PsalmSing.f k ps x b pm pe s) (· = singR ps x b pm pe (fitP ps x b pm pe s)) := by
  simp only [impl_PsalmSing.f]
  refine EvP.bind (impl_sung ps x b pm pe s hs) (fun _ e => ?_)
  subst e
  rcases hf : fitP ps x b pm pe s with _ | ⟨u, v⟩
  · exact EvP.ret rfl
  · refine EvP.yes rfl ?_
    obtain ⟨h, hv, h1, h2⟩ := fit_some hf
    have hl := (verse_some hv).1
    have hlen := sung_len (t := ⟨x, b⟩) h1 h2
    refine (impl_sing_loop (sungOf ps ⟨x, b⟩ pm pe u.size v.size) (by omega) _ 0 [] (by rw [Nat.zero_add]) rfl).mono ?_
    intro r e
    rw [e, List.drop_zero, List.nil_append, sing_map]
    rfl
theorem spec_fill1 (u v : ByteArray) (ps : TL) (x : Int) (b : Bool) (pm pe : TL) (hu : u.size ≤ 1000) (hv : v.size ≤ 1000) (h1 : pm.length ≤ u.size) (h2 : pe.length ≤ v.size) : ∀ (d : Nat) (xs : TL), xs.length + d = u.size + v.size - pe.length → EvP (fun k => spec_PsalmSing.l1 k u v xs ps x b pm pe) (· = (xs ++ (List.replicate d ⟨x, b⟩ ++ pe), true)) := by
  intro d
  induction d with
  | zero =>
    intro xs hx
    refine EvP.succ ?_
    simp only [spec_PsalmSing.l1]
    rw [w64 (i := (u.size : Int) + (v.size : Int)) (by omega) (by omega), w64 (by omega) (by omega)]
    refine EvP.no (by omega) (EvP.yes (by omega) (EvP.ret ?_))
    simp
  | succ d ih =>
    intro xs hx
    refine EvP.succ ?_
    simp only [spec_PsalmSing.l1]
    rw [w64 (i := (u.size : Int) + (v.size : Int)) (by omega) (by omega), w64 (by omega) (by omega)]
    refine EvP.yes (by omega) (EvP.yes (by omega) ?_)
    refine (ih (xs ++ [⟨x, b⟩]) (by simp; omega)).mono ?_
    intro r e
    rw [e, List.replicate_succ]
    simp
theorem spec_fill0 (u v : ByteArray) (ps : TL) (x : Int) (b : Bool) (pm pe : TL) (hu : u.size ≤ 1000) (hv : v.size ≤ 1000) (h1 : pm.length ≤ u.size) (h2 : pe.length ≤ v.size) : ∀ (d : Nat) (xs : TL), xs.length + d = u.size - pm.length → EvP (fun k => spec_PsalmSing.l0 k u v xs ps x b pm pe) (· = (xs ++ (List.replicate d ⟨x, b⟩ ++ (pm ++ (List.replicate (v.size - pe.length) ⟨x, b⟩ ++ pe))), true)) := by
  intro d
  induction d with
  | zero =>
    intro xs hx
    refine EvP.succ ?_
    simp only [spec_PsalmSing.l0]
    rw [w64 (by omega) (by omega)]
    refine EvP.no (by omega) (EvP.yes (by omega) ?_)
    refine (spec_fill1 u v ps x b pm pe hu hv h1 h2 (v.size - pe.length) (xs ++ pm) (by simp; omega)).mono ?_
    intro r e
    rw [e]
    simp
  | succ d ih =>
    intro xs hx
    refine EvP.succ ?_
    simp only [spec_PsalmSing.l0]
    rw [w64 (by omega) (by omega)]
    refine EvP.yes (by omega) (EvP.yes (by omega) ?_)
    refine (ih (xs ++ [⟨x, b⟩]) (by simp; omega)).mono ?_
    intro r e
    rw [e, List.replicate_succ]
    simp
theorem spec_sing (ps : TL) (x : Int) (b : Bool) (pm pe : TL) (s : ByteArray) (hs : s.size ≤ 100000000) (h1 : ps.length < 9223372036854775807) (hm : pm.length < 9223372036854775807) (he : pe.length < 9223372036854775807) : EvP (fun k => spec_PsalmSing.f k ps x b pm pe s) (· = singR ps x b pm pe (fitP ps x b pm pe s)) := by
  simp only [spec_PsalmSing.f]
  refine EvP.bind (spec_fits ps x b pm pe s hs h1 hm he) (fun _ e => ?_)
  subst e
  rcases hf : fitP ps x b pm pe s with _ | ⟨u, v⟩
  · exact EvP.ret rfl
  · refine EvP.yes rfl ?_
    obtain ⟨h, hv, g1, g2⟩ := fit_some hf
    have hl := (verse_some hv).1
    obtain ⟨l1, l2, l3, l4, l5, _⟩ := okPs_lens h
    refine EvP.bind (spec_halves s hs) (fun _ e => ?_)
    subst e
    rw [hv_of hv]
    simp only [Option.bind_some]
    refine EvP.yes (by simp; omega) ?_
    rw [List.nil_append]
    refine (spec_fill0 u v ps x b pm pe (by omega) (by omega) (by omega) g2 (u.size - pm.length - ps.length) ps (by omega)).mono ?_
    intro r e
    rw [e]
    rfl
def tenR (ps pm pe : TL) : Option (ByteArray × ByteArray) → Int
  | some q => (q.1.size : Int) + q.2.size - ps.length - pm.length - pe.length
  | none => -1
end Go.Proofs.YtdgmkfbmeaalpaaDoor.Pur
end
section
namespace Go.Proofs.YtdgmkfbmeaalpaaDoor.E
open Go.RowKit Go.Proofs.YtdgmkfbmeaalpaaDoorW.PrintWords Go.Proofs.YtdgmkfbmeaalpaaDoorW.PrintLast Go.Proofs.YtdgmkfbmeaalpaaDoorW.PrintMore
attribute [local go_sem] max2_int min2_int max_two min_two max_three min_three max_four min_four
set_option linter.unusedVariables false
set_option linter.unusedSimpArgs false
attribute [local go_sem] str_leq_ str_gtr_ str_geq_
def impl_VerseAccents.l0 : Nat → List Int → ByteArray → Int → Int → Option (List Int)
 | 0, _, _, _, _ => none
 | k + 1, x3, x7, x23, x24 => if x24 < x23 then (if 0 ≤ x24 then (if x24 < (x7.size : Int) then (if (bt x7 x24) = 47 then (if x3.length < 17592186044416 then (impl_VerseAccents.l0 k (x3 ++ [x24]) x7 x23 (wrap64 (x24 + 1))) else (none)) else (impl_VerseAccents.l0 k x3 x7 x23 (wrap64 (x24 + 1)))) else (none)) else (none)) else (some x3)
def impl_VerseAccents.f (k : Nat) (a0 : ByteArray) : Option (List Int) := (some (([] : List Int) : List Int)).bind fun y416 => ((impl_VerseHalves.f a0).bind fun bt419 => (if bt419.2.2 = true then (if bt419.1.size + bt419.2.1.size ≤ 9223372036854775807 then (impl_VerseAccents.l0 k y416 (bt419.1 ++ bt419.2.1) ((bt419.1 ++ bt419.2.1).size : Int) 0) else (none)) else (some y416)))
end Go.Proofs.YtdgmkfbmeaalpaaDoor.E
end
section
namespace Go.Proofs.YtdgmkfbmeaalpaaDoor.E
open Go.RowKit Go.Proofs.YtdgmkfbmeaalpaaDoorW.PrintWords Go.Proofs.YtdgmkfbmeaalpaaDoorW.PrintLast Go.Proofs.YtdgmkfbmeaalpaaDoorW.PrintMore
attribute [local go_sem] max2_int min2_int max_two min_two max_three min_three max_four min_four
set_option linter.unusedVariables false
set_option linter.unusedSimpArgs false
attribute [local go_sem] str_leq_ str_gtr_ str_geq_
def impl_PsalmAccents.l0 : Nat → List (S86) → Int → List Int → Int → Int → Option (Int)
 | 0, _, _, _, _, _ => none
 | k + 1, x5, x7, x20, x21, x22 => if x22 < x21 then (if 0 ≤ x22 then (if x22 < (x20.length : Int) then (if 0 ≤ (rd x20 x22) then (if (rd x20 x22) < (x5.length : Int) then (if ((rd_T86 x5 (rd x20 x22)).f1) = 2 then (impl_PsalmAccents.l0 k x5 (wrap64 (x7 + 1)) x20 x21 (wrap64 (x22 + 1))) else (if ((rd_T86 x5 (rd x20 x22)).f1) = 3 then (impl_PsalmAccents.l0 k x5 (wrap64 (x7 + 1)) x20 x21 (wrap64 (x22 + 1))) else (impl_PsalmAccents.l0 k x5 x7 x20 x21 (wrap64 (x22 + 1))))) else (none)) else (none)) else (none)) else (none)) else (some x7)
def impl_PsalmAccents.f (k : Nat) (l0_0 : List (S25)) (a0_1 : Int) (a0_2 : Bool) (l0_3 : List (S25)) (l0_4 : List (S25)) (a1 : ByteArray) : Option (Int) := (impl_sungVerse.f k l0_0 a0_1 a0_2 l0_3 l0_4 a1).bind fun bt426 => (if bt426.2 = true then ((impl_VerseAccents.f k a1).bind fun t430 => (impl_PsalmAccents.l0 k bt426.1 0 t430 (t430.length : Int) 0)) else (some (-1)))
end Go.Proofs.YtdgmkfbmeaalpaaDoor.E
end
section
namespace Go.Proofs.YtdgmkfbmeaalpaaDoor.E
open Go.RowKit Go.Proofs.YtdgmkfbmeaalpaaDoorW.PrintWords Go.Proofs.YtdgmkfbmeaalpaaDoorW.PrintLast Go.Proofs.YtdgmkfbmeaalpaaDoorW.PrintMore
attribute [local go_sem] max2_int min2_int max_two min_two max_three min_three max_four min_four
set_option linter.unusedVariables false
set_option linter.unusedSimpArgs false
attribute [local go_sem] str_leq_ str_gtr_ str_geq_
mutual
def spec_PsalmAccents.l0 : Nat → ByteArray → ByteArray → Int → Int → List (S25) → Int → Bool → List (S25) → List (S25) → Option (Int)
 | 0, _, _, _, _, _, _, _, _, _ => none
 | k + 1, x5, x6, x7, x8, x436000, x436001, x436002, x436003, x436004 => if x8 < (x5.size : Int) then (if 0 ≤ x8 then (if (bt x5 x8) = 47 then (spec_PsalmAccents.l0 k x5 x6 (wrap64 (x7 + 1)) (wrap64 (x8 + 1)) x436000 x436001 x436002 x436003 x436004) else (spec_PsalmAccents.l0 k x5 x6 x7 (wrap64 (x8 + 1)) x436000 x436001 x436002 x436003 x436004)) else (none)) else (spec_PsalmAccents.l1 k x6 x7 (wrap64 ((x6.size : Int) - (x436004.length : Int))))
def spec_PsalmAccents.l1 : Nat → ByteArray → Int → Int → Option (Int)
 | 0, _, _, _ => none
 | k + 1, x6, x7, x9 => if x9 < (x6.size : Int) then (if 0 ≤ x9 then (if (bt x6 x9) = 47 then (spec_PsalmAccents.l1 k x6 (wrap64 (x7 + 1)) (wrap64 (x9 + 1))) else (spec_PsalmAccents.l1 k x6 x7 (wrap64 (x9 + 1)))) else (none)) else (some x7)
end
def spec_PsalmAccents.f (k : Nat) (l0_0 : List (S25)) (a0_1 : Int) (a0_2 : Bool) (l0_3 : List (S25)) (l0_4 : List (S25)) (a1 : ByteArray) : Option (Int) := (spec_PsalmFits.f k l0_0 a0_1 a0_2 l0_3 l0_4 a1).bind fun t436 => (if t436 = true then ((spec_l4Halves.f k a1).bind fun bt437 => (spec_PsalmAccents.l0 k bt437.1 bt437.2 0 (wrap64 ((bt437.1.size : Int) - (l0_3.length : Int))) l0_0 a0_1 a0_2 l0_3 l0_4)) else (some (-1)))
end Go.Proofs.YtdgmkfbmeaalpaaDoor.E
end
section
namespace Go.Proofs.YtdgmkfbmeaalpaaDoor.Pur
open Go.RowKit Go.Proofs.YtdgmkfbmeaalpaaDoorW.PrintWords Go.Proofs.YtdgmkfbmeaalpaaDoor.E
def isA (v : ByteArray) (z : Nat) : Nat := if v.data.toList[z]? = some 47 then 1 else 0
def accN (u v : ByteArray) (m e : Nat) : Nat := sumN (fun j => isA u (u.size - m + j)) m + sumN (fun j => isA v (v.size - e + j)) e
def accR (pm pe : TL) : Option (ByteArray × ByteArray) → Int
  | some q => (accN q.1 q.2 pm.length pe.length : Int)
  | none => -1
def accFrom : List UInt8 → Nat → List Int
  | [], _ => []
  | b :: l, i => if b = 47 then (i : Int) :: accFrom l (i + 1) else accFrom l (i + 1)
def accL : Option (ByteArray × ByteArray) → List Int
  | some q => accFrom (q.1 ++ q.2).data.toList 0
  | none => []
end Go.Proofs.YtdgmkfbmeaalpaaDoor.Pur
end
