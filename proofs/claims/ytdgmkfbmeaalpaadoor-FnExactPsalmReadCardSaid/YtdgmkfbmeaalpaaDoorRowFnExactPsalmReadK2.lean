/- Texts of this claim, joined by a program of this session's (wip/tools/pack.py). -/
import Derived.Test.YtdgmkfbmeaalpaaDoorRowFnExactPsalmReadK1
section
namespace Go.Proofs.YtdgmkfbmeaalpaaDoor.E
open Go.RowKit Go.Proofs.YtdgmkfbmeaalpaaDoorW.PrintWords Go.Proofs.YtdgmkfbmeaalpaaDoorW.PrintLast Go.Proofs.YtdgmkfbmeaalpaaDoorW.PrintMore
attribute [local go_sem] max2_int min2_int max_two min_two max_three min_three max_four min_four
set_option linter.unusedVariables false
set_option linter.unusedSimpArgs false
attribute [local go_sem] str_leq_ str_gtr_ str_geq_
mutual
def spec_PsalmSing.l0 : Nat → ByteArray → ByteArray → List (S25) → List (S25) → Int → Bool → List (S25) → List (S25) → Option ((List (S25)) × Bool)
 | 0, _, _, _, _, _, _, _, _ => none
 | k + 1, x6, x7, x8, x589000, x589001, x589002, x589003, x589004 => if (x8.length : Int) < (wrap64 ((x6.size : Int) - (x589003.length : Int))) then (if x8.length < 8796093022208 then (spec_PsalmSing.l0 k x6 x7 (x8 ++ [(⟨x589001, x589002⟩ : S25)]) x589000 x589001 x589002 x589003 x589004) else (none)) else (if x8.length + x589003.length < 8796093022208 then (spec_PsalmSing.l1 k x6 x7 (x8 ++ x589003) x589000 x589001 x589002 x589003 x589004) else (none))
def spec_PsalmSing.l1 : Nat → ByteArray → ByteArray → List (S25) → List (S25) → Int → Bool → List (S25) → List (S25) → Option ((List (S25)) × Bool)
 | 0, _, _, _, _, _, _, _, _ => none
 | k + 1, x6, x7, x8, x589000, x589001, x589002, x589003, x589004 => if (x8.length : Int) < (wrap64 ((wrap64 ((x6.size : Int) + (x7.size : Int))) - (x589004.length : Int))) then (if x8.length < 8796093022208 then (spec_PsalmSing.l1 k x6 x7 (x8 ++ [(⟨x589001, x589002⟩ : S25)]) x589000 x589001 x589002 x589003 x589004) else (none)) else (if x8.length + x589004.length < 8796093022208 then (some ((x8 ++ x589004), true)) else (none))
end
def spec_PsalmSing.f (k : Nat) (l0_0 : List (S25)) (a0_1 : Int) (a0_2 : Bool) (l0_3 : List (S25)) (l0_4 : List (S25)) (a1 : ByteArray) : Option ((List (S25)) × Bool) := (spec_PsalmFits.f k l0_0 a0_1 a0_2 l0_3 l0_4 a1).bind fun t589 => (if t589 = true then ((spec_l4Halves.f k a1).bind fun bt593 => ((some (([] : List (S25)) : List (S25))).bind fun y595 => (if y595.length + l0_0.length < 8796093022208 then (spec_PsalmSing.l0 k bt593.1 bt593.2 (y595 ++ l0_0) l0_0 a0_1 a0_2 l0_3 l0_4) else (none)))) else (some ((([] : List (S25))), false)))
set_option maxHeartbeats 8000000 in
set_option maxRecDepth 100000 in
theorem spec_PsalmSing.calls (k : Nat) (A0_0 : Option Addr) (c0_0 : Nat) (l0_0 : List (S25)) (a0_1 : Int) (a0_2 : Bool) (A0_3 : Option Addr) (c0_3 : Nat) (l0_3 : List (S25)) (A0_4 : Option Addr) (c0_4 : Nat) (l0_4 : List (S25)) (a1 : ByteArray) (r1 : List (S25)) (r2 : Bool) (w : World) (hr0_0 : Kd.C k25 w A0_0 l0_0.length l0_0) (hc0_0 : l0_0.length ≤ c0_0) (hr0_3 : Kd.C k25 w A0_3 l0_3.length l0_3) (hc0_3 : l0_3.length ≤ c0_3) (hr0_4 : Kd.C k25 w A0_4 l0_4.length l0_4) (hc0_4 : l0_4.length ≤ c0_4) (h : spec_PsalmSing.f k l0_0 a0_1 a0_2 l0_3 l0_4 a1 = some (r1, r2)) :
  Calls Tryd.prog 34 #[.agg #[.slice A0_0 l0_0.length c0_0, .int .i64 a0_1, .bool a0_2, .slice A0_3 l0_3.length c0_3, .slice A0_4 l0_4.length c0_4], .string a1] w fun e w' => ∃ v0_ : Value, e = .returned (.tuple #[v0_, .bool r2]) ∧ Kd.R k25 25 w' w.heap.size (fun _ => True) v0_ r1 ∧ Below w.heap.size w w' := by
 have hu27 := Tryd.underlying27
 have hu25 := Tryd.underlying25
 have HR0_0 := Aside0.mk hr0_0
 have HC0_0 := Aside0.mk hc0_0
 clear hr0_0 hc0_0
 have HR0_3 := Aside0.mk hr0_3
 have HC0_3 := Aside0.mk hc0_3
 clear hr0_3 hc0_3
 have HR0_4 := Aside0.mk hr0_4
 have HC0_4 := Aside0.mk hc0_4
 clear hr0_4 hc0_4
 have HB := Aside0.mk (Below.refl w.heap.size w)
 have H : ((spec_PsalmFits.f k l0_0 a0_1 a0_2 l0_3 l0_4 a1).bind fun t589 => (if t589 = true then ((spec_l4Halves.f k a1).bind fun bt593 => ((some (([] : List (S25)) : List (S25))).bind fun y595 => (if y595.length + l0_0.length < 8796093022208 then (spec_PsalmSing.l0 k bt593.1 bt593.2 (y595 ++ l0_0) l0_0 a0_1 a0_2 l0_3 l0_4) else (none)))) else (some ((([] : List (S25))), false)))) = some (r1, r2) := h
 clear h
 replace H := Option.bind_eq_some_iff.mp H
 obtain ⟨t589, A30, H⟩ := H
 replace H : (if t589 = true then ((spec_l4Halves.f k a1).bind fun bt593 => ((some (([] : List (S25)) : List (S25))).bind fun y595 => (if y595.length + l0_0.length < 8796093022208 then (spec_PsalmSing.l0 k bt593.1 bt593.2 (y595 ++ l0_0) l0_0 a0_1 a0_2 l0_3 l0_4) else (none)))) else (some ((([] : List (S25))), false))) = some (r1, r2) := H
 have A3 := Aside0.mk A30
 clear A30
 by_cases c4 : t589 = true
 rotate_left
 ·replace c4 := Bool.eq_false_iff.mpr c4
  subst c4
  have H1 : (some ((([] : List (S25))), false)) = some (r1, r2) := by rw [if_neg (show ¬ (false = true) by decide)] at H; exact H
  clear H
  have H := H1
  clear H1
  obtain ⟨y590, hy590⟩ : ∃ y_ : List (S25), y_ = (([] : List (S25))) := ⟨_, rfl⟩
  replace H : (some (y590, false)) = some (r1, r2) := by first | (rw [hy590]; with_reducible exact H) | (have H2_ := (Option.bind_some _ _).symm.trans H; rw [hy590]; with_reducible exact H2_) | (have H2_ := (Option.bind_some _ _).symm.trans H; with_reducible exact H2_) | with_reducible exact H | (rw [hy590]; exact H) | exact H
  have Ny590 := Aside0.mk hy590
  clear hy590
  simp only [Option.some.injEq, Prod.mk.injEq] at H
  obtain ⟨rfl, rfl⟩ := H
  go_enter Tryd.func34, Tryd.ntmps34
  go_wp2_with (first | ((with_reducible refine gate_dst (N := 2) rfl ?_); refine box_event ?hg (N := 2) ?hd (cs := #[.slice A0_0 l0_0.length c0_0, .int .i64 a0_1, .bool a0_2, .slice A0_3 l0_3.length c0_3, .slice A0_4 l0_4.length c0_4]) (t := 27) ?hr ?_; (case hd => rfl); (case hg => rfl); (case hr => first | (go_simp; done) | (go_simp; rfl)); intro gb588 hg w32 hbox hb; have n0_ := Aside0.mk (below_step (by repeat (first | (with_reducible first | exact HB.out | apply below_alloc | apply pw_below_drewN | apply below_drew1) | exact HB.out)) hb); have n1_ := Aside0.mk (hbox); have n2_ := Aside0.mk ((by rw [hg]; exact (below_size (by repeat (first | (with_reducible first | exact HB.out | apply below_alloc | apply pw_below_drewN | apply below_drew1) | exact HB.out))) : w.heap.size ≤ gb588)); have n3_ := Aside0.mk ((by rw [hg]; exact (below_size (by repeat (first | (with_reducible first | exact HB.out | apply below_alloc | apply pw_below_drewN | apply below_drew1) | exact HB.out))) : w.heap.size ≤ gb588)); clear HB; have HB := n0_; have BK588 := n1_; have GW588 := n2_; have GE588 := n3_; clear n0_ n1_ n2_ n3_; clear hb hbox hg; have hcz33_0 : w32.cell? ⟨gb588, 0, none⟩ = some (.slice A0_0 l0_0.length c0_0) := (blk_cell BK588.out 0).trans rfl; have hcz33_1 : w32.cell? ⟨gb588, 1, none⟩ = some (.int .i64 a0_1) := (blk_cell BK588.out 1).trans rfl; have hcz33_2 : w32.cell? ⟨gb588, 2, none⟩ = some (.bool a0_2) := (blk_cell BK588.out 2).trans rfl; have hcz33_3 : w32.cell? ⟨gb588, 3, none⟩ = some (.slice A0_3 l0_3.length c0_3) := (blk_cell BK588.out 3).trans rfl; have hcz33_4 : w32.cell? ⟨gb588, 4, none⟩ = some (.slice A0_4 l0_4.length c0_4) := (blk_cell BK588.out 4).trans rfl; have hfz33_0 := blk_frozen BK588.out 0; have hfz33_1 := blk_frozen BK588.out 1; have hfz33_2 := blk_frozen BK588.out 2; have hfz33_3 := blk_frozen BK588.out 3; have hfz33_4 := blk_frozen BK588.out 4) | ((with_reducible refine gate_callee (f := 17) rfl ?_); refine goesL_ (some 11) rfl rfl Tryd.func17 (by kernel_rfl) rfl #[.agg #[.slice A0_0 l0_0.length c0_0, .int .i64 a0_1, .bool a0_2, .slice A0_3 l0_3.length c0_3, .slice A0_4 l0_4.length c0_4], .string a1] rfl (by (try simp only [List.map_toArray, List.map_cons, List.map_nil]); first | done | rfl | (simp only [List.length_drop, List.length_take]; rfl)) ?_; (with_reducible refine (spec_PsalmFits.calls k _ _ l0_0 a0_1 a0_2 _ _ l0_3 _ _ l0_4 a1 false _ ?side1 ?side2 ?side3 ?side4 ?side5 ?side6 A3.out).mono ?_); (case side1 => repeat (first | exact (Kd.C_below HR0_0.out HB.out) | (with_reducible refine Kd.C_alloc ?_ _) | (with_reducible refine Kd.C_drewN ?_ _) | (with_reducible refine Kd.C_drew ?_))); (case side2 => exact HC0_0.out); (case side3 => repeat (first | exact (Kd.C_below HR0_3.out HB.out) | (with_reducible refine Kd.C_alloc ?_ _) | (with_reducible refine Kd.C_drewN ?_ _) | (with_reducible refine Kd.C_drew ?_))); (case side4 => exact HC0_3.out); (case side5 => repeat (first | exact (Kd.C_below HR0_4.out HB.out) | (with_reducible refine Kd.C_alloc ?_ _) | (with_reducible refine Kd.C_drewN ?_ _) | (with_reducible refine Kd.C_drew ?_))); (case side6 => exact HC0_4.out); rintro e w34 ⟨rfl, hb⟩; refine ⟨_, rfl, ?_⟩; have n0_ := Aside0.mk (blk_below (g := gb588) (o := .cells #[.slice A0_0 l0_0.length c0_0, .int .i64 a0_1, .bool a0_2, .slice A0_3 l0_3.length c0_3, .slice A0_4 l0_4.length c0_4] 27 (0, 0)) (by (with_reducible repeat (first | refine blk_drewN ?_ _ | refine blk_drew ?_ | refine blk_alloc ?_ _)); exact BK588.out) hb); have n1_ := Aside0.mk (below_step (by repeat (first | (with_reducible first | exact HB.out | apply below_alloc | apply pw_below_drewN | apply below_drew1 | refine below_set ?_ GE588.out) | exact HB.out)) hb); clear BK588; clear HB; have BK588 := n0_; have HB := n1_; clear n0_ n1_; (try clear hb); (try clear hb2); (try clear hk); (try clear hi)) | ((with_reducible refine gate_dst (N := 13) rfl ?_); refine Kd.R_lit k25 _ 25 ?hg (N := 13) ?hd (xs := ([] : List (S25))) (inner := []) (ok := fun _ => True) (okp := fun _ => True) ?hr ?hp (fun _ hk => hk) trivial (Below.refl _ _) (Nat.le_refl _) (by simp) ?_; (case hd => rfl); (case hg => rfl); (case hr => first | (go_simp; done) | (go_simp; rfl)); (case hp => exact (Reps.none _ _)); intro v591 w35 ho36 hb hg_ hnew_; clear hg_ hnew_; (first | rw [← Ny590.out] at ho36 | (simp only [Int.reduceToNat] at ho36; rw [← Ny590.out] at ho36)); have n0_ := Aside0.mk (Kd.R_lower ho36 (below_size (by repeat (first | (with_reducible first | exact HB.out | apply below_alloc | apply pw_below_drewN | apply below_drew1 | refine below_set ?_ GE588.out) | exact HB.out)))); have n1_ := Aside0.mk (blk_below (g := gb588) (o := .cells #[.slice A0_0 l0_0.length c0_0, .int .i64 a0_1, .bool a0_2, .slice A0_3 l0_3.length c0_3, .slice A0_4 l0_4.length c0_4] 27 (0, 0)) (by (with_reducible repeat (first | refine blk_drewN ?_ _ | refine blk_drew ?_ | refine blk_alloc ?_ _)); exact BK588.out) hb); have n2_ := Aside0.mk (below_step (by repeat (first | (with_reducible first | exact HB.out | apply below_alloc | apply pw_below_drewN | apply below_drew1 | refine below_set ?_ GE588.out) | exact HB.out)) hb); clear BK588; clear HB; have HO592 := n0_; have BK588 := n1_; have HB := n2_; clear n0_ n1_ n2_; clear hb ho36))
  go_ret2
  exact ⟨_, by first | rfl | (simp [errW_none, errW_some] <;> rfl) | (simp [*, errW_none, errW_some] <;> rfl), by (with_reducible repeat (first | apply Kd.R_alloc | apply Kd.R_drewN | apply Kd.R_drew)); exact HO592.out, by repeat (first | (with_reducible first | exact HB.out | apply below_alloc | apply pw_below_drewN | apply below_drew1 | refine below_set ?_ GE588.out) | exact HB.out)⟩
 subst c4
 have H1 : ((spec_l4Halves.f k a1).bind fun bt593 => ((some (([] : List (S25)) : List (S25))).bind fun y595 => (if y595.length + l0_0.length < 8796093022208 then (spec_PsalmSing.l0 k bt593.1 bt593.2 (y595 ++ l0_0) l0_0 a0_1 a0_2 l0_3 l0_4) else (none)))) = some (r1, r2) := by rw [if_pos rfl] at H; exact H
 clear H
 have H := H1
 clear H1
 replace H := Option.bind_eq_some_iff.mp H
 obtain ⟨⟨t593, t594⟩, A50, H⟩ := H
 replace H : ((some (([] : List (S25)) : List (S25))).bind fun y595 => (if y595.length + l0_0.length < 8796093022208 then (spec_PsalmSing.l0 k t593 t594 (y595 ++ l0_0) l0_0 a0_1 a0_2 l0_3 l0_4) else (none))) = some (r1, r2) := H
 have A5 := Aside0.mk A50
 clear A50
 obtain ⟨y595, hy595⟩ : ∃ y_ : List (S25), y_ = (([] : List (S25))) := ⟨_, rfl⟩
 replace H : (if y595.length + l0_0.length < 8796093022208 then (spec_PsalmSing.l0 k t593 t594 (y595 ++ l0_0) l0_0 a0_1 a0_2 l0_3 l0_4) else (none)) = some (r1, r2) := by first | (rw [hy595]; with_reducible exact H) | (have H2_ := (Option.bind_some _ _).symm.trans H; rw [hy595]; with_reducible exact H2_) | (have H2_ := (Option.bind_some _ _).symm.trans H; with_reducible exact H2_) | with_reducible exact H | (rw [hy595]; exact H) | exact H
 have Ny595 := Aside0.mk hy595
 clear hy595
 by_cases c6 : y595.length + l0_0.length < 8796093022208
 rotate_left
 ·rw [if_neg c6] at H
  exact absurd H (by simp)
 rw [if_pos c6] at H
 have LMc6 := Aside0.mk c6
 clear c6
 obtain ⟨y598, hy598⟩ : ∃ y_ : List (S25), y_ = (y595 ++ l0_0) := ⟨_, rfl⟩
 replace H : (spec_PsalmSing.l0 k t593 t594 y598 l0_0 a0_1 a0_2 l0_3 l0_4) = some (r1, r2) := by first | (rw [hy598]; with_reducible exact H) | (have H2_ := (Option.bind_some _ _).symm.trans H; rw [hy598]; with_reducible exact H2_) | (have H2_ := (Option.bind_some _ _).symm.trans H; with_reducible exact H2_) | with_reducible exact H | (rw [hy598]; exact H) | exact H
 have Ny598 := Aside0.mk hy598
 clear hy598
 have H' := Aside0.mk H
 clear H
 go_enter Tryd.func34, Tryd.ntmps34
 go_wp2_with (first | ((with_reducible refine gate_dst (N := 2) rfl ?_); refine box_event ?hg (N := 2) ?hd (cs := #[.slice A0_0 l0_0.length c0_0, .int .i64 a0_1, .bool a0_2, .slice A0_3 l0_3.length c0_3, .slice A0_4 l0_4.length c0_4]) (t := 27) ?hr ?_; (case hd => rfl); (case hg => rfl); (case hr => first | (go_simp; done) | (go_simp; rfl)); intro gb588 hg w7 hbox hb; have n0_ := Aside0.mk (below_step (by repeat (first | (with_reducible first | exact HB.out | apply below_alloc | apply pw_below_drewN | apply below_drew1) | exact HB.out)) hb); have n1_ := Aside0.mk (hbox); have n2_ := Aside0.mk ((by rw [hg]; exact (below_size (by repeat (first | (with_reducible first | exact HB.out | apply below_alloc | apply pw_below_drewN | apply below_drew1) | exact HB.out))) : w.heap.size ≤ gb588)); have n3_ := Aside0.mk ((by rw [hg]; exact (below_size (by repeat (first | (with_reducible first | exact HB.out | apply below_alloc | apply pw_below_drewN | apply below_drew1) | exact HB.out))) : w.heap.size ≤ gb588)); clear HB; have HB := n0_; have BK588 := n1_; have GW588 := n2_; have GE588 := n3_; clear n0_ n1_ n2_ n3_; clear hb hbox hg; have hcz8_0 : w7.cell? ⟨gb588, 0, none⟩ = some (.slice A0_0 l0_0.length c0_0) := (blk_cell BK588.out 0).trans rfl; have hcz8_1 : w7.cell? ⟨gb588, 1, none⟩ = some (.int .i64 a0_1) := (blk_cell BK588.out 1).trans rfl; have hcz8_2 : w7.cell? ⟨gb588, 2, none⟩ = some (.bool a0_2) := (blk_cell BK588.out 2).trans rfl; have hcz8_3 : w7.cell? ⟨gb588, 3, none⟩ = some (.slice A0_3 l0_3.length c0_3) := (blk_cell BK588.out 3).trans rfl; have hcz8_4 : w7.cell? ⟨gb588, 4, none⟩ = some (.slice A0_4 l0_4.length c0_4) := (blk_cell BK588.out 4).trans rfl; have hfz8_0 := blk_frozen BK588.out 0; have hfz8_1 := blk_frozen BK588.out 1; have hfz8_2 := blk_frozen BK588.out 2; have hfz8_3 := blk_frozen BK588.out 3; have hfz8_4 := blk_frozen BK588.out 4) | ((with_reducible refine gate_callee (f := 17) rfl ?_); refine goesL_ (some 11) rfl rfl Tryd.func17 (by kernel_rfl) rfl #[.agg #[.slice A0_0 l0_0.length c0_0, .int .i64 a0_1, .bool a0_2, .slice A0_3 l0_3.length c0_3, .slice A0_4 l0_4.length c0_4], .string a1] rfl (by (try simp only [List.map_toArray, List.map_cons, List.map_nil]); first | done | rfl | (simp only [List.length_drop, List.length_take]; rfl)) ?_; (with_reducible refine (spec_PsalmFits.calls k _ _ l0_0 a0_1 a0_2 _ _ l0_3 _ _ l0_4 a1 true _ ?side1 ?side2 ?side3 ?side4 ?side5 ?side6 A3.out).mono ?_); (case side1 => repeat (first | exact (Kd.C_below HR0_0.out HB.out) | (with_reducible refine Kd.C_alloc ?_ _) | (with_reducible refine Kd.C_drewN ?_ _) | (with_reducible refine Kd.C_drew ?_))); (case side2 => exact HC0_0.out); (case side3 => repeat (first | exact (Kd.C_below HR0_3.out HB.out) | (with_reducible refine Kd.C_alloc ?_ _) | (with_reducible refine Kd.C_drewN ?_ _) | (with_reducible refine Kd.C_drew ?_))); (case side4 => exact HC0_3.out); (case side5 => repeat (first | exact (Kd.C_below HR0_4.out HB.out) | (with_reducible refine Kd.C_alloc ?_ _) | (with_reducible refine Kd.C_drewN ?_ _) | (with_reducible refine Kd.C_drew ?_))); (case side6 => exact HC0_4.out); rintro e w9 ⟨rfl, hb⟩; refine ⟨_, rfl, ?_⟩; have n0_ := Aside0.mk (blk_below (g := gb588) (o := .cells #[.slice A0_0 l0_0.length c0_0, .int .i64 a0_1, .bool a0_2, .slice A0_3 l0_3.length c0_3, .slice A0_4 l0_4.length c0_4] 27 (0, 0)) (by (with_reducible repeat (first | refine blk_drewN ?_ _ | refine blk_drew ?_ | refine blk_alloc ?_ _)); exact BK588.out) hb); have n1_ := Aside0.mk (below_step (by repeat (first | (with_reducible first | exact HB.out | apply below_alloc | apply pw_below_drewN | apply below_drew1 | refine below_set ?_ GE588.out) | exact HB.out)) hb); clear BK588; clear HB; have BK588 := n0_; have HB := n1_; clear n0_ n1_; (try clear hb); (try clear hb2); (try clear hk); (try clear hi)) | ((with_reducible refine gate_callee (f := 59) rfl ?_); refine goesL_ (some 16) rfl rfl Tryd.func59 (by kernel_rfl) rfl #[.string a1] rfl (by (try simp only [List.map_toArray, List.map_cons, List.map_nil]); first | done | rfl | (simp only [List.length_drop, List.length_take]; rfl)) ?_; (with_reducible refine (spec_l4Halves.calls k a1 t593 t594 _ A5.out).mono ?_); rintro e w' ⟨rfl, ⟨nd, rfl⟩⟩; refine ⟨_, rfl, ?_⟩) | ((with_reducible refine gate_dst (N := 19) rfl ?_); refine Kd.R_lit k25 _ 25 ?hg (N := 19) ?hd (xs := ([] : List (S25))) (inner := []) (ok := fun _ => True) (okp := fun _ => True) ?hr ?hp (fun _ hk => hk) trivial (Below.refl _ _) (Nat.le_refl _) (by simp) ?_; (case hd => rfl); (case hg => rfl); (case hr => first | (go_simp; done) | (go_simp; rfl)); (case hp => exact (Reps.none _ _)); intro v596 w10 ho11 hb hg_ hnew_; clear hg_ hnew_; (first | rw [← Ny595.out] at ho11 | (simp only [Int.reduceToNat] at ho11; rw [← Ny595.out] at ho11)); have n0_ := Aside0.mk (Kd.R_lower ho11 (below_size (by repeat (first | (with_reducible first | exact HB.out | apply below_alloc | apply pw_below_drewN | apply below_drew1 | refine below_set ?_ GE588.out) | exact HB.out)))); have n1_ := Aside0.mk (blk_below (g := gb588) (o := .cells #[.slice A0_0 l0_0.length c0_0, .int .i64 a0_1, .bool a0_2, .slice A0_3 l0_3.length c0_3, .slice A0_4 l0_4.length c0_4] 27 (0, 0)) (by (with_reducible repeat (first | refine blk_drewN ?_ _ | refine blk_drew ?_ | refine blk_alloc ?_ _)); exact BK588.out) hb); have n2_ := Aside0.mk (below_step (by repeat (first | (with_reducible first | exact HB.out | apply below_alloc | apply pw_below_drewN | apply below_drew1 | refine below_set ?_ GE588.out) | exact HB.out)) hb); clear BK588; clear HB; have HO597 := n0_; have BK588 := n1_; have HB := n2_; clear n0_ n1_ n2_; clear hb ho11; have hcz12_0 : w10.cell? ⟨gb588, 0, none⟩ = some (.slice A0_0 l0_0.length c0_0) := (blk_cell BK588.out 0).trans rfl; have hcz12_1 : w10.cell? ⟨gb588, 1, none⟩ = some (.int .i64 a0_1) := (blk_cell BK588.out 1).trans rfl; have hcz12_2 : w10.cell? ⟨gb588, 2, none⟩ = some (.bool a0_2) := (blk_cell BK588.out 2).trans rfl; have hcz12_3 : w10.cell? ⟨gb588, 3, none⟩ = some (.slice A0_3 l0_3.length c0_3) := (blk_cell BK588.out 3).trans rfl; have hcz12_4 : w10.cell? ⟨gb588, 4, none⟩ = some (.slice A0_4 l0_4.length c0_4) := (blk_cell BK588.out 4).trans rfl; have hfz12_0 := blk_frozen BK588.out 0; have hfz12_1 := blk_frozen BK588.out 1; have hfz12_2 := blk_frozen BK588.out 2; have hfz12_3 := blk_frozen BK588.out 3; have hfz12_4 := blk_frozen BK588.out 4) | ((with_reducible refine gate_builtin (b := .append) (xs := #[.tmp 19, .tmp 21]) rfl ?_); at_builtin; refine Kd.R_append_rows k25 (w0 := w) w.heap.size rfl (.tmp 19) (.tmp 21) 23 25 (.agg #[(.int .i64 0), (.bool false)]) 16 rfl Tryd.underlying23 info25 rfl (by decide) (by omega) v596 y595 l0_0 _ _ _ (fun _ => True) (fun _ => False) rfl rfl ?aO ?aR (fun _ _ h => h) (fun _ h => h.elim) ?aF ?aB ?aS ?aL ?_; (case aR => repeat (first | exact (Kd.C_below HR0_0.out HB.out) | (with_reducible refine Kd.C_alloc ?_ _) | (with_reducible refine Kd.C_drewN ?_ _) | (with_reducible refine Kd.C_drew ?_))); (case aB => exact (by repeat (first | (with_reducible first | exact HB.out | apply below_alloc | apply pw_below_drewN | apply below_drew1 | refine below_set ?_ GE588.out) | exact HB.out))); (case aF => exact (fun _ _ => trivial)); (case aO => exact (by (with_reducible repeat (first | apply Kd.R_alloc | apply Kd.R_drewN | apply Kd.R_drew)); exact HO597.out)); (case aS => exact (below_size (by repeat (first | (with_reducible first | exact HB.out | apply below_alloc | apply pw_below_drewN | apply below_drew1 | refine below_set ?_ GE588.out) | exact HB.out)))); (case aL => have := LMc6.out; omega); intro v599 w13 ho hb hg hat; rw [← Ny598.out] at ho; have n0_ := Aside0.mk (blk_grown (g := gb588) (o := .cells #[.slice A0_0 l0_0.length c0_0, .int .i64 a0_1, .bool a0_2, .slice A0_3 l0_3.length c0_3, .slice A0_4 l0_4.length c0_4] 27 (0, 0)) (by (with_reducible repeat (first | refine blk_drewN ?_ _ | refine blk_drew ?_ | refine blk_alloc ?_ _)); exact BK588.out) hg (Kd.R_ne HO597.out BK588.out (by decide))); have n1_ := Aside0.mk (hb); have n2_ := Aside0.mk (ho); clear BK588; clear HB; clear HO597; have BK588 := n0_; have HB := n1_; have HO600 := n2_; clear n0_ n1_ n2_; clear ho hb hg hat))
 go_loopg [8] k (fun kq v8 w' => ∃ (x8_1 : List (S25)), Aside0 (spec_PsalmSing.l0 kq t593 t594 x8_1 l0_0 a0_1 a0_2 l0_3 l0_4 = some (r1, r2)) ∧ Aside0 (kq ≤ k) ∧ Aside0 (Kd.R k25 25 w' w.heap.size (fun _ => True) v8 x8_1) ∧ Aside0 (w'.heap[gb588]? = some (.cells #[(.slice A0_0 l0_0.length c0_0), .int .i64 a0_1, .bool a0_2, (.slice A0_3 l0_3.length c0_3), (.slice A0_4 l0_4.length c0_4)] 27 (0, 0))) ∧ Aside0 (Below w.heap.size w w'))
 case atStart => exact ⟨(y598), H', ⟨Nat.le_refl _⟩, ⟨by (with_reducible repeat (first | apply Kd.R_alloc | apply Kd.R_drewN | apply Kd.R_drew)); exact HO600.out⟩, ⟨by (with_reducible repeat (first | refine blk_drewN ?_ _ | refine blk_drew ?_ | refine blk_alloc ?_ _)); exact BK588.out⟩, ⟨by repeat (first | (with_reducible first | exact HB.out | apply below_alloc | apply pw_below_drewN | apply below_drew1 | refine below_set ?_ GE588.out) | exact HB.out)⟩⟩
 case round =>
  clear H'
  try clear c1
  try clear p2
  try clear c3
  try clear c4
  try clear c5
  try clear c6
  try clear hcz12_0
  try clear hcz12_1
  try clear hcz12_2
  try clear hcz12_3
  try clear hcz12_4
  try clear hcz8_0
  try clear hcz8_1
  try clear hcz8_2
  try clear hcz8_3
  try clear hcz8_4
  try clear hfz12_0
  try clear hfz12_1
  try clear hfz12_2
  try clear hfz12_3
  try clear hfz12_4
  try clear hfz8_0
  try clear hfz8_1
  try clear hfz8_2
  try clear hfz8_3
  try clear hfz8_4
  obtain ⟨x8_1, HA, HK1, HO_8, BK588, HB⟩ := hrel
  cases gk with
  | zero => exact absurd HA.out (by simp [spec_PsalmSing.l0])
  | succ k1 =>
   have H := HA.out
   clear HA
   simp only [spec_PsalmSing.l0] at H
   by_cases c14 : (x8_1.length : Int) < (wrap64 ((t593.size : Int) - (l0_3.length : Int)))
   ·rw [if_pos c14] at H
    have c14b0 : decide ((x8_1.length : Int) < (wrap64 ((t593.size : Int) - (l0_3.length : Int)))) = true := decide_eq_true c14
    clear c14
    by_cases c15 : x8_1.length < 8796093022208
    rotate_left
    ·rw [if_neg c15] at H
     exact absurd H (by simp)
    rw [if_pos c15] at H
    have LMc15 := Aside0.mk c15
    clear c15
    obtain ⟨y601, hy601⟩ : ∃ y_ : List (S25), y_ = (x8_1 ++ [(⟨a0_1, a0_2⟩ : S25)]) := ⟨_, rfl⟩
    replace H : (spec_PsalmSing.l0 k1 t593 t594 y601 l0_0 a0_1 a0_2 l0_3 l0_4) = some (r1, r2) := by first | (rw [hy601]; with_reducible exact H) | (have H2_ := (Option.bind_some _ _).symm.trans H; rw [hy601]; with_reducible exact H2_) | (have H2_ := (Option.bind_some _ _).symm.trans H; with_reducible exact H2_) | with_reducible exact H | (rw [hy601]; exact H) | exact H
    have Ny601 := Aside0.mk hy601
    clear hy601
    have H' := Aside0.mk H
    clear H
    obtain ⟨Ao16, co16, eo16⟩ := Kd.R_slice HO_8.out
    subst eo16
    have hcz17_0 : wr.cell? ⟨gb588, 0, none⟩ = some (.slice A0_0 l0_0.length c0_0) := (blk_cell BK588.out 0).trans rfl
    have hcz17_1 : wr.cell? ⟨gb588, 1, none⟩ = some (.int .i64 a0_1) := (blk_cell BK588.out 1).trans rfl
    have hcz17_2 : wr.cell? ⟨gb588, 2, none⟩ = some (.bool a0_2) := (blk_cell BK588.out 2).trans rfl
    have hcz17_3 : wr.cell? ⟨gb588, 3, none⟩ = some (.slice A0_3 l0_3.length c0_3) := (blk_cell BK588.out 3).trans rfl
    have hcz17_4 : wr.cell? ⟨gb588, 4, none⟩ = some (.slice A0_4 l0_4.length c0_4) := (blk_cell BK588.out 4).trans rfl
    have hfz17_0 := blk_frozen BK588.out 0
    have hfz17_1 := blk_frozen BK588.out 1
    have hfz17_2 := blk_frozen BK588.out 2
    have hfz17_3 := blk_frozen BK588.out 3
    have hfz17_4 := blk_frozen BK588.out 4
    go_wp2_with (first | ((with_reducible refine gate_builtin (b := .append) (xs := #[.tmp 32, .tmp 35]) rfl ?_); at_builtin; refine Kd.R_append k25 (w0 := w) w.heap.size rfl (.tmp 32) (.tmp 35) 23 25 (.agg #[(.int .i64 0), (.bool false)]) 16 rfl Tryd.underlying23 info25 rfl (by decide) (by omega) (.slice Ao16 x8_1.length co16) x8_1 (⟨a0_1, a0_2⟩ : S25) [.int .i64 a0_1, .bool a0_2] (fun _ => True) (fun _ => False) rfl rfl ?aP (fun _ hk => hk.elim) ?aF ?aO ?aB ?aS ?aL ?_; (case aP => exact k25_mkM _ _ _ (⟨a0_1, a0_2⟩ : S25)); (case aB => exact (by repeat (first | (with_reducible first | exact HB.out | apply below_alloc | apply pw_below_drewN | apply below_drew1 | refine below_set ?_ GE588.out) | exact HB.out))); (case aF => exact (fun _ _ => trivial)); (case aO => exact (by (with_reducible repeat (first | apply Kd.R_alloc | apply Kd.R_drewN | apply Kd.R_drew)); exact HO_8.out)); (case aS => exact (below_size (by repeat (first | (with_reducible first | exact HB.out | apply below_alloc | apply pw_below_drewN | apply below_drew1 | refine below_set ?_ GE588.out) | exact HB.out)))); (case aL => have := LMc15.out; omega); intro v602 w18 ho hb hg hat; rw [← Ny601.out] at ho; have n0_ := Aside0.mk (blk_grown (g := gb588) (o := .cells #[.slice A0_0 l0_0.length c0_0, .int .i64 a0_1, .bool a0_2, .slice A0_3 l0_3.length c0_3, .slice A0_4 l0_4.length c0_4] 27 (0, 0)) (by (with_reducible repeat (first | refine blk_drewN ?_ _ | refine blk_drew ?_ | refine blk_alloc ?_ _)); exact BK588.out) hg (Kd.R_ne HO_8.out BK588.out (by decide))); have n1_ := Aside0.mk (hb); have n2_ := Aside0.mk (ho); clear BK588; clear HB; clear HO_8; have BK588 := n0_; have HB := n1_; have HO603 := n2_; clear n0_ n1_ n2_; clear ho hb hg hat))
    go_roundg k1
    case measure => have := HK1.out; omega
    case rel => exact ⟨(y601), H', ⟨by have := HK1.out; omega⟩, ⟨by (with_reducible repeat (first | apply Kd.R_alloc | apply Kd.R_drewN | apply Kd.R_drew)); exact HO603.out⟩, ⟨by (with_reducible repeat (first | refine blk_drewN ?_ _ | refine blk_drew ?_ | refine blk_alloc ?_ _)); exact BK588.out⟩, ⟨by repeat (first | (with_reducible first | exact HB.out | apply below_alloc | apply pw_below_drewN | apply below_drew1 | refine below_set ?_ GE588.out) | exact HB.out)⟩⟩
   rw [if_neg c14] at H
   have c14b0 : decide ((x8_1.length : Int) < (wrap64 ((t593.size : Int) - (l0_3.length : Int)))) = false := decide_eq_false c14
   clear c14
   by_cases c19 : x8_1.length + l0_3.length < 8796093022208
   rotate_left
   ·rw [if_neg c19] at H
    exact absurd H (by simp)
   rw [if_pos c19] at H
   have LMc19 := Aside0.mk c19
   clear c19
   obtain ⟨y604, hy604⟩ : ∃ y_ : List (S25), y_ = (x8_1 ++ l0_3) := ⟨_, rfl⟩
   replace H : (spec_PsalmSing.l1 k1 t593 t594 y604 l0_0 a0_1 a0_2 l0_3 l0_4) = some (r1, r2) := by first | (rw [hy604]; with_reducible exact H) | (have H2_ := (Option.bind_some _ _).symm.trans H; rw [hy604]; with_reducible exact H2_) | (have H2_ := (Option.bind_some _ _).symm.trans H; with_reducible exact H2_) | with_reducible exact H | (rw [hy604]; exact H) | exact H
   have Ny604 := Aside0.mk hy604
   clear hy604
   have H' := Aside0.mk H
   clear H
   obtain ⟨Ao20, co20, eo20⟩ := Kd.R_slice HO_8.out
   subst eo20
   have hcz21_0 : wr.cell? ⟨gb588, 0, none⟩ = some (.slice A0_0 l0_0.length c0_0) := (blk_cell BK588.out 0).trans rfl
   have hcz21_1 : wr.cell? ⟨gb588, 1, none⟩ = some (.int .i64 a0_1) := (blk_cell BK588.out 1).trans rfl
   have hcz21_2 : wr.cell? ⟨gb588, 2, none⟩ = some (.bool a0_2) := (blk_cell BK588.out 2).trans rfl
   have hcz21_3 : wr.cell? ⟨gb588, 3, none⟩ = some (.slice A0_3 l0_3.length c0_3) := (blk_cell BK588.out 3).trans rfl
   have hcz21_4 : wr.cell? ⟨gb588, 4, none⟩ = some (.slice A0_4 l0_4.length c0_4) := (blk_cell BK588.out 4).trans rfl
   have hfz21_0 := blk_frozen BK588.out 0
   have hfz21_1 := blk_frozen BK588.out 1
   have hfz21_2 := blk_frozen BK588.out 2
   have hfz21_3 := blk_frozen BK588.out 3
   have hfz21_4 := blk_frozen BK588.out 4
   go_wp2_with (first | ((with_reducible refine gate_builtin (b := .append) (xs := #[.tmp 37, .tmp 39]) rfl ?_); at_builtin; refine Kd.R_append_rows k25 (w0 := w) w.heap.size rfl (.tmp 37) (.tmp 39) 23 25 (.agg #[(.int .i64 0), (.bool false)]) 16 rfl Tryd.underlying23 info25 rfl (by decide) (by omega) (.slice Ao20 x8_1.length co20) x8_1 l0_3 _ _ _ (fun _ => True) (fun _ => False) rfl rfl ?aO ?aR (fun _ _ h => h) (fun _ h => h.elim) ?aF ?aB ?aS ?aL ?_; (case aR => repeat (first | exact (Kd.C_below HR0_3.out HB.out) | (with_reducible refine Kd.C_alloc ?_ _) | (with_reducible refine Kd.C_drewN ?_ _) | (with_reducible refine Kd.C_drew ?_))); (case aB => exact (by repeat (first | (with_reducible first | exact HB.out | apply below_alloc | apply pw_below_drewN | apply below_drew1 | refine below_set ?_ GE588.out) | exact HB.out))); (case aF => exact (fun _ _ => trivial)); (case aO => exact (by (with_reducible repeat (first | apply Kd.R_alloc | apply Kd.R_drewN | apply Kd.R_drew)); exact HO_8.out)); (case aS => exact (below_size (by repeat (first | (with_reducible first | exact HB.out | apply below_alloc | apply pw_below_drewN | apply below_drew1 | refine below_set ?_ GE588.out) | exact HB.out)))); (case aL => have := LMc19.out; omega); intro v605 w22 ho hb hg hat; rw [← Ny604.out] at ho; have n0_ := Aside0.mk (blk_grown (g := gb588) (o := .cells #[.slice A0_0 l0_0.length c0_0, .int .i64 a0_1, .bool a0_2, .slice A0_3 l0_3.length c0_3, .slice A0_4 l0_4.length c0_4] 27 (0, 0)) (by (with_reducible repeat (first | refine blk_drewN ?_ _ | refine blk_drew ?_ | refine blk_alloc ?_ _)); exact BK588.out) hg (Kd.R_ne HO_8.out BK588.out (by decide))); have n1_ := Aside0.mk (hb); have n2_ := Aside0.mk (ho); clear BK588; clear HB; clear HO_8; have BK588 := n0_; have HB := n1_; have HO606 := n2_; clear n0_ n1_ n2_; clear ho hb hg hat))
   go_loopg [8] k1 (fun kq v8 w' => ∃ (x8_2 : List (S25)), Aside0 (spec_PsalmSing.l1 kq t593 t594 x8_2 l0_0 a0_1 a0_2 l0_3 l0_4 = some (r1, r2)) ∧ Aside0 (kq ≤ k1) ∧ Aside0 (Kd.R k25 25 w' w.heap.size (fun _ => True) v8 x8_2) ∧ Aside0 (w'.heap[gb588]? = some (.cells #[(.slice A0_0 l0_0.length c0_0), .int .i64 a0_1, .bool a0_2, (.slice A0_3 l0_3.length c0_3), (.slice A0_4 l0_4.length c0_4)] 27 (0, 0))) ∧ Aside0 (Below w.heap.size w w'))
   case atStart => exact ⟨(y604), H', ⟨Nat.le_refl _⟩, ⟨by (with_reducible repeat (first | apply Kd.R_alloc | apply Kd.R_drewN | apply Kd.R_drew)); exact HO606.out⟩, ⟨by (with_reducible repeat (first | refine blk_drewN ?_ _ | refine blk_drew ?_ | refine blk_alloc ?_ _)); exact BK588.out⟩, ⟨by repeat (first | (with_reducible first | exact HB.out | apply below_alloc | apply pw_below_drewN | apply below_drew1 | refine below_set ?_ GE588.out) | exact HB.out)⟩⟩
   case round =>
    clear H'
    try clear c1
    try clear p2
    try clear c3
    try clear c4
    try clear c5
    try clear c6
    try clear p6
    try clear c14
    try clear c14b0
    try clear c15
    try clear c17
    try clear c19
    try clear hcz12_0
    try clear hcz12_1
    try clear hcz12_2
    try clear hcz12_3
    try clear hcz12_4
    try clear hcz17_0
    try clear hcz17_1
    try clear hcz17_2
    try clear hcz17_3
    try clear hcz17_4
    try clear hcz21_0
    try clear hcz21_1
    try clear hcz21_2
    try clear hcz21_3
    try clear hcz21_4
    try clear hcz8_0
    try clear hcz8_1
    try clear hcz8_2
    try clear hcz8_3
    try clear hcz8_4
    try clear hfz12_0
    try clear hfz12_1
    try clear hfz12_2
    try clear hfz12_3
    try clear hfz12_4
    try clear hfz17_0
    try clear hfz17_1
    try clear hfz17_2
    try clear hfz17_3
    try clear hfz17_4
    try clear hfz21_0
    try clear hfz21_1
    try clear hfz21_2
    try clear hfz21_3
    try clear hfz21_4
    try clear hfz8_0
    try clear hfz8_1
    try clear hfz8_2
    try clear hfz8_3
    try clear hfz8_4
    try clear p2
    obtain ⟨x8_2, HA, HK2, HO_8, BK588, HB⟩ := hrel
    cases gk with
    | zero => exact absurd HA.out (by simp [spec_PsalmSing.l1])
    | succ k2 =>
     have H := HA.out
     clear HA
     simp only [spec_PsalmSing.l1] at H
     by_cases c23 : (x8_2.length : Int) < (wrap64 ((wrap64 ((t593.size : Int) + (t594.size : Int))) - (l0_4.length : Int)))
     rotate_left
     ·rw [if_neg c23] at H
      have c23b0 : decide ((x8_2.length : Int) < (wrap64 ((wrap64 ((t593.size : Int) + (t594.size : Int))) - (l0_4.length : Int)))) = false := decide_eq_false c23
      clear c23
      by_cases c28 : x8_2.length + l0_4.length < 8796093022208
      rotate_left
      ·rw [if_neg c28] at H
       exact absurd H (by simp)
      rw [if_pos c28] at H
      have LMc28 := Aside0.mk c28
      clear c28
      obtain ⟨y610, hy610⟩ : ∃ y_ : List (S25), y_ = (x8_2 ++ l0_4) := ⟨_, rfl⟩
      replace H : (some (y610, true)) = some (r1, r2) := by first | (rw [hy610]; with_reducible exact H) | (have H2_ := (Option.bind_some _ _).symm.trans H; rw [hy610]; with_reducible exact H2_) | (have H2_ := (Option.bind_some _ _).symm.trans H; with_reducible exact H2_) | with_reducible exact H | (rw [hy610]; exact H) | exact H
      have Ny610 := Aside0.mk hy610
      clear hy610
      simp only [Option.some.injEq, Prod.mk.injEq] at H
      obtain ⟨rfl, rfl⟩ := H
      obtain ⟨Ao29, co29, eo29⟩ := Kd.R_slice HO_8.out
      subst eo29
      have hcz30_0 : wr.cell? ⟨gb588, 0, none⟩ = some (.slice A0_0 l0_0.length c0_0) := (blk_cell BK588.out 0).trans rfl
      have hcz30_1 : wr.cell? ⟨gb588, 1, none⟩ = some (.int .i64 a0_1) := (blk_cell BK588.out 1).trans rfl
      have hcz30_2 : wr.cell? ⟨gb588, 2, none⟩ = some (.bool a0_2) := (blk_cell BK588.out 2).trans rfl
      have hcz30_3 : wr.cell? ⟨gb588, 3, none⟩ = some (.slice A0_3 l0_3.length c0_3) := (blk_cell BK588.out 3).trans rfl
      have hcz30_4 : wr.cell? ⟨gb588, 4, none⟩ = some (.slice A0_4 l0_4.length c0_4) := (blk_cell BK588.out 4).trans rfl
      have hfz30_0 := blk_frozen BK588.out 0
      have hfz30_1 := blk_frozen BK588.out 1
      have hfz30_2 := blk_frozen BK588.out 2
      have hfz30_3 := blk_frozen BK588.out 3
      have hfz30_4 := blk_frozen BK588.out 4
      go_wp2_with (first | ((with_reducible refine gate_builtin (b := .append) (xs := #[.tmp 58, .tmp 60]) rfl ?_); at_builtin; refine Kd.R_append_rows k25 (w0 := w) w.heap.size rfl (.tmp 58) (.tmp 60) 23 25 (.agg #[(.int .i64 0), (.bool false)]) 16 rfl Tryd.underlying23 info25 rfl (by decide) (by omega) (.slice Ao29 x8_2.length co29) x8_2 l0_4 _ _ _ (fun _ => True) (fun _ => False) rfl rfl ?aO ?aR (fun _ _ h => h) (fun _ h => h.elim) ?aF ?aB ?aS ?aL ?_; (case aR => repeat (first | exact (Kd.C_below HR0_4.out HB.out) | (with_reducible refine Kd.C_alloc ?_ _) | (with_reducible refine Kd.C_drewN ?_ _) | (with_reducible refine Kd.C_drew ?_))); (case aB => exact (by repeat (first | (with_reducible first | exact HB.out | apply below_alloc | apply pw_below_drewN | apply below_drew1 | refine below_set ?_ GE588.out) | exact HB.out))); (case aF => exact (fun _ _ => trivial)); (case aO => exact (by (with_reducible repeat (first | apply Kd.R_alloc | apply Kd.R_drewN | apply Kd.R_drew)); exact HO_8.out)); (case aS => exact (below_size (by repeat (first | (with_reducible first | exact HB.out | apply below_alloc | apply pw_below_drewN | apply below_drew1 | refine below_set ?_ GE588.out) | exact HB.out)))); (case aL => have := LMc28.out; omega); intro v611 w31 ho hb hg hat; rw [← Ny610.out] at ho; have n0_ := Aside0.mk (blk_grown (g := gb588) (o := .cells #[.slice A0_0 l0_0.length c0_0, .int .i64 a0_1, .bool a0_2, .slice A0_3 l0_3.length c0_3, .slice A0_4 l0_4.length c0_4] 27 (0, 0)) (by (with_reducible repeat (first | refine blk_drewN ?_ _ | refine blk_drew ?_ | refine blk_alloc ?_ _)); exact BK588.out) hg (Kd.R_ne HO_8.out BK588.out (by decide))); have n1_ := Aside0.mk (hb); have n2_ := Aside0.mk (ho); clear BK588; clear HB; clear HO_8; have BK588 := n0_; have HB := n1_; have HO612 := n2_; clear n0_ n1_ n2_; clear ho hb hg hat))
      go_ret2
      exact ⟨_, by first | rfl | (simp [errW_none, errW_some] <;> rfl) | (simp [*, errW_none, errW_some] <;> rfl), by (with_reducible repeat (first | apply Kd.R_alloc | apply Kd.R_drewN | apply Kd.R_drew)); exact HO612.out, by repeat (first | (with_reducible first | exact HB.out | apply below_alloc | apply pw_below_drewN | apply below_drew1 | refine below_set ?_ GE588.out) | exact HB.out)⟩
     rw [if_pos c23] at H
     have c23b0 : decide ((x8_2.length : Int) < (wrap64 ((wrap64 ((t593.size : Int) + (t594.size : Int))) - (l0_4.length : Int)))) = true := decide_eq_true c23
     clear c23
     by_cases c24 : x8_2.length < 8796093022208
     rotate_left
     ·rw [if_neg c24] at H
      exact absurd H (by simp)
     rw [if_pos c24] at H
     have LMc24 := Aside0.mk c24
     clear c24
     obtain ⟨y607, hy607⟩ : ∃ y_ : List (S25), y_ = (x8_2 ++ [(⟨a0_1, a0_2⟩ : S25)]) := ⟨_, rfl⟩
     replace H : (spec_PsalmSing.l1 k2 t593 t594 y607 l0_0 a0_1 a0_2 l0_3 l0_4) = some (r1, r2) := by first | (rw [hy607]; with_reducible exact H) | (have H2_ := (Option.bind_some _ _).symm.trans H; rw [hy607]; with_reducible exact H2_) | (have H2_ := (Option.bind_some _ _).symm.trans H; with_reducible exact H2_) | with_reducible exact H | (rw [hy607]; exact H) | exact H
     have Ny607 := Aside0.mk hy607
     clear hy607
     have H' := Aside0.mk H
     clear H
     obtain ⟨Ao25, co25, eo25⟩ := Kd.R_slice HO_8.out
     subst eo25
     have hcz26_0 : wr.cell? ⟨gb588, 0, none⟩ = some (.slice A0_0 l0_0.length c0_0) := (blk_cell BK588.out 0).trans rfl
     have hcz26_1 : wr.cell? ⟨gb588, 1, none⟩ = some (.int .i64 a0_1) := (blk_cell BK588.out 1).trans rfl
     have hcz26_2 : wr.cell? ⟨gb588, 2, none⟩ = some (.bool a0_2) := (blk_cell BK588.out 2).trans rfl
     have hcz26_3 : wr.cell? ⟨gb588, 3, none⟩ = some (.slice A0_3 l0_3.length c0_3) := (blk_cell BK588.out 3).trans rfl
     have hcz26_4 : wr.cell? ⟨gb588, 4, none⟩ = some (.slice A0_4 l0_4.length c0_4) := (blk_cell BK588.out 4).trans rfl
     have hfz26_0 := blk_frozen BK588.out 0
     have hfz26_1 := blk_frozen BK588.out 1
     have hfz26_2 := blk_frozen BK588.out 2
     have hfz26_3 := blk_frozen BK588.out 3
     have hfz26_4 := blk_frozen BK588.out 4
     go_wp2_with (first | ((with_reducible refine gate_builtin (b := .append) (xs := #[.tmp 53, .tmp 56]) rfl ?_); at_builtin; refine Kd.R_append k25 (w0 := w) w.heap.size rfl (.tmp 53) (.tmp 56) 23 25 (.agg #[(.int .i64 0), (.bool false)]) 16 rfl Tryd.underlying23 info25 rfl (by decide) (by omega) (.slice Ao25 x8_2.length co25) x8_2 (⟨a0_1, a0_2⟩ : S25) [.int .i64 a0_1, .bool a0_2] (fun _ => True) (fun _ => False) rfl rfl ?aP (fun _ hk => hk.elim) ?aF ?aO ?aB ?aS ?aL ?_; (case aP => exact k25_mkM _ _ _ (⟨a0_1, a0_2⟩ : S25)); (case aB => exact (by repeat (first | (with_reducible first | exact HB.out | apply below_alloc | apply pw_below_drewN | apply below_drew1 | refine below_set ?_ GE588.out) | exact HB.out))); (case aF => exact (fun _ _ => trivial)); (case aO => exact (by (with_reducible repeat (first | apply Kd.R_alloc | apply Kd.R_drewN | apply Kd.R_drew)); exact HO_8.out)); (case aS => exact (below_size (by repeat (first | (with_reducible first | exact HB.out | apply below_alloc | apply pw_below_drewN | apply below_drew1 | refine below_set ?_ GE588.out) | exact HB.out)))); (case aL => have := LMc24.out; omega); intro v608 w27 ho hb hg hat; rw [← Ny607.out] at ho; have n0_ := Aside0.mk (blk_grown (g := gb588) (o := .cells #[.slice A0_0 l0_0.length c0_0, .int .i64 a0_1, .bool a0_2, .slice A0_3 l0_3.length c0_3, .slice A0_4 l0_4.length c0_4] 27 (0, 0)) (by (with_reducible repeat (first | refine blk_drewN ?_ _ | refine blk_drew ?_ | refine blk_alloc ?_ _)); exact BK588.out) hg (Kd.R_ne HO_8.out BK588.out (by decide))); have n1_ := Aside0.mk (hb); have n2_ := Aside0.mk (ho); clear BK588; clear HB; clear HO_8; have BK588 := n0_; have HB := n1_; have HO609 := n2_; clear n0_ n1_ n2_; clear ho hb hg hat))
     go_roundg k2
     case measure => have := HK1.out; have := HK2.out; omega
     case rel => exact ⟨(y607), H', ⟨by have := HK1.out; have := HK2.out; omega⟩, ⟨by (with_reducible repeat (first | apply Kd.R_alloc | apply Kd.R_drewN | apply Kd.R_drew)); exact HO609.out⟩, ⟨by (with_reducible repeat (first | refine blk_drewN ?_ _ | refine blk_drew ?_ | refine blk_alloc ?_ _)); exact BK588.out⟩, ⟨by repeat (first | (with_reducible first | exact HB.out | apply below_alloc | apply pw_below_drewN | apply below_drew1 | refine below_set ?_ GE588.out) | exact HB.out)⟩⟩
end Go.Proofs.YtdgmkfbmeaalpaaDoor.E
end
section
namespace Go.Proofs.YtdgmkfbmeaalpaaDoor.E
open Go.RowKit Go.Proofs.YtdgmkfbmeaalpaaDoorW.PrintWords Go.Proofs.YtdgmkfbmeaalpaaDoorW.PrintLast Go.Proofs.YtdgmkfbmeaalpaaDoorW.PrintMore
attribute [local go_sem] max2_int min2_int max_two min_two max_three min_three max_four min_four
set_option linter.unusedVariables false
set_option linter.unusedSimpArgs false
attribute [local go_sem] str_leq_ str_gtr_ str_geq_
def spec_l4All.l0 : Nat → List (S27) → Int → Option (Bool)
 | 0, _, _ => none
 | k + 1, x0, x3 => if x3 < (x0.length : Int) then (if 0 ≤ x3 then ((spec_PsalmValid.f k ((rd_T27 x0 x3).f0) ((rd_T27 x0 x3).f1.f0) ((rd_T27 x0 x3).f1.f1) ((rd_T27 x0 x3).f2) ((rd_T27 x0 x3).f3)).bind fun t780 => (if t780 = true then (spec_l4All.l0 k x0 (wrap64 (x3 + 1))) else (some false))) else (none)) else (some true)
def spec_l4All.f (k : Nat) (l0 : List (S27)) : Option (Bool) := spec_l4All.l0 k l0 0
set_option maxHeartbeats 8000000 in
set_option maxRecDepth 100000 in
theorem spec_l4All.calls (k : Nat) (A0 : Option Addr) (c0 : Nat) (l0 : List (S27)) (r : Bool) (w : World) (hr0 : Kd.C k27 w A0 l0.length l0) (hc0 : l0.length ≤ c0) (h : spec_l4All.f k l0 = some r) :
  Calls Tryd.prog 72 #[.slice A0 l0.length c0] w fun e w' => e = .returned (.bool r) ∧ Below w.heap.size w w' := by
 have hu27 := Tryd.underlying27
 have HR0 := Aside0.mk hr0
 have HC0 := Aside0.mk hc0
 clear hr0 hc0
 have HB := Aside0.mk (Below.refl w.heap.size w)
 have H : (spec_l4All.l0 k l0 0) = some r := h
 clear h
 have H' := Aside0.mk H
 clear H
 go_enter Tryd.func72, Tryd.ntmps72
 go_wp2
 go_loopg [3] k (fun kq v3 w' => ∃ (x3_1 : Int), v3 = .int .i64 x3_1 ∧ Aside0 (spec_l4All.l0 kq l0 x3_1 = some r) ∧ Aside0 (kq ≤ k) ∧ Aside0 (Below w.heap.size w w'))
 case atStart => exact ⟨(0), (by first | rfl | (simp; done) | (simp [*]; done)), H', ⟨Nat.le_refl _⟩, ⟨by repeat (first | (with_reducible first | exact HB.out | apply below_alloc | apply pw_below_drewN | apply below_drew1) | exact HB.out)⟩⟩
 case round =>
  clear H'
  obtain ⟨x3_1, rfl, HA, HK1, HB⟩ := hrel
  cases gk with
  | zero => exact absurd HA.out (by simp [spec_l4All.l0])
  | succ k1 =>
   have H := HA.out
   clear HA
   simp only [spec_l4All.l0] at H
   by_cases c2 : x3_1 < (l0.length : Int)
   rotate_left
   ·rw [if_neg c2] at H
    have c2b0 : decide (x3_1 < (l0.length : Int)) = false := decide_eq_false c2
    clear c2
    obtain rfl := Option.some.inj H
    go_wp2
    go_ret
    exact ⟨by first | rfl | (simp [errW_none, errW_some] <;> rfl) | (simp [*, errW_none, errW_some] <;> rfl), by repeat (first | (with_reducible first | exact HB.out | apply below_alloc | apply pw_below_drewN | apply below_drew1) | exact HB.out)⟩
   rw [if_pos c2] at H
   have c2b0 : decide (x3_1 < (l0.length : Int)) = true := decide_eq_true c2
   clear c2
   by_cases c3 : 0 ≤ x3_1
   rotate_left
   ·rw [if_neg c3] at H
    exact absurd H (by simp)
   rw [if_pos c3] at H
   have c3b0 : decide (0 ≤ x3_1) = true := decide_eq_true c3
   clear c3
   replace H := Option.bind_eq_some_iff.mp H
   obtain ⟨t780, A40, H⟩ := H
   replace H : (if t780 = true then (spec_l4All.l0 k1 l0 (wrap64 (x3_1 + 1))) else (some false)) = some r := H
   have A4 := Aside0.mk A40
   clear A40
   by_cases c5 : t780 = true
   rotate_left
   ·replace c5 := Bool.eq_false_iff.mpr c5
    subst c5
    have H1 : (some false) = some r := by rw [if_neg (show ¬ (false = true) by decide)] at H; exact H
    clear H
    have H := H1
    clear H1
    obtain rfl := Option.some.inj H
    have p779 : 0 ≤ (x3_1 : Int) := of_decide_eq_true (by first | (with_reducible assumption) | assumption)
    have q779 : x3_1 < (l0.length : Int) := of_decide_eq_true (by first | (with_reducible assumption) | assumption)
    obtain ⟨ad779, A779_0, c779_0, A779_3, c779_3, A779_4, c779_4, e779, hx779_0, hx779_1, hx779_2, hx779_3, hx779_4, hl779_0, hi779_0, hl779_3, hi779_3, hl779_4, hi779_4⟩ := at_T27 HR0.out x3_1 p779 q779
    cases e779
    replace hx779_0 := (HB.out.cell (World.block_lt_of_cell? w _ hx779_0)).trans hx779_0
    replace hx779_1 := (HB.out.cell (World.block_lt_of_cell? w _ hx779_1)).trans hx779_1
    replace hx779_2 := (HB.out.cell (World.block_lt_of_cell? w _ hx779_2)).trans hx779_2
    replace hx779_3 := (HB.out.cell (World.block_lt_of_cell? w _ hx779_3)).trans hx779_3
    replace hx779_4 := (HB.out.cell (World.block_lt_of_cell? w _ hx779_4)).trans hx779_4
    have HR779_0 := Aside0.mk hi779_0
    have HC779_0 := Aside0.mk hl779_0
    clear hi779_0 hl779_0
    have HR779_3 := Aside0.mk hi779_3
    have HC779_3 := Aside0.mk hl779_3
    clear hi779_3 hl779_3
    have HR779_4 := Aside0.mk hi779_4
    have HC779_4 := Aside0.mk hl779_4
    clear hi779_4 hl779_4
    replace p779 := eq_true p779
    replace q779 := eq_true q779
    go_wp2_with (first | ((with_reducible refine gate_callee (f := 60) rfl ?_); refine goesL_ (some 14) rfl rfl Tryd.func60 (by kernel_rfl) rfl #[.agg #[.slice A779_0 ((rd_T27 l0 x3_1).f0).length c779_0, .int .i64 ((rd_T27 l0 x3_1).f1.f0), .bool ((rd_T27 l0 x3_1).f1.f1), .slice A779_3 ((rd_T27 l0 x3_1).f2).length c779_3, .slice A779_4 ((rd_T27 l0 x3_1).f3).length c779_4]] rfl (by (try simp only [List.map_toArray, List.map_cons, List.map_nil]); first | done | rfl | (simp only [List.length_drop, List.length_take]; rfl)) ?_; (with_reducible refine (spec_PsalmValid.calls k1 _ _ ((rd_T27 l0 x3_1).f0) ((rd_T27 l0 x3_1).f1.f0) ((rd_T27 l0 x3_1).f1.f1) _ _ ((rd_T27 l0 x3_1).f2) _ _ ((rd_T27 l0 x3_1).f3) false _ ?side1 ?side2 ?side3 ?side4 ?side5 ?side6 A4.out).mono ?_); (case side1 => repeat (first | exact (Kd.C_below HR779_0.out HB.out) | (with_reducible refine Kd.C_alloc ?_ _) | (with_reducible refine Kd.C_drewN ?_ _) | (with_reducible refine Kd.C_drew ?_))); (case side2 => exact HC779_0.out); (case side3 => repeat (first | exact (Kd.C_below HR779_3.out HB.out) | (with_reducible refine Kd.C_alloc ?_ _) | (with_reducible refine Kd.C_drewN ?_ _) | (with_reducible refine Kd.C_drew ?_))); (case side4 => exact HC779_3.out); (case side5 => repeat (first | exact (Kd.C_below HR779_4.out HB.out) | (with_reducible refine Kd.C_alloc ?_ _) | (with_reducible refine Kd.C_drewN ?_ _) | (with_reducible refine Kd.C_drew ?_))); (case side6 => exact HC779_4.out); rintro e w7 ⟨rfl, hb⟩; refine ⟨_, rfl, ?_⟩; have n0_ := Aside0.mk (below_step (by repeat (first | (with_reducible first | exact HB.out | apply below_alloc | apply pw_below_drewN | apply below_drew1) | exact HB.out)) hb); clear HB; have HB := n0_; clear n0_; (try clear hb); (try clear hb2); (try clear hk); (try clear hi)))
    go_ret
    exact ⟨by first | rfl | (simp [errW_none, errW_some] <;> rfl) | (simp [*, errW_none, errW_some] <;> rfl), by repeat (first | (with_reducible first | exact HB.out | apply below_alloc | apply pw_below_drewN | apply below_drew1) | exact HB.out)⟩
   subst c5
   have H1 : (spec_l4All.l0 k1 l0 (wrap64 (x3_1 + 1))) = some r := by rw [if_pos rfl] at H; exact H
   clear H
   have H := H1
   clear H1
   have H' := Aside0.mk H
   clear H
   have p779 : 0 ≤ (x3_1 : Int) := of_decide_eq_true (by first | (with_reducible assumption) | assumption)
   have q779 : x3_1 < (l0.length : Int) := of_decide_eq_true (by first | (with_reducible assumption) | assumption)
   obtain ⟨ad779, A779_0, c779_0, A779_3, c779_3, A779_4, c779_4, e779, hx779_0, hx779_1, hx779_2, hx779_3, hx779_4, hl779_0, hi779_0, hl779_3, hi779_3, hl779_4, hi779_4⟩ := at_T27 HR0.out x3_1 p779 q779
   cases e779
   replace hx779_0 := (HB.out.cell (World.block_lt_of_cell? w _ hx779_0)).trans hx779_0
   replace hx779_1 := (HB.out.cell (World.block_lt_of_cell? w _ hx779_1)).trans hx779_1
   replace hx779_2 := (HB.out.cell (World.block_lt_of_cell? w _ hx779_2)).trans hx779_2
   replace hx779_3 := (HB.out.cell (World.block_lt_of_cell? w _ hx779_3)).trans hx779_3
   replace hx779_4 := (HB.out.cell (World.block_lt_of_cell? w _ hx779_4)).trans hx779_4
   have HR779_0 := Aside0.mk hi779_0
   have HC779_0 := Aside0.mk hl779_0
   clear hi779_0 hl779_0
   have HR779_3 := Aside0.mk hi779_3
   have HC779_3 := Aside0.mk hl779_3
   clear hi779_3 hl779_3
   have HR779_4 := Aside0.mk hi779_4
   have HC779_4 := Aside0.mk hl779_4
   clear hi779_4 hl779_4
   replace p779 := eq_true p779
   replace q779 := eq_true q779
   go_wp2_with (first | ((with_reducible refine gate_callee (f := 60) rfl ?_); refine goesL_ (some 14) rfl rfl Tryd.func60 (by kernel_rfl) rfl #[.agg #[.slice A779_0 ((rd_T27 l0 x3_1).f0).length c779_0, .int .i64 ((rd_T27 l0 x3_1).f1.f0), .bool ((rd_T27 l0 x3_1).f1.f1), .slice A779_3 ((rd_T27 l0 x3_1).f2).length c779_3, .slice A779_4 ((rd_T27 l0 x3_1).f3).length c779_4]] rfl (by (try simp only [List.map_toArray, List.map_cons, List.map_nil]); first | done | rfl | (simp only [List.length_drop, List.length_take]; rfl)) ?_; (with_reducible refine (spec_PsalmValid.calls k1 _ _ ((rd_T27 l0 x3_1).f0) ((rd_T27 l0 x3_1).f1.f0) ((rd_T27 l0 x3_1).f1.f1) _ _ ((rd_T27 l0 x3_1).f2) _ _ ((rd_T27 l0 x3_1).f3) true _ ?side1 ?side2 ?side3 ?side4 ?side5 ?side6 A4.out).mono ?_); (case side1 => repeat (first | exact (Kd.C_below HR779_0.out HB.out) | (with_reducible refine Kd.C_alloc ?_ _) | (with_reducible refine Kd.C_drewN ?_ _) | (with_reducible refine Kd.C_drew ?_))); (case side2 => exact HC779_0.out); (case side3 => repeat (first | exact (Kd.C_below HR779_3.out HB.out) | (with_reducible refine Kd.C_alloc ?_ _) | (with_reducible refine Kd.C_drewN ?_ _) | (with_reducible refine Kd.C_drew ?_))); (case side4 => exact HC779_3.out); (case side5 => repeat (first | exact (Kd.C_below HR779_4.out HB.out) | (with_reducible refine Kd.C_alloc ?_ _) | (with_reducible refine Kd.C_drewN ?_ _) | (with_reducible refine Kd.C_drew ?_))); (case side6 => exact HC779_4.out); rintro e w6 ⟨rfl, hb⟩; refine ⟨_, rfl, ?_⟩; have n0_ := Aside0.mk (below_step (by repeat (first | (with_reducible first | exact HB.out | apply below_alloc | apply pw_below_drewN | apply below_drew1) | exact HB.out)) hb); clear HB; have HB := n0_; clear n0_; (try clear hb); (try clear hb2); (try clear hk); (try clear hi)))
   go_roundg k1
   case measure => have := HK1.out; omega
   case rel => exact ⟨(wrap64 (x3_1 + 1)), (by first | rfl | (simp; done) | (simp [*]; done)), H', ⟨by have := HK1.out; omega⟩, ⟨by repeat (first | (with_reducible first | exact HB.out | apply below_alloc | apply pw_below_drewN | apply below_drew1) | exact HB.out)⟩⟩
end Go.Proofs.YtdgmkfbmeaalpaaDoor.E
end
section
namespace Go.Proofs.YtdgmkfbmeaalpaaDoor.E
open Go.RowKit Go.Proofs.YtdgmkfbmeaalpaaDoorW.PrintWords Go.Proofs.YtdgmkfbmeaalpaaDoorW.PrintLast Go.Proofs.YtdgmkfbmeaalpaaDoorW.PrintMore
attribute [local go_sem] max2_int min2_int max_two min_two max_three min_three max_four min_four
set_option linter.unusedVariables false
set_option linter.unusedSimpArgs false
attribute [local go_sem high] eqA25
attribute [local go_sem] str_leq_ str_gtr_ str_geq_
def spec_l4Equal.l0 : Nat → List (S25) → List (S25) → Int → Option (Bool)
 | 0, _, _, _ => none
 | k + 1, x0, x1, x5 => if x5 < (x0.length : Int) then (if 0 ≤ x5 then (if x5 < (x1.length : Int) then (if (!(((rd_T25 x0 x5).f0) == ((rd_T25 x1 x5).f0)) || (!(((rd_T25 x0 x5).f1) == ((rd_T25 x1 x5).f1)))) = true then (some false) else (spec_l4Equal.l0 k x0 x1 (wrap64 (x5 + 1)))) else (none)) else (none)) else (some true)
def spec_l4Equal.f (k : Nat) (l0 : List (S25)) (l1 : List (S25)) : Option (Bool) := if (l0.length : Int) = (l1.length : Int) then (spec_l4Equal.l0 k l0 l1 0) else (some false)
set_option maxHeartbeats 8000000 in
set_option maxRecDepth 100000 in
theorem spec_l4Equal.calls (k : Nat) (A0 : Option Addr) (c0 : Nat) (l0 : List (S25)) (A1 : Option Addr) (c1 : Nat) (l1 : List (S25)) (r : Bool) (w : World) (hr0 : Kd.C k25 w A0 l0.length l0) (hc0 : l0.length ≤ c0) (hr1 : Kd.C k25 w A1 l1.length l1) (hc1 : l1.length ≤ c1) (h : spec_l4Equal.f k l0 l1 = some r) :
  Calls Tryd.prog 78 #[.slice A0 l0.length c0, .slice A1 l1.length c1] w fun e w' => e = .returned (.bool r) ∧ Drawn0 w w' := by
 have hu25 := Tryd.underlying25
 have HR0 := Aside0.mk hr0
 have HC0 := Aside0.mk hc0
 clear hr0 hc0
 have HR1 := Aside0.mk hr1
 have HC1 := Aside0.mk hc1
 clear hr1 hc1
 have H : (if (l0.length : Int) = (l1.length : Int) then (spec_l4Equal.l0 k l0 l1 0) else (some false)) = some r := h
 clear h
 by_cases c3 : (l0.length : Int) = (l1.length : Int)
 rotate_left
 ·rw [if_neg c3] at H
  have c3b0 : ((l0.length : Int) == (l1.length : Int)) = false := beq_eq_false_iff_ne.mpr c3
  have c3b1 : ((l0.length : Int) != (l1.length : Int)) = true := bne_iff_ne.mpr c3
  have c3b2 : (l0.length == l1.length) = false := by first | simpa using c3 | (simp at c3 ⊢; omega)
  obtain rfl := Option.some.inj H
  go_enter Tryd.func78, Tryd.ntmps78
  go_wp2
  repeat (go_quiet (fail); try go_wp2)
  go_ret
  exact ⟨by first | rfl | (simp; done) | (simp [*]; done), by repeat (first | exact Drawn0.refl _ | apply Drawn0.step)⟩
 rw [if_pos c3] at H
 have c3b0 : ((l0.length : Int) == (l1.length : Int)) = true := beq_iff_eq.mpr c3
 have c3b1 : ((l0.length : Int) != (l1.length : Int)) = false := bne_eq_false_iff_eq.mpr c3
 have c3b2 : (l0.length == l1.length) = true := by first | simpa using c3 | (simp at c3 ⊢; omega)
 clear c3
 have H' := Aside0.mk H
 clear H
 go_enter Tryd.func78, Tryd.ntmps78
 go_wp2
 repeat (go_quiet (fail); try go_wp2)
 go_loopg [5] k (fun kq v5 w' => ∃ (x5_1 : Int), v5 = .int .i64 x5_1 ∧ Aside0 (spec_l4Equal.l0 kq l0 l1 x5_1 = some r) ∧ Aside0 (kq ≤ k) ∧ Drawn0 w w')
 case atStart => exact ⟨(0), (by first | rfl | (simp; done) | (simp [*]; done)), H', ⟨Nat.le_refl _⟩, by repeat (first | exact Drawn0.refl _ | apply Drawn0.step)⟩
 case round =>
  clear H'
  try clear c1
  try clear p2
  try clear c3
  try clear c3b0
  try clear c3b1
  try clear c3b2
  obtain ⟨x5_1, rfl, HA, HK1, ⟨m1, rfl⟩⟩ := hrel
  cases gk with
  | zero => exact absurd HA.out (by simp [spec_l4Equal.l0])
  | succ k1 =>
   have H := HA.out
   clear HA
   simp only [spec_l4Equal.l0] at H
   by_cases c4 : x5_1 < (l0.length : Int)
   rotate_left
   ·rw [if_neg c4] at H
    have c4b0 : decide (x5_1 < (l0.length : Int)) = false := decide_eq_false c4
    clear c4
    obtain rfl := Option.some.inj H
    go_wp2
    repeat (go_quiet (fail); try go_wp2)
    go_ret
    exact ⟨by first | rfl | (simp; done) | (simp [*]; done), by repeat (first | exact Drawn0.refl _ | apply Drawn0.step)⟩
   rw [if_pos c4] at H
   have c4b0 : decide (x5_1 < (l0.length : Int)) = true := decide_eq_true c4
   clear c4
   by_cases c5 : 0 ≤ x5_1
   rotate_left
   ·rw [if_neg c5] at H
    exact absurd H (by simp)
   rw [if_pos c5] at H
   have c5b0 : decide (0 ≤ x5_1) = true := decide_eq_true c5
   clear c5
   by_cases c6 : x5_1 < (l1.length : Int)
   rotate_left
   ·rw [if_neg c6] at H
    exact absurd H (by simp)
   rw [if_pos c6] at H
   have c6b0 : decide (x5_1 < (l1.length : Int)) = true := decide_eq_true c6
   clear c6
   by_cases c7 : (!(((rd_T25 l0 x5_1).f0) == ((rd_T25 l1 x5_1).f0)) || (!(((rd_T25 l0 x5_1).f1) == ((rd_T25 l1 x5_1).f1)))) = true
   ·rw [if_pos c7] at H
    have c7b0 : (!(((rd_T25 l0 x5_1).f0) == ((rd_T25 l1 x5_1).f0)) || (!(((rd_T25 l0 x5_1).f1) == ((rd_T25 l1 x5_1).f1)))) = true := c7
    clear c7
    obtain rfl := Option.some.inj H
    have p868 : 0 ≤ (x5_1 : Int) := of_decide_eq_true (by first | (with_reducible assumption) | assumption)
    have q868 : x5_1 < (l0.length : Int) := of_decide_eq_true (by first | (with_reducible assumption) | assumption)
    obtain ⟨ad868, e868, hx868_0, hx868_1⟩ := at_T25 HR0.out x5_1 p868 q868
    cases e868
    replace p868 := eq_true p868
    replace q868 := eq_true q868
    have p869 : 0 ≤ (x5_1 : Int) := of_decide_eq_true (by first | (with_reducible assumption) | assumption)
    have q869 : x5_1 < (l1.length : Int) := of_decide_eq_true (by first | (with_reducible assumption) | assumption)
    obtain ⟨ad869, e869, hx869_0, hx869_1⟩ := at_T25 HR1.out x5_1 p869 q869
    cases e869
    replace p869 := eq_true p869
    replace q869 := eq_true q869
    go_wp2
    repeat (go_quiet (fail); try go_wp2)
    go_ret
    exact ⟨by first | rfl | (simp; done) | (simp [*]; done), by repeat (first | exact Drawn0.refl _ | apply Drawn0.step)⟩
   rw [if_neg c7] at H
   have c7b0 : (!(((rd_T25 l0 x5_1).f0) == ((rd_T25 l1 x5_1).f0)) || (!(((rd_T25 l0 x5_1).f1) == ((rd_T25 l1 x5_1).f1)))) = false := by simpa using c7
   clear c7
   have H' := Aside0.mk H
   clear H
   have p868 : 0 ≤ (x5_1 : Int) := of_decide_eq_true (by first | (with_reducible assumption) | assumption)
   have q868 : x5_1 < (l0.length : Int) := of_decide_eq_true (by first | (with_reducible assumption) | assumption)
   obtain ⟨ad868, e868, hx868_0, hx868_1⟩ := at_T25 HR0.out x5_1 p868 q868
   cases e868
   replace p868 := eq_true p868
   replace q868 := eq_true q868
   have p869 : 0 ≤ (x5_1 : Int) := of_decide_eq_true (by first | (with_reducible assumption) | assumption)
   have q869 : x5_1 < (l1.length : Int) := of_decide_eq_true (by first | (with_reducible assumption) | assumption)
   obtain ⟨ad869, e869, hx869_0, hx869_1⟩ := at_T25 HR1.out x5_1 p869 q869
   cases e869
   replace p869 := eq_true p869
   replace q869 := eq_true q869
   go_wp2
   repeat (go_quiet (fail); try go_wp2)
   go_roundg k1
   case measure => have := HK1.out; omega
   case rel => exact ⟨(wrap64 (x5_1 + 1)), (by first | rfl | (simp; done) | (simp [*]; done)), H', ⟨by have := HK1.out; omega⟩, by repeat (first | exact Drawn0.refl _ | apply Drawn0.step)⟩
end Go.Proofs.YtdgmkfbmeaalpaaDoor.E
end
section
namespace Go.Proofs.YtdgmkfbmeaalpaaDoor.E
open Go.RowKit Go.Proofs.YtdgmkfbmeaalpaaDoorW.PrintWords Go.Proofs.YtdgmkfbmeaalpaaDoorW.PrintLast Go.Proofs.YtdgmkfbmeaalpaaDoorW.PrintMore
attribute [local go_sem] max2_int min2_int max_two min_two max_three min_three max_four min_four
set_option linter.unusedVariables false
set_option linter.unusedSimpArgs false
attribute [local go_sem] str_leq_ str_gtr_ str_geq_
mutual
def spec_PsalmRead.j0 : Nat → List (S27) → ByteArray → List (S25) → Bool → Option (Int)
 | 0, _, _, _, _ => none
 | k + 1, x0, x1, x2, x23 => if x23 = true then (some (-1)) else (spec_PsalmRead.l0 k x0 x1 x2 0 0)
def spec_PsalmRead.l0 : Nat → List (S27) → ByteArray → List (S25) → Int → Int → Option (Int)
 | 0, _, _, _, _, _ => none
 | k + 1, x0, x1, x2, x7, x8 => if x8 < (x0.length : Int) then (if 0 ≤ x8 then ((spec_PsalmSing.f k ((rd_T27 x0 x8).f0) ((rd_T27 x0 x8).f1.f0) ((rd_T27 x0 x8).f1.f1) ((rd_T27 x0 x8).f2) ((rd_T27 x0 x8).f3) x1).bind fun bt874 => (if bt874.2 = true then ((spec_l4Equal.f k bt874.1 x2).bind fun t878 => (if t878 = true then (spec_PsalmRead.l0 k x0 x1 x2 (wrap64 (x7 + 1)) (wrap64 (x8 + 1))) else (spec_PsalmRead.l0 k x0 x1 x2 x7 (wrap64 (x8 + 1))))) else (spec_PsalmRead.l0 k x0 x1 x2 x7 (wrap64 (x8 + 1))))) else (none)) else (some x7)
end
def spec_PsalmRead.f (k : Nat) (l0 : List (S27)) (a1 : ByteArray) (l2 : List (S25)) : Option (Int) := (spec_l4All.f k l0).bind fun t870 => (if t870 = true then ((spec_VerseValid.f k a1).bind fun t871 => (if t871 = true then ((spec_MelodyValid.f k l2).bind fun t872 => (spec_PsalmRead.j0 k l0 a1 l2 (!t872))) else (spec_PsalmRead.j0 k l0 a1 l2 true))) else (spec_PsalmRead.j0 k l0 a1 l2 true))
set_option maxHeartbeats 8000000 in
set_option maxRecDepth 100000 in
theorem spec_PsalmRead.calls (k : Nat) (A0 : Option Addr) (c0 : Nat) (l0 : List (S27)) (a1 : ByteArray) (A2 : Option Addr) (c2 : Nat) (l2 : List (S25)) (r : Int) (w : World) (hr0 : Kd.C k27 w A0 l0.length l0) (hc0 : l0.length ≤ c0) (hr2 : Kd.C k25 w A2 l2.length l2) (hc2 : l2.length ≤ c2) (h : spec_PsalmRead.f k l0 a1 l2 = some r) :
  Calls Tryd.prog 45 #[.slice A0 l0.length c0, .string a1, .slice A2 l2.length c2] w fun e w' => e = .returned (.int .i64 r) ∧ Below w.heap.size w w' := by
 have hu27 := Tryd.underlying27
 have HR0 := Aside0.mk hr0
 have HC0 := Aside0.mk hc0
 clear hr0 hc0
 have HR2 := Aside0.mk hr2
 have HC2 := Aside0.mk hc2
 clear hr2 hc2
 have HB := Aside0.mk (Below.refl w.heap.size w)
 have H : ((spec_l4All.f k l0).bind fun t870 => (if t870 = true then ((spec_VerseValid.f k a1).bind fun t871 => (if t871 = true then ((spec_MelodyValid.f k l2).bind fun t872 => (spec_PsalmRead.j0 k l0 a1 l2 (!t872))) else (spec_PsalmRead.j0 k l0 a1 l2 true))) else (spec_PsalmRead.j0 k l0 a1 l2 true))) = some r := h
 clear h
 have HC4 := Aside0.mk H
 clear H
 go_enter Tryd.func45, Tryd.ntmps45
 go_upto_region 1 with (fail)
 go_cut [23] (fun v23 wc => ∃ (kq : Nat) (x23_3 : Bool), v23 = .bool x23_3 ∧ Aside0 (spec_PsalmRead.j0 kq l0 a1 l2 x23_3 = some r) ∧ Aside0 (kq ≤ k) ∧ Aside0 (Below w.heap.size w wc))
 case first =>
  have H := HC4.out
  clear HC4
  replace H := Option.bind_eq_some_iff.mp H
  obtain ⟨t870, A50, H⟩ := H
  replace H : (if t870 = true then ((spec_VerseValid.f k a1).bind fun t871 => (if t871 = true then ((spec_MelodyValid.f k l2).bind fun t872 => (spec_PsalmRead.j0 k l0 a1 l2 (!t872))) else (spec_PsalmRead.j0 k l0 a1 l2 true))) else (spec_PsalmRead.j0 k l0 a1 l2 true)) = some r := H
  have A5 := Aside0.mk A50
  clear A50
  by_cases c6 : t870 = true
  rotate_left
  ·replace c6 := Bool.eq_false_iff.mpr c6
   subst c6
   have H1 : (spec_PsalmRead.j0 k l0 a1 l2 true) = some r := by rw [if_neg (show ¬ (false = true) by decide)] at H; exact H
   clear H
   have H := H1
   clear H1
   have H' := Aside0.mk H
   clear H
   go_wp2_with (first | ((with_reducible refine gate_callee (f := 72) rfl ?_); refine goesL_ (some 12) rfl rfl Tryd.func72 (by kernel_rfl) rfl #[.slice A0 l0.length c0] rfl (by (try simp only [List.map_toArray, List.map_cons, List.map_nil]); first | done | rfl | (simp only [List.length_drop, List.length_take]; rfl)) ?_; (with_reducible refine (spec_l4All.calls k _ _ l0 false _ ?side1 ?side2 A5.out).mono ?_); (case side1 => repeat (first | exact (Kd.C_below HR0.out HB.out) | (with_reducible refine Kd.C_alloc ?_ _) | (with_reducible refine Kd.C_drewN ?_ _) | (with_reducible refine Kd.C_drew ?_))); (case side2 => exact HC0.out); rintro e w13 ⟨rfl, hb⟩; refine ⟨_, rfl, ?_⟩; have n0_ := Aside0.mk (below_step (by repeat (first | (with_reducible first | exact HB.out | apply below_alloc | apply pw_below_drewN | apply below_drew1) | exact HB.out)) hb); clear HB; have HB := n0_; clear n0_; (try clear hb); (try clear hb2); (try clear hk); (try clear hi)))
   go_meet
   case rel => exact ⟨_, (true), (by first | rfl | (simp; done) | (simp [*]; done)), H', ⟨by first | omega | exact Nat.le_refl _⟩, ⟨by repeat (first | (with_reducible first | exact HB.out | apply below_alloc | apply pw_below_drewN | apply below_drew1) | exact HB.out)⟩⟩
  subst c6
  have H1 : ((spec_VerseValid.f k a1).bind fun t871 => (if t871 = true then ((spec_MelodyValid.f k l2).bind fun t872 => (spec_PsalmRead.j0 k l0 a1 l2 (!t872))) else (spec_PsalmRead.j0 k l0 a1 l2 true))) = some r := by rw [if_pos rfl] at H; exact H
  clear H
  have H := H1
  clear H1
  replace H := Option.bind_eq_some_iff.mp H
  obtain ⟨t871, A70, H⟩ := H
  replace H : (if t871 = true then ((spec_MelodyValid.f k l2).bind fun t872 => (spec_PsalmRead.j0 k l0 a1 l2 (!t872))) else (spec_PsalmRead.j0 k l0 a1 l2 true)) = some r := H
  have A7 := Aside0.mk A70
  clear A70
  by_cases c8 : t871 = true
  rotate_left
  ·replace c8 := Bool.eq_false_iff.mpr c8
   subst c8
   have H1 : (spec_PsalmRead.j0 k l0 a1 l2 true) = some r := by rw [if_neg (show ¬ (false = true) by decide)] at H; exact H
   clear H
   have H := H1
   clear H1
   have H' := Aside0.mk H
   clear H
   go_wp2_with (first | ((with_reducible refine gate_callee (f := 72) rfl ?_); refine goesL_ (some 12) rfl rfl Tryd.func72 (by kernel_rfl) rfl #[.slice A0 l0.length c0] rfl (by (try simp only [List.map_toArray, List.map_cons, List.map_nil]); first | done | rfl | (simp only [List.length_drop, List.length_take]; rfl)) ?_; (with_reducible refine (spec_l4All.calls k _ _ l0 true _ ?side1 ?side2 A5.out).mono ?_); (case side1 => repeat (first | exact (Kd.C_below HR0.out HB.out) | (with_reducible refine Kd.C_alloc ?_ _) | (with_reducible refine Kd.C_drewN ?_ _) | (with_reducible refine Kd.C_drew ?_))); (case side2 => exact HC0.out); rintro e w12 ⟨rfl, hb⟩; refine ⟨_, rfl, ?_⟩; have n0_ := Aside0.mk (below_step (by repeat (first | (with_reducible first | exact HB.out | apply below_alloc | apply pw_below_drewN | apply below_drew1) | exact HB.out)) hb); clear HB; have HB := n0_; clear n0_; (try clear hb); (try clear hb2); (try clear hk); (try clear hi)) | (go_at_call 61; (with_reducible refine (spec_VerseValid.calls k a1 false _ A7.out).mono ?_); rintro e w' ⟨rfl, ⟨nd, rfl⟩⟩))
   go_meet
   case rel => exact ⟨_, (true), (by first | rfl | (simp; done) | (simp [*]; done)), H', ⟨by first | omega | exact Nat.le_refl _⟩, ⟨by repeat (first | (with_reducible first | exact HB.out | apply below_alloc | apply pw_below_drewN | apply below_drew1) | exact HB.out)⟩⟩
  subst c8
  have H1 : ((spec_MelodyValid.f k l2).bind fun t872 => (spec_PsalmRead.j0 k l0 a1 l2 (!t872))) = some r := by rw [if_pos rfl] at H; exact H
  clear H
  have H := H1
  clear H1
  replace H := Option.bind_eq_some_iff.mp H
  obtain ⟨t872, A90, H⟩ := H
  replace H : (spec_PsalmRead.j0 k l0 a1 l2 (!t872)) = some r := H
  have A9 := Aside0.mk A90
  clear A90
  have H' := Aside0.mk H
  clear H
  go_wp2_with (first | ((with_reducible refine gate_callee (f := 72) rfl ?_); refine goesL_ (some 12) rfl rfl Tryd.func72 (by kernel_rfl) rfl #[.slice A0 l0.length c0] rfl (by (try simp only [List.map_toArray, List.map_cons, List.map_nil]); first | done | rfl | (simp only [List.length_drop, List.length_take]; rfl)) ?_; (with_reducible refine (spec_l4All.calls k _ _ l0 true _ ?side1 ?side2 A5.out).mono ?_); (case side1 => repeat (first | exact (Kd.C_below HR0.out HB.out) | (with_reducible refine Kd.C_alloc ?_ _) | (with_reducible refine Kd.C_drewN ?_ _) | (with_reducible refine Kd.C_drew ?_))); (case side2 => exact HC0.out); rintro e w10 ⟨rfl, hb⟩; refine ⟨_, rfl, ?_⟩; have n0_ := Aside0.mk (below_step (by repeat (first | (with_reducible first | exact HB.out | apply below_alloc | apply pw_below_drewN | apply below_drew1) | exact HB.out)) hb); clear HB; have HB := n0_; clear n0_; (try clear hb); (try clear hb2); (try clear hk); (try clear hi)) | (go_at_call 61; (with_reducible refine (spec_VerseValid.calls k a1 true _ A7.out).mono ?_); rintro e w' ⟨rfl, ⟨nd, rfl⟩⟩) | (go_at_call 77; (with_reducible refine (spec_MelodyValid.calls k _ _ l2 t872 _ ?side1 ?side2 A9.out).mono ?_); (case side1 => repeat (first | exact (Kd.C_below HR2.out (by repeat (first | (with_reducible first | exact HB.out | apply below_alloc | apply pw_below_drewN | apply below_drew1) | exact HB.out))) | (with_reducible refine Kd.C_alloc ?_ _) | (with_reducible refine Kd.C_drewN ?_ _) | (with_reducible refine Kd.C_drew ?_))); (case side2 => exact HC2.out); rintro e w11 ⟨rfl, hb⟩; have n0_ := Aside0.mk (below_step (by repeat (first | (with_reducible first | exact HB.out | apply below_alloc | apply pw_below_drewN | apply below_drew1) | exact HB.out)) hb); clear HB; have HB := n0_; clear n0_; (try clear hb); (try clear hb2); (try clear hk); (try clear hi)))
  go_meet
  case rel => exact ⟨_, (!t872), (by first | rfl | (simp; done) | (simp [*]; done)), H', ⟨by first | omega | exact Nat.le_refl _⟩, ⟨by repeat (first | (with_reducible first | exact HB.out | apply below_alloc | apply pw_below_drewN | apply below_drew1) | exact HB.out)⟩⟩
 case rest =>
  clear HC4
  try clear c2
  try clear p2
  try clear c4
  try clear c6
  try clear c7
  try clear c8
  obtain ⟨kq, x23_3, rfl, HA, HJ3, HB⟩ := hcut
  cases kq with
  | zero => exact absurd HA.out (by simp [spec_PsalmRead.j0])
  | succ kj3 =>
   have H := HA.out
   clear HA
   simp only [spec_PsalmRead.j0] at H
   by_cases c14 : x23_3 = true
   ·subst c14
    have H1 : (some (-1)) = some r := by rw [if_pos rfl] at H; exact H
    clear H
    have H := H1
    clear H1
    obtain rfl := Option.some.inj H
    go_wp2
    go_ret
    exact ⟨by first | rfl | (simp [errW_none, errW_some] <;> rfl) | (simp [*, errW_none, errW_some] <;> rfl), by repeat (first | (with_reducible first | exact HB.out | apply below_alloc | apply pw_below_drewN | apply below_drew1) | exact HB.out)⟩
   replace c14 := Bool.eq_false_iff.mpr c14
   subst c14
   have H1 : (spec_PsalmRead.l0 kj3 l0 a1 l2 0 0) = some r := by rw [if_neg (show ¬ (false = true) by decide)] at H; exact H
   clear H
   have H := H1
   clear H1
   have H' := Aside0.mk H
   clear H
   go_wp2
   go_loopg [7, 8] kj3 (fun kq v7 v8 w' => ∃ (x7_2 : Int) (x8_2 : Int), v7 = .int .i64 x7_2 ∧ v8 = .int .i64 x8_2 ∧ Aside0 (spec_PsalmRead.l0 kq l0 a1 l2 x7_2 x8_2 = some r) ∧ Aside0 (kq ≤ kj3) ∧ Aside0 (Below w.heap.size w w'))
   case atStart => exact ⟨(0), (0), (by first | rfl | (simp; done) | (simp [*]; done)), (by first | rfl | (simp; done) | (simp [*]; done)), H', ⟨Nat.le_refl _⟩, ⟨by repeat (first | (with_reducible first | exact HB.out | apply below_alloc | apply pw_below_drewN | apply below_drew1) | exact HB.out)⟩⟩
   case round =>
    clear H'
    try clear c1
    try clear c2
    try clear p2
    try clear c4
    try clear c6
    try clear c7
    try clear c8
    try clear c14
    try clear p2
    obtain ⟨x7_2, x8_2, rfl, rfl, HA, HK2, HB⟩ := hrel
    cases gk with
    | zero => exact absurd HA.out (by simp [spec_PsalmRead.l0])
    | succ k2 =>
     have H := HA.out
     clear HA
     simp only [spec_PsalmRead.l0] at H
     by_cases c15 : x8_2 < (l0.length : Int)
     rotate_left
     ·rw [if_neg c15] at H
      have c15b0 : decide (x8_2 < (l0.length : Int)) = false := decide_eq_false c15
      clear c15
      obtain rfl := Option.some.inj H
      go_wp2
      go_ret
      exact ⟨by first | rfl | (simp [errW_none, errW_some] <;> rfl) | (simp [*, errW_none, errW_some] <;> rfl), by repeat (first | (with_reducible first | exact HB.out | apply below_alloc | apply pw_below_drewN | apply below_drew1) | exact HB.out)⟩
     rw [if_pos c15] at H
     have c15b0 : decide (x8_2 < (l0.length : Int)) = true := decide_eq_true c15
     clear c15
     by_cases c16 : 0 ≤ x8_2
     rotate_left
     ·rw [if_neg c16] at H
      exact absurd H (by simp)
     rw [if_pos c16] at H
     have c16b0 : decide (0 ≤ x8_2) = true := decide_eq_true c16
     clear c16
     replace H := Option.bind_eq_some_iff.mp H
     obtain ⟨⟨t874, t877⟩, A170, H⟩ := H
     replace H : (if t877 = true then ((spec_l4Equal.f k2 t874 l2).bind fun t878 => (if t878 = true then (spec_PsalmRead.l0 k2 l0 a1 l2 (wrap64 (x7_2 + 1)) (wrap64 (x8_2 + 1))) else (spec_PsalmRead.l0 k2 l0 a1 l2 x7_2 (wrap64 (x8_2 + 1))))) else (spec_PsalmRead.l0 k2 l0 a1 l2 x7_2 (wrap64 (x8_2 + 1)))) = some r := H
     have A17 := Aside0.mk A170
     clear A170
     by_cases c18 : t877 = true
     rotate_left
     ·replace c18 := Bool.eq_false_iff.mpr c18
      subst c18
      have H1 : (spec_PsalmRead.l0 k2 l0 a1 l2 x7_2 (wrap64 (x8_2 + 1))) = some r := by rw [if_neg (show ¬ (false = true) by decide)] at H; exact H
      clear H
      have H := H1
      clear H1
      have H' := Aside0.mk H
      clear H
      have p873 : 0 ≤ (x8_2 : Int) := of_decide_eq_true (by first | (with_reducible assumption) | assumption)
      have q873 : x8_2 < (l0.length : Int) := of_decide_eq_true (by first | (with_reducible assumption) | assumption)
      obtain ⟨ad873, A873_0, c873_0, A873_3, c873_3, A873_4, c873_4, e873, hx873_0, hx873_1, hx873_2, hx873_3, hx873_4, hl873_0, hi873_0, hl873_3, hi873_3, hl873_4, hi873_4⟩ := at_T27 HR0.out x8_2 p873 q873
      cases e873
      replace hx873_0 := (HB.out.cell (World.block_lt_of_cell? w _ hx873_0)).trans hx873_0
      replace hx873_1 := (HB.out.cell (World.block_lt_of_cell? w _ hx873_1)).trans hx873_1
      replace hx873_2 := (HB.out.cell (World.block_lt_of_cell? w _ hx873_2)).trans hx873_2
      replace hx873_3 := (HB.out.cell (World.block_lt_of_cell? w _ hx873_3)).trans hx873_3
      replace hx873_4 := (HB.out.cell (World.block_lt_of_cell? w _ hx873_4)).trans hx873_4
      have HR873_0 := Aside0.mk hi873_0
      have HC873_0 := Aside0.mk hl873_0
      clear hi873_0 hl873_0
      have HR873_3 := Aside0.mk hi873_3
      have HC873_3 := Aside0.mk hl873_3
      clear hi873_3 hl873_3
      have HR873_4 := Aside0.mk hi873_4
      have HC873_4 := Aside0.mk hl873_4
      clear hi873_4 hl873_4
      replace p873 := eq_true p873
      replace q873 := eq_true q873
      go_wp2_with (first | ((with_reducible refine gate_callee (f := 34) rfl ?_); refine goesL_ (some 36) rfl rfl Tryd.func34 (by kernel_rfl) rfl #[.agg #[.slice A873_0 ((rd_T27 l0 x8_2).f0).length c873_0, .int .i64 ((rd_T27 l0 x8_2).f1.f0), .bool ((rd_T27 l0 x8_2).f1.f1), .slice A873_3 ((rd_T27 l0 x8_2).f2).length c873_3, .slice A873_4 ((rd_T27 l0 x8_2).f3).length c873_4], .string a1] rfl (by (try simp only [List.map_toArray, List.map_cons, List.map_nil]); first | done | rfl | (simp only [List.length_drop, List.length_take]; rfl)) ?_; (with_reducible refine (spec_PsalmSing.calls k2 _ _ ((rd_T27 l0 x8_2).f0) ((rd_T27 l0 x8_2).f1.f0) ((rd_T27 l0 x8_2).f1.f1) _ _ ((rd_T27 l0 x8_2).f2) _ _ ((rd_T27 l0 x8_2).f3) a1 t874 false _ ?side1 ?side2 ?side3 ?side4 ?side5 ?side6 A17.out).mono ?_); (case side1 => repeat (first | exact (Kd.C_below HR873_0.out HB.out) | (with_reducible refine Kd.C_alloc ?_ _) | (with_reducible refine Kd.C_drewN ?_ _) | (with_reducible refine Kd.C_drew ?_))); (case side2 => exact HC873_0.out); (case side3 => repeat (first | exact (Kd.C_below HR873_3.out HB.out) | (with_reducible refine Kd.C_alloc ?_ _) | (with_reducible refine Kd.C_drewN ?_ _) | (with_reducible refine Kd.C_drew ?_))); (case side4 => exact HC873_3.out); (case side5 => repeat (first | exact (Kd.C_below HR873_4.out HB.out) | (with_reducible refine Kd.C_alloc ?_ _) | (with_reducible refine Kd.C_drewN ?_ _) | (with_reducible refine Kd.C_drew ?_))); (case side6 => exact HC873_4.out); rintro e w25 ⟨v875, rfl, ho0, hb⟩; refine ⟨_, rfl, ?_⟩; have n0_ := Aside0.mk (Kd.R_lower ho0 (below_size (by repeat (first | (with_reducible first | exact HB.out | apply below_alloc | apply pw_below_drewN | apply below_drew1) | exact HB.out)))); have n1_ := Aside0.mk (below_step (by repeat (first | (with_reducible first | exact HB.out | apply below_alloc | apply pw_below_drewN | apply below_drew1) | exact HB.out)) hb); clear HB; have HO876 := n0_; have HB := n1_; clear n0_ n1_; (try clear hb); (try clear hb2); (try clear hk); (try clear hi); (try clear ho0)))
      go_roundg k2
      case measure => have := HJ3.out; have := HK2.out; omega
      case rel => exact ⟨(x7_2), (wrap64 (x8_2 + 1)), (by first | rfl | (simp; done) | (simp [*]; done)), (by first | rfl | (simp; done) | (simp [*]; done)), H', ⟨by have := HJ3.out; have := HK2.out; omega⟩, ⟨by repeat (first | (with_reducible first | exact HB.out | apply below_alloc | apply pw_below_drewN | apply below_drew1) | exact HB.out)⟩⟩
     subst c18
     have H1 : ((spec_l4Equal.f k2 t874 l2).bind fun t878 => (if t878 = true then (spec_PsalmRead.l0 k2 l0 a1 l2 (wrap64 (x7_2 + 1)) (wrap64 (x8_2 + 1))) else (spec_PsalmRead.l0 k2 l0 a1 l2 x7_2 (wrap64 (x8_2 + 1))))) = some r := by rw [if_pos rfl] at H; exact H
     clear H
     have H := H1
     clear H1
     replace H := Option.bind_eq_some_iff.mp H
     obtain ⟨t878, A190, H⟩ := H
     replace H : (if t878 = true then (spec_PsalmRead.l0 k2 l0 a1 l2 (wrap64 (x7_2 + 1)) (wrap64 (x8_2 + 1))) else (spec_PsalmRead.l0 k2 l0 a1 l2 x7_2 (wrap64 (x8_2 + 1)))) = some r := H
     have A19 := Aside0.mk A190
     clear A190
     by_cases c20 : t878 = true
     ·subst c20
      have H1 : (spec_PsalmRead.l0 k2 l0 a1 l2 (wrap64 (x7_2 + 1)) (wrap64 (x8_2 + 1))) = some r := by rw [if_pos rfl] at H; exact H
      clear H
      have H := H1
      clear H1
      have H' := Aside0.mk H
      clear H
      have p873 : 0 ≤ (x8_2 : Int) := of_decide_eq_true (by first | (with_reducible assumption) | assumption)
      have q873 : x8_2 < (l0.length : Int) := of_decide_eq_true (by first | (with_reducible assumption) | assumption)
      obtain ⟨ad873, A873_0, c873_0, A873_3, c873_3, A873_4, c873_4, e873, hx873_0, hx873_1, hx873_2, hx873_3, hx873_4, hl873_0, hi873_0, hl873_3, hi873_3, hl873_4, hi873_4⟩ := at_T27 HR0.out x8_2 p873 q873
      cases e873
      replace hx873_0 := (HB.out.cell (World.block_lt_of_cell? w _ hx873_0)).trans hx873_0
      replace hx873_1 := (HB.out.cell (World.block_lt_of_cell? w _ hx873_1)).trans hx873_1
      replace hx873_2 := (HB.out.cell (World.block_lt_of_cell? w _ hx873_2)).trans hx873_2
      replace hx873_3 := (HB.out.cell (World.block_lt_of_cell? w _ hx873_3)).trans hx873_3
      replace hx873_4 := (HB.out.cell (World.block_lt_of_cell? w _ hx873_4)).trans hx873_4
      have HR873_0 := Aside0.mk hi873_0
      have HC873_0 := Aside0.mk hl873_0
      clear hi873_0 hl873_0
      have HR873_3 := Aside0.mk hi873_3
      have HC873_3 := Aside0.mk hl873_3
      clear hi873_3 hl873_3
      have HR873_4 := Aside0.mk hi873_4
      have HC873_4 := Aside0.mk hl873_4
      clear hi873_4 hl873_4
      replace p873 := eq_true p873
      replace q873 := eq_true q873
      go_wp2_with (first | ((with_reducible refine gate_callee (f := 34) rfl ?_); refine goesL_ (some 36) rfl rfl Tryd.func34 (by kernel_rfl) rfl #[.agg #[.slice A873_0 ((rd_T27 l0 x8_2).f0).length c873_0, .int .i64 ((rd_T27 l0 x8_2).f1.f0), .bool ((rd_T27 l0 x8_2).f1.f1), .slice A873_3 ((rd_T27 l0 x8_2).f2).length c873_3, .slice A873_4 ((rd_T27 l0 x8_2).f3).length c873_4], .string a1] rfl (by (try simp only [List.map_toArray, List.map_cons, List.map_nil]); first | done | rfl | (simp only [List.length_drop, List.length_take]; rfl)) ?_; (with_reducible refine (spec_PsalmSing.calls k2 _ _ ((rd_T27 l0 x8_2).f0) ((rd_T27 l0 x8_2).f1.f0) ((rd_T27 l0 x8_2).f1.f1) _ _ ((rd_T27 l0 x8_2).f2) _ _ ((rd_T27 l0 x8_2).f3) a1 t874 true _ ?side1 ?side2 ?side3 ?side4 ?side5 ?side6 A17.out).mono ?_); (case side1 => repeat (first | exact (Kd.C_below HR873_0.out HB.out) | (with_reducible refine Kd.C_alloc ?_ _) | (with_reducible refine Kd.C_drewN ?_ _) | (with_reducible refine Kd.C_drew ?_))); (case side2 => exact HC873_0.out); (case side3 => repeat (first | exact (Kd.C_below HR873_3.out HB.out) | (with_reducible refine Kd.C_alloc ?_ _) | (with_reducible refine Kd.C_drewN ?_ _) | (with_reducible refine Kd.C_drew ?_))); (case side4 => exact HC873_3.out); (case side5 => repeat (first | exact (Kd.C_below HR873_4.out HB.out) | (with_reducible refine Kd.C_alloc ?_ _) | (with_reducible refine Kd.C_drewN ?_ _) | (with_reducible refine Kd.C_drew ?_))); (case side6 => exact HC873_4.out); rintro e w21 ⟨v875, rfl, ho0, hb⟩; refine ⟨_, rfl, ?_⟩; have n0_ := Aside0.mk (Kd.R_lower ho0 (below_size (by repeat (first | (with_reducible first | exact HB.out | apply below_alloc | apply pw_below_drewN | apply below_drew1) | exact HB.out)))); have n1_ := Aside0.mk (below_step (by repeat (first | (with_reducible first | exact HB.out | apply below_alloc | apply pw_below_drewN | apply below_drew1) | exact HB.out)) hb); clear HB; have HO876 := n0_; have HB := n1_; clear n0_ n1_; (try clear hb); (try clear hb2); (try clear hk); (try clear hi); (try clear ho0); obtain ⟨Ao22, co22, eo22⟩ := Kd.R_slice HO876.out; subst eo22) | (go_at_call 78; (with_reducible refine (spec_l4Equal.calls k2 _ _ t874 _ _ l2 true _ ?side1 ?side2 ?side3 ?side4 A19.out).mono ?_); (case side1 => repeat (first | exact (Kd.R_reads' HO876.out).2.2 | (with_reducible refine Kd.C_alloc ?_ _) | (with_reducible refine Kd.C_drewN ?_ _) | (with_reducible refine Kd.C_drew ?_))); (case side2 => exact (Kd.R_reads' HO876.out).2.1); (case side3 => repeat (first | exact (Kd.C_below HR2.out HB.out) | (with_reducible refine Kd.C_alloc ?_ _) | (with_reducible refine Kd.C_drewN ?_ _) | (with_reducible refine Kd.C_drew ?_))); (case side4 => exact HC2.out); rintro e w' ⟨rfl, ⟨nd, rfl⟩⟩))
      go_roundg k2
      case measure => have := HJ3.out; have := HK2.out; omega
      case rel => exact ⟨(wrap64 (x7_2 + 1)), (wrap64 (x8_2 + 1)), (by first | rfl | (simp; done) | (simp [*]; done)), (by first | rfl | (simp; done) | (simp [*]; done)), H', ⟨by have := HJ3.out; have := HK2.out; omega⟩, ⟨by repeat (first | (with_reducible first | exact HB.out | apply below_alloc | apply pw_below_drewN | apply below_drew1) | exact HB.out)⟩⟩
     replace c20 := Bool.eq_false_iff.mpr c20
     subst c20
     have H1 : (spec_PsalmRead.l0 k2 l0 a1 l2 x7_2 (wrap64 (x8_2 + 1))) = some r := by rw [if_neg (show ¬ (false = true) by decide)] at H; exact H
     clear H
     have H := H1
     clear H1
     have H' := Aside0.mk H
     clear H
     have p873 : 0 ≤ (x8_2 : Int) := of_decide_eq_true (by first | (with_reducible assumption) | assumption)
     have q873 : x8_2 < (l0.length : Int) := of_decide_eq_true (by first | (with_reducible assumption) | assumption)
     obtain ⟨ad873, A873_0, c873_0, A873_3, c873_3, A873_4, c873_4, e873, hx873_0, hx873_1, hx873_2, hx873_3, hx873_4, hl873_0, hi873_0, hl873_3, hi873_3, hl873_4, hi873_4⟩ := at_T27 HR0.out x8_2 p873 q873
     cases e873
     replace hx873_0 := (HB.out.cell (World.block_lt_of_cell? w _ hx873_0)).trans hx873_0
     replace hx873_1 := (HB.out.cell (World.block_lt_of_cell? w _ hx873_1)).trans hx873_1
     replace hx873_2 := (HB.out.cell (World.block_lt_of_cell? w _ hx873_2)).trans hx873_2
     replace hx873_3 := (HB.out.cell (World.block_lt_of_cell? w _ hx873_3)).trans hx873_3
     replace hx873_4 := (HB.out.cell (World.block_lt_of_cell? w _ hx873_4)).trans hx873_4
     have HR873_0 := Aside0.mk hi873_0
     have HC873_0 := Aside0.mk hl873_0
     clear hi873_0 hl873_0
     have HR873_3 := Aside0.mk hi873_3
     have HC873_3 := Aside0.mk hl873_3
     clear hi873_3 hl873_3
     have HR873_4 := Aside0.mk hi873_4
     have HC873_4 := Aside0.mk hl873_4
     clear hi873_4 hl873_4
     replace p873 := eq_true p873
     replace q873 := eq_true q873
     go_wp2_with (first | ((with_reducible refine gate_callee (f := 34) rfl ?_); refine goesL_ (some 36) rfl rfl Tryd.func34 (by kernel_rfl) rfl #[.agg #[.slice A873_0 ((rd_T27 l0 x8_2).f0).length c873_0, .int .i64 ((rd_T27 l0 x8_2).f1.f0), .bool ((rd_T27 l0 x8_2).f1.f1), .slice A873_3 ((rd_T27 l0 x8_2).f2).length c873_3, .slice A873_4 ((rd_T27 l0 x8_2).f3).length c873_4], .string a1] rfl (by (try simp only [List.map_toArray, List.map_cons, List.map_nil]); first | done | rfl | (simp only [List.length_drop, List.length_take]; rfl)) ?_; (with_reducible refine (spec_PsalmSing.calls k2 _ _ ((rd_T27 l0 x8_2).f0) ((rd_T27 l0 x8_2).f1.f0) ((rd_T27 l0 x8_2).f1.f1) _ _ ((rd_T27 l0 x8_2).f2) _ _ ((rd_T27 l0 x8_2).f3) a1 t874 true _ ?side1 ?side2 ?side3 ?side4 ?side5 ?side6 A17.out).mono ?_); (case side1 => repeat (first | exact (Kd.C_below HR873_0.out HB.out) | (with_reducible refine Kd.C_alloc ?_ _) | (with_reducible refine Kd.C_drewN ?_ _) | (with_reducible refine Kd.C_drew ?_))); (case side2 => exact HC873_0.out); (case side3 => repeat (first | exact (Kd.C_below HR873_3.out HB.out) | (with_reducible refine Kd.C_alloc ?_ _) | (with_reducible refine Kd.C_drewN ?_ _) | (with_reducible refine Kd.C_drew ?_))); (case side4 => exact HC873_3.out); (case side5 => repeat (first | exact (Kd.C_below HR873_4.out HB.out) | (with_reducible refine Kd.C_alloc ?_ _) | (with_reducible refine Kd.C_drewN ?_ _) | (with_reducible refine Kd.C_drew ?_))); (case side6 => exact HC873_4.out); rintro e w23 ⟨v875, rfl, ho0, hb⟩; refine ⟨_, rfl, ?_⟩; have n0_ := Aside0.mk (Kd.R_lower ho0 (below_size (by repeat (first | (with_reducible first | exact HB.out | apply below_alloc | apply pw_below_drewN | apply below_drew1) | exact HB.out)))); have n1_ := Aside0.mk (below_step (by repeat (first | (with_reducible first | exact HB.out | apply below_alloc | apply pw_below_drewN | apply below_drew1) | exact HB.out)) hb); clear HB; have HO876 := n0_; have HB := n1_; clear n0_ n1_; (try clear hb); (try clear hb2); (try clear hk); (try clear hi); (try clear ho0); obtain ⟨Ao24, co24, eo24⟩ := Kd.R_slice HO876.out; subst eo24) | (go_at_call 78; (with_reducible refine (spec_l4Equal.calls k2 _ _ t874 _ _ l2 false _ ?side1 ?side2 ?side3 ?side4 A19.out).mono ?_); (case side1 => repeat (first | exact (Kd.R_reads' HO876.out).2.2 | (with_reducible refine Kd.C_alloc ?_ _) | (with_reducible refine Kd.C_drewN ?_ _) | (with_reducible refine Kd.C_drew ?_))); (case side2 => exact (Kd.R_reads' HO876.out).2.1); (case side3 => repeat (first | exact (Kd.C_below HR2.out HB.out) | (with_reducible refine Kd.C_alloc ?_ _) | (with_reducible refine Kd.C_drewN ?_ _) | (with_reducible refine Kd.C_drew ?_))); (case side4 => exact HC2.out); rintro e w' ⟨rfl, ⟨nd, rfl⟩⟩))
     go_roundg k2
     case measure => have := HJ3.out; have := HK2.out; omega
     case rel => exact ⟨(x7_2), (wrap64 (x8_2 + 1)), (by first | rfl | (simp; done) | (simp [*]; done)), (by first | rfl | (simp; done) | (simp [*]; done)), H', ⟨by have := HJ3.out; have := HK2.out; omega⟩, ⟨by repeat (first | (with_reducible first | exact HB.out | apply below_alloc | apply pw_below_drewN | apply below_drew1) | exact HB.out)⟩⟩
end Go.Proofs.YtdgmkfbmeaalpaaDoor.E
end
section
namespace Go.Proofs.YtdgmkfbmeaalpaaDoor.E
open Go.RowKit Go.Proofs.YtdgmkfbmeaalpaaDoorW.PrintWords Go.Proofs.YtdgmkfbmeaalpaaDoorW.PrintLast Go.Proofs.YtdgmkfbmeaalpaaDoorW.PrintMore
attribute [local go_sem] max2_int min2_int max_two min_two max_three min_three max_four min_four
set_option linter.unusedVariables false
set_option linter.unusedSimpArgs false
attribute [local go_sem] str_leq_ str_gtr_ str_geq_
def laws_szPsalm.f (l0_0 : List (S39)) (a0_1 : Int) (a0_2 : Bool) (l0_3 : List (S39)) (l0_4 : List (S39)) (a1 : Int) : Option (Int) := (laws_szToneS.f l0_0 a1).bind fun t311 => (if t311 < 0 then (some (-1)) else ((laws_szToneS.f l0_3 t311).bind fun t312 => (if t312 < 0 then (some (-1)) else ((laws_szToneS.f l0_4 t312).bind fun t313 => (if t313 < 0 then (some (-1)) else (some t313))))))
set_option maxHeartbeats 8000000 in
set_option maxRecDepth 100000 in
theorem laws_szPsalm.calls (A0_0 : Option Addr) (c0_0 : Nat) (l0_0 : List (S39)) (a0_1 : Int) (a0_2 : Bool) (A0_3 : Option Addr) (c0_3 : Nat) (l0_3 : List (S39)) (A0_4 : Option Addr) (c0_4 : Nat) (l0_4 : List (S39)) (a1 : Int) (r : Int) (w : World) (hr0_0 : Kd.C k39 w A0_0 l0_0.length l0_0) (hc0_0 : l0_0.length ≤ c0_0) (hr0_3 : Kd.C k39 w A0_3 l0_3.length l0_3) (hc0_3 : l0_3.length ≤ c0_3) (hr0_4 : Kd.C k39 w A0_4 l0_4.length l0_4) (hc0_4 : l0_4.length ≤ c0_4) (h : laws_szPsalm.f l0_0 a0_1 a0_2 l0_3 l0_4 a1 = some r) :
  Calls Tryd.prog 22 #[.agg #[.slice A0_0 l0_0.length c0_0, .int .i64 a0_1, .bool a0_2, .slice A0_3 l0_3.length c0_3, .slice A0_4 l0_4.length c0_4], .int .i64 a1] w fun e w' => e = .returned (.int .i64 r) ∧ Below w.heap.size w w' := by
 have hu41 := Tryd.underlying41
 have HR0_0 := Aside0.mk hr0_0
 have HC0_0 := Aside0.mk hc0_0
 clear hr0_0 hc0_0
 have HR0_3 := Aside0.mk hr0_3
 have HC0_3 := Aside0.mk hc0_3
 clear hr0_3 hc0_3
 have HR0_4 := Aside0.mk hr0_4
 have HC0_4 := Aside0.mk hc0_4
 clear hr0_4 hc0_4
 have HB := Aside0.mk (Below.refl w.heap.size w)
 have H : ((laws_szToneS.f l0_0 a1).bind fun t311 => (if t311 < 0 then (some (-1)) else ((laws_szToneS.f l0_3 t311).bind fun t312 => (if t312 < 0 then (some (-1)) else ((laws_szToneS.f l0_4 t312).bind fun t313 => (if t313 < 0 then (some (-1)) else (some t313))))))) = some r := h
 clear h
 replace H := Option.bind_eq_some_iff.mp H
 obtain ⟨t311, A30, H⟩ := H
 replace H : (if t311 < 0 then (some (-1)) else ((laws_szToneS.f l0_3 t311).bind fun t312 => (if t312 < 0 then (some (-1)) else ((laws_szToneS.f l0_4 t312).bind fun t313 => (if t313 < 0 then (some (-1)) else (some t313)))))) = some r := H
 have A3 := Aside0.mk A30
 clear A30
 by_cases c4 : t311 < 0
 ·rw [if_pos c4] at H
  have c4b0 : decide (t311 < 0) = true := decide_eq_true c4
  clear c4
  obtain rfl := Option.some.inj H
  go_enter Tryd.func22, Tryd.ntmps22
  go_wp2_with (first | ((with_reducible refine gate_dst (N := 2) rfl ?_); refine box_event ?hg (N := 2) ?hd (cs := #[.slice A0_0 l0_0.length c0_0, .int .i64 a0_1, .bool a0_2, .slice A0_3 l0_3.length c0_3, .slice A0_4 l0_4.length c0_4]) (t := 41) ?hr ?_; (case hd => rfl); (case hg => rfl); (case hr => first | (go_simp; done) | (go_simp; rfl)); intro gb310 hg w5 hbox hb; have n0_ := Aside0.mk (below_step (by repeat (first | (with_reducible first | exact HB.out | apply below_alloc | apply pw_below_drewN | apply below_drew1) | exact HB.out)) hb); have n1_ := Aside0.mk (hbox); have n2_ := Aside0.mk ((by rw [hg]; exact (below_size (by repeat (first | (with_reducible first | exact HB.out | apply below_alloc | apply pw_below_drewN | apply below_drew1) | exact HB.out))) : w.heap.size ≤ gb310)); have n3_ := Aside0.mk ((by rw [hg]; exact (below_size (by repeat (first | (with_reducible first | exact HB.out | apply below_alloc | apply pw_below_drewN | apply below_drew1) | exact HB.out))) : w.heap.size ≤ gb310)); clear HB; have HB := n0_; have BK310 := n1_; have GW310 := n2_; have GE310 := n3_; clear n0_ n1_ n2_ n3_; clear hb hbox hg; have hcz6_0 : w5.cell? ⟨gb310, 0, none⟩ = some (.slice A0_0 l0_0.length c0_0) := (blk_cell BK310.out 0).trans rfl; have hcz6_1 : w5.cell? ⟨gb310, 1, none⟩ = some (.int .i64 a0_1) := (blk_cell BK310.out 1).trans rfl; have hcz6_2 : w5.cell? ⟨gb310, 2, none⟩ = some (.bool a0_2) := (blk_cell BK310.out 2).trans rfl; have hcz6_3 : w5.cell? ⟨gb310, 3, none⟩ = some (.slice A0_3 l0_3.length c0_3) := (blk_cell BK310.out 3).trans rfl; have hcz6_4 : w5.cell? ⟨gb310, 4, none⟩ = some (.slice A0_4 l0_4.length c0_4) := (blk_cell BK310.out 4).trans rfl; have hfz6_0 := blk_frozen BK310.out 0; have hfz6_1 := blk_frozen BK310.out 1; have hfz6_2 := blk_frozen BK310.out 2; have hfz6_3 := blk_frozen BK310.out 3; have hfz6_4 := blk_frozen BK310.out 4) | ((with_reducible refine gate_callee (f := 47) rfl ?_); refine goesL_ (some 8) rfl rfl Tryd.func47 (by kernel_rfl) rfl #[.slice A0_0 l0_0.length c0_0, .int .i64 a1] rfl (by (try simp only [List.map_toArray, List.map_cons, List.map_nil]); first | done | rfl | (simp only [List.length_drop, List.length_take]; rfl)) ?_; (with_reducible refine (laws_szToneS.calls _ _ l0_0 a1 t311 _ ?side1 ?side2 A3.out).mono ?_); (case side1 => repeat (first | exact (Kd.C_below HR0_0.out HB.out) | (with_reducible refine Kd.C_alloc ?_ _) | (with_reducible refine Kd.C_drewN ?_ _) | (with_reducible refine Kd.C_drew ?_))); (case side2 => exact HC0_0.out); rintro e w' ⟨rfl, ⟨nd, rfl⟩⟩; refine ⟨_, rfl, ?_⟩))
  go_ret
  exact ⟨by first | rfl | (simp [errW_none, errW_some] <;> rfl) | (simp [*, errW_none, errW_some] <;> rfl), by repeat (first | (with_reducible first | exact HB.out | apply below_alloc | apply pw_below_drewN | apply below_drew1 | refine below_set ?_ GE310.out) | exact HB.out)⟩
 rw [if_neg c4] at H
 have c4b0 : decide (t311 < 0) = false := decide_eq_false c4
 clear c4
 replace H := Option.bind_eq_some_iff.mp H
 obtain ⟨t312, A70, H⟩ := H
 replace H : (if t312 < 0 then (some (-1)) else ((laws_szToneS.f l0_4 t312).bind fun t313 => (if t313 < 0 then (some (-1)) else (some t313)))) = some r := H
 have A7 := Aside0.mk A70
 clear A70
 by_cases c8 : t312 < 0
 ·rw [if_pos c8] at H
  have c8b0 : decide (t312 < 0) = true := decide_eq_true c8
  clear c8
  obtain rfl := Option.some.inj H
  go_enter Tryd.func22, Tryd.ntmps22
  go_wp2_with (first | ((with_reducible refine gate_dst (N := 2) rfl ?_); refine box_event ?hg (N := 2) ?hd (cs := #[.slice A0_0 l0_0.length c0_0, .int .i64 a0_1, .bool a0_2, .slice A0_3 l0_3.length c0_3, .slice A0_4 l0_4.length c0_4]) (t := 41) ?hr ?_; (case hd => rfl); (case hg => rfl); (case hr => first | (go_simp; done) | (go_simp; rfl)); intro gb310 hg w9 hbox hb; have n0_ := Aside0.mk (below_step (by repeat (first | (with_reducible first | exact HB.out | apply below_alloc | apply pw_below_drewN | apply below_drew1) | exact HB.out)) hb); have n1_ := Aside0.mk (hbox); have n2_ := Aside0.mk ((by rw [hg]; exact (below_size (by repeat (first | (with_reducible first | exact HB.out | apply below_alloc | apply pw_below_drewN | apply below_drew1) | exact HB.out))) : w.heap.size ≤ gb310)); have n3_ := Aside0.mk ((by rw [hg]; exact (below_size (by repeat (first | (with_reducible first | exact HB.out | apply below_alloc | apply pw_below_drewN | apply below_drew1) | exact HB.out))) : w.heap.size ≤ gb310)); clear HB; have HB := n0_; have BK310 := n1_; have GW310 := n2_; have GE310 := n3_; clear n0_ n1_ n2_ n3_; clear hb hbox hg; have hcz10_0 : w9.cell? ⟨gb310, 0, none⟩ = some (.slice A0_0 l0_0.length c0_0) := (blk_cell BK310.out 0).trans rfl; have hcz10_1 : w9.cell? ⟨gb310, 1, none⟩ = some (.int .i64 a0_1) := (blk_cell BK310.out 1).trans rfl; have hcz10_2 : w9.cell? ⟨gb310, 2, none⟩ = some (.bool a0_2) := (blk_cell BK310.out 2).trans rfl; have hcz10_3 : w9.cell? ⟨gb310, 3, none⟩ = some (.slice A0_3 l0_3.length c0_3) := (blk_cell BK310.out 3).trans rfl; have hcz10_4 : w9.cell? ⟨gb310, 4, none⟩ = some (.slice A0_4 l0_4.length c0_4) := (blk_cell BK310.out 4).trans rfl; have hfz10_0 := blk_frozen BK310.out 0; have hfz10_1 := blk_frozen BK310.out 1; have hfz10_2 := blk_frozen BK310.out 2; have hfz10_3 := blk_frozen BK310.out 3; have hfz10_4 := blk_frozen BK310.out 4) | ((with_reducible refine gate_callee (f := 47) rfl ?_); refine goesL_ (some 8) rfl rfl Tryd.func47 (by kernel_rfl) rfl #[.slice A0_0 l0_0.length c0_0, .int .i64 a1] rfl (by (try simp only [List.map_toArray, List.map_cons, List.map_nil]); first | done | rfl | (simp only [List.length_drop, List.length_take]; rfl)) ?_; (with_reducible refine (laws_szToneS.calls _ _ l0_0 a1 t311 _ ?side1 ?side2 A3.out).mono ?_); (case side1 => repeat (first | exact (Kd.C_below HR0_0.out HB.out) | (with_reducible refine Kd.C_alloc ?_ _) | (with_reducible refine Kd.C_drewN ?_ _) | (with_reducible refine Kd.C_drew ?_))); (case side2 => exact HC0_0.out); rintro e w' ⟨rfl, ⟨nd, rfl⟩⟩; refine ⟨_, rfl, ?_⟩) | ((with_reducible refine gate_callee (f := 47) rfl ?_); refine goesL_ (some 14) rfl rfl Tryd.func47 (by kernel_rfl) rfl #[.slice A0_3 l0_3.length c0_3, .int .i64 t311] rfl (by (try simp only [List.map_toArray, List.map_cons, List.map_nil]); first | done | rfl | (simp only [List.length_drop, List.length_take]; rfl)) ?_; (with_reducible refine (laws_szToneS.calls _ _ l0_3 t311 t312 _ ?side1 ?side2 A7.out).mono ?_); (case side1 => repeat (first | exact (Kd.C_below HR0_3.out (by repeat (first | (with_reducible first | exact HB.out | apply below_alloc | apply pw_below_drewN | apply below_drew1 | refine below_set ?_ GE310.out) | exact HB.out))) | (with_reducible refine Kd.C_alloc ?_ _) | (with_reducible refine Kd.C_drewN ?_ _) | (with_reducible refine Kd.C_drew ?_))); (case side2 => exact HC0_3.out); rintro e w' ⟨rfl, ⟨nd, rfl⟩⟩; refine ⟨_, rfl, ?_⟩))
  go_ret
  exact ⟨by first | rfl | (simp [errW_none, errW_some] <;> rfl) | (simp [*, errW_none, errW_some] <;> rfl), by repeat (first | (with_reducible first | exact HB.out | apply below_alloc | apply pw_below_drewN | apply below_drew1 | refine below_set ?_ GE310.out) | exact HB.out)⟩
 rw [if_neg c8] at H
 have c8b0 : decide (t312 < 0) = false := decide_eq_false c8
 clear c8
 replace H := Option.bind_eq_some_iff.mp H
 obtain ⟨t313, A110, H⟩ := H
 replace H : (if t313 < 0 then (some (-1)) else (some t313)) = some r := H
 have A11 := Aside0.mk A110
 clear A110
 by_cases c12 : t313 < 0
 ·rw [if_pos c12] at H
  have c12b0 : decide (t313 < 0) = true := decide_eq_true c12
  clear c12
  obtain rfl := Option.some.inj H
  go_enter Tryd.func22, Tryd.ntmps22
  go_wp2_with (first | ((with_reducible refine gate_dst (N := 2) rfl ?_); refine box_event ?hg (N := 2) ?hd (cs := #[.slice A0_0 l0_0.length c0_0, .int .i64 a0_1, .bool a0_2, .slice A0_3 l0_3.length c0_3, .slice A0_4 l0_4.length c0_4]) (t := 41) ?hr ?_; (case hd => rfl); (case hg => rfl); (case hr => first | (go_simp; done) | (go_simp; rfl)); intro gb310 hg w13 hbox hb; have n0_ := Aside0.mk (below_step (by repeat (first | (with_reducible first | exact HB.out | apply below_alloc | apply pw_below_drewN | apply below_drew1) | exact HB.out)) hb); have n1_ := Aside0.mk (hbox); have n2_ := Aside0.mk ((by rw [hg]; exact (below_size (by repeat (first | (with_reducible first | exact HB.out | apply below_alloc | apply pw_below_drewN | apply below_drew1) | exact HB.out))) : w.heap.size ≤ gb310)); have n3_ := Aside0.mk ((by rw [hg]; exact (below_size (by repeat (first | (with_reducible first | exact HB.out | apply below_alloc | apply pw_below_drewN | apply below_drew1) | exact HB.out))) : w.heap.size ≤ gb310)); clear HB; have HB := n0_; have BK310 := n1_; have GW310 := n2_; have GE310 := n3_; clear n0_ n1_ n2_ n3_; clear hb hbox hg; have hcz14_0 : w13.cell? ⟨gb310, 0, none⟩ = some (.slice A0_0 l0_0.length c0_0) := (blk_cell BK310.out 0).trans rfl; have hcz14_1 : w13.cell? ⟨gb310, 1, none⟩ = some (.int .i64 a0_1) := (blk_cell BK310.out 1).trans rfl; have hcz14_2 : w13.cell? ⟨gb310, 2, none⟩ = some (.bool a0_2) := (blk_cell BK310.out 2).trans rfl; have hcz14_3 : w13.cell? ⟨gb310, 3, none⟩ = some (.slice A0_3 l0_3.length c0_3) := (blk_cell BK310.out 3).trans rfl; have hcz14_4 : w13.cell? ⟨gb310, 4, none⟩ = some (.slice A0_4 l0_4.length c0_4) := (blk_cell BK310.out 4).trans rfl; have hfz14_0 := blk_frozen BK310.out 0; have hfz14_1 := blk_frozen BK310.out 1; have hfz14_2 := blk_frozen BK310.out 2; have hfz14_3 := blk_frozen BK310.out 3; have hfz14_4 := blk_frozen BK310.out 4) | ((with_reducible refine gate_callee (f := 47) rfl ?_); refine goesL_ (some 8) rfl rfl Tryd.func47 (by kernel_rfl) rfl #[.slice A0_0 l0_0.length c0_0, .int .i64 a1] rfl (by (try simp only [List.map_toArray, List.map_cons, List.map_nil]); first | done | rfl | (simp only [List.length_drop, List.length_take]; rfl)) ?_; (with_reducible refine (laws_szToneS.calls _ _ l0_0 a1 t311 _ ?side1 ?side2 A3.out).mono ?_); (case side1 => repeat (first | exact (Kd.C_below HR0_0.out HB.out) | (with_reducible refine Kd.C_alloc ?_ _) | (with_reducible refine Kd.C_drewN ?_ _) | (with_reducible refine Kd.C_drew ?_))); (case side2 => exact HC0_0.out); rintro e w' ⟨rfl, ⟨nd, rfl⟩⟩; refine ⟨_, rfl, ?_⟩) | ((with_reducible refine gate_callee (f := 47) rfl ?_); refine goesL_ (some 14) rfl rfl Tryd.func47 (by kernel_rfl) rfl #[.slice A0_3 l0_3.length c0_3, .int .i64 t311] rfl (by (try simp only [List.map_toArray, List.map_cons, List.map_nil]); first | done | rfl | (simp only [List.length_drop, List.length_take]; rfl)) ?_; (with_reducible refine (laws_szToneS.calls _ _ l0_3 t311 t312 _ ?side1 ?side2 A7.out).mono ?_); (case side1 => repeat (first | exact (Kd.C_below HR0_3.out (by repeat (first | (with_reducible first | exact HB.out | apply below_alloc | apply pw_below_drewN | apply below_drew1 | refine below_set ?_ GE310.out) | exact HB.out))) | (with_reducible refine Kd.C_alloc ?_ _) | (with_reducible refine Kd.C_drewN ?_ _) | (with_reducible refine Kd.C_drew ?_))); (case side2 => exact HC0_3.out); rintro e w' ⟨rfl, ⟨nd, rfl⟩⟩; refine ⟨_, rfl, ?_⟩) | ((with_reducible refine gate_callee (f := 47) rfl ?_); refine goesL_ (some 20) rfl rfl Tryd.func47 (by kernel_rfl) rfl #[.slice A0_4 l0_4.length c0_4, .int .i64 t312] rfl (by (try simp only [List.map_toArray, List.map_cons, List.map_nil]); first | done | rfl | (simp only [List.length_drop, List.length_take]; rfl)) ?_; (with_reducible refine (laws_szToneS.calls _ _ l0_4 t312 t313 _ ?side1 ?side2 A11.out).mono ?_); (case side1 => repeat (first | exact (Kd.C_below HR0_4.out (by repeat (first | (with_reducible first | exact HB.out | apply below_alloc | apply pw_below_drewN | apply below_drew1 | refine below_set ?_ GE310.out) | exact HB.out))) | (with_reducible refine Kd.C_alloc ?_ _) | (with_reducible refine Kd.C_drewN ?_ _) | (with_reducible refine Kd.C_drew ?_))); (case side2 => exact HC0_4.out); rintro e w' ⟨rfl, ⟨nd, rfl⟩⟩; refine ⟨_, rfl, ?_⟩))
  go_ret
  exact ⟨by first | rfl | (simp [errW_none, errW_some] <;> rfl) | (simp [*, errW_none, errW_some] <;> rfl), by repeat (first | (with_reducible first | exact HB.out | apply below_alloc | apply pw_below_drewN | apply below_drew1 | refine below_set ?_ GE310.out) | exact HB.out)⟩
 rw [if_neg c12] at H
 have c12b0 : decide (t313 < 0) = false := decide_eq_false c12
 clear c12
 obtain rfl := Option.some.inj H
 go_enter Tryd.func22, Tryd.ntmps22
 go_wp2_with (first | ((with_reducible refine gate_dst (N := 2) rfl ?_); refine box_event ?hg (N := 2) ?hd (cs := #[.slice A0_0 l0_0.length c0_0, .int .i64 a0_1, .bool a0_2, .slice A0_3 l0_3.length c0_3, .slice A0_4 l0_4.length c0_4]) (t := 41) ?hr ?_; (case hd => rfl); (case hg => rfl); (case hr => first | (go_simp; done) | (go_simp; rfl)); intro gb310 hg w15 hbox hb; have n0_ := Aside0.mk (below_step (by repeat (first | (with_reducible first | exact HB.out | apply below_alloc | apply pw_below_drewN | apply below_drew1) | exact HB.out)) hb); have n1_ := Aside0.mk (hbox); have n2_ := Aside0.mk ((by rw [hg]; exact (below_size (by repeat (first | (with_reducible first | exact HB.out | apply below_alloc | apply pw_below_drewN | apply below_drew1) | exact HB.out))) : w.heap.size ≤ gb310)); have n3_ := Aside0.mk ((by rw [hg]; exact (below_size (by repeat (first | (with_reducible first | exact HB.out | apply below_alloc | apply pw_below_drewN | apply below_drew1) | exact HB.out))) : w.heap.size ≤ gb310)); clear HB; have HB := n0_; have BK310 := n1_; have GW310 := n2_; have GE310 := n3_; clear n0_ n1_ n2_ n3_; clear hb hbox hg; have hcz16_0 : w15.cell? ⟨gb310, 0, none⟩ = some (.slice A0_0 l0_0.length c0_0) := (blk_cell BK310.out 0).trans rfl; have hcz16_1 : w15.cell? ⟨gb310, 1, none⟩ = some (.int .i64 a0_1) := (blk_cell BK310.out 1).trans rfl; have hcz16_2 : w15.cell? ⟨gb310, 2, none⟩ = some (.bool a0_2) := (blk_cell BK310.out 2).trans rfl; have hcz16_3 : w15.cell? ⟨gb310, 3, none⟩ = some (.slice A0_3 l0_3.length c0_3) := (blk_cell BK310.out 3).trans rfl; have hcz16_4 : w15.cell? ⟨gb310, 4, none⟩ = some (.slice A0_4 l0_4.length c0_4) := (blk_cell BK310.out 4).trans rfl; have hfz16_0 := blk_frozen BK310.out 0; have hfz16_1 := blk_frozen BK310.out 1; have hfz16_2 := blk_frozen BK310.out 2; have hfz16_3 := blk_frozen BK310.out 3; have hfz16_4 := blk_frozen BK310.out 4) | ((with_reducible refine gate_callee (f := 47) rfl ?_); refine goesL_ (some 8) rfl rfl Tryd.func47 (by kernel_rfl) rfl #[.slice A0_0 l0_0.length c0_0, .int .i64 a1] rfl (by (try simp only [List.map_toArray, List.map_cons, List.map_nil]); first | done | rfl | (simp only [List.length_drop, List.length_take]; rfl)) ?_; (with_reducible refine (laws_szToneS.calls _ _ l0_0 a1 t311 _ ?side1 ?side2 A3.out).mono ?_); (case side1 => repeat (first | exact (Kd.C_below HR0_0.out HB.out) | (with_reducible refine Kd.C_alloc ?_ _) | (with_reducible refine Kd.C_drewN ?_ _) | (with_reducible refine Kd.C_drew ?_))); (case side2 => exact HC0_0.out); rintro e w' ⟨rfl, ⟨nd, rfl⟩⟩; refine ⟨_, rfl, ?_⟩) | ((with_reducible refine gate_callee (f := 47) rfl ?_); refine goesL_ (some 14) rfl rfl Tryd.func47 (by kernel_rfl) rfl #[.slice A0_3 l0_3.length c0_3, .int .i64 t311] rfl (by (try simp only [List.map_toArray, List.map_cons, List.map_nil]); first | done | rfl | (simp only [List.length_drop, List.length_take]; rfl)) ?_; (with_reducible refine (laws_szToneS.calls _ _ l0_3 t311 t312 _ ?side1 ?side2 A7.out).mono ?_); (case side1 => repeat (first | exact (Kd.C_below HR0_3.out (by repeat (first | (with_reducible first | exact HB.out | apply below_alloc | apply pw_below_drewN | apply below_drew1 | refine below_set ?_ GE310.out) | exact HB.out))) | (with_reducible refine Kd.C_alloc ?_ _) | (with_reducible refine Kd.C_drewN ?_ _) | (with_reducible refine Kd.C_drew ?_))); (case side2 => exact HC0_3.out); rintro e w' ⟨rfl, ⟨nd, rfl⟩⟩; refine ⟨_, rfl, ?_⟩) | ((with_reducible refine gate_callee (f := 47) rfl ?_); refine goesL_ (some 20) rfl rfl Tryd.func47 (by kernel_rfl) rfl #[.slice A0_4 l0_4.length c0_4, .int .i64 t312] rfl (by (try simp only [List.map_toArray, List.map_cons, List.map_nil]); first | done | rfl | (simp only [List.length_drop, List.length_take]; rfl)) ?_; (with_reducible refine (laws_szToneS.calls _ _ l0_4 t312 t313 _ ?side1 ?side2 A11.out).mono ?_); (case side1 => repeat (first | exact (Kd.C_below HR0_4.out (by repeat (first | (with_reducible first | exact HB.out | apply below_alloc | apply pw_below_drewN | apply below_drew1 | refine below_set ?_ GE310.out) | exact HB.out))) | (with_reducible refine Kd.C_alloc ?_ _) | (with_reducible refine Kd.C_drewN ?_ _) | (with_reducible refine Kd.C_drew ?_))); (case side2 => exact HC0_4.out); rintro e w' ⟨rfl, ⟨nd, rfl⟩⟩; refine ⟨_, rfl, ?_⟩))
 go_ret
 exact ⟨by first | rfl | (simp [errW_none, errW_some] <;> rfl) | (simp [*, errW_none, errW_some] <;> rfl), by repeat (first | (with_reducible first | exact HB.out | apply below_alloc | apply pw_below_drewN | apply below_drew1 | refine below_set ?_ GE310.out) | exact HB.out)⟩
end Go.Proofs.YtdgmkfbmeaalpaaDoor.E
end
section
namespace Go.Proofs.YtdgmkfbmeaalpaaDoor.E
open Go.RowKit Go.Proofs.YtdgmkfbmeaalpaaDoorW.PrintWords Go.Proofs.YtdgmkfbmeaalpaaDoorW.PrintLast Go.Proofs.YtdgmkfbmeaalpaaDoorW.PrintMore
attribute [local go_sem] max2_int min2_int max_two min_two max_three min_three max_four min_four
set_option linter.unusedVariables false
set_option linter.unusedSimpArgs false
attribute [local go_sem] str_leq_ str_gtr_ str_geq_
def laws_szPsalmS.l0 : Nat → List (S41) → Int → Int → Option (Int)
 | 0, _, _, _ => none
 | k + 1, x0, x1, x5 => if x5 < (x0.length : Int) then (if 0 ≤ x5 then ((laws_szPsalm.f ((rd_T41 x0 x5).f0) ((rd_T41 x0 x5).f1.f0) ((rd_T41 x0 x5).f1.f1) ((rd_T41 x0 x5).f2) ((rd_T41 x0 x5).f3) x1).bind fun t909 => (if t909 < 0 then (some (-1)) else (laws_szPsalmS.l0 k x0 t909 (wrap64 (x5 + 1))))) else (none)) else (some x1)
def laws_szPsalmS.f (k : Nat) (l0 : List (S41)) (a1 : Int) : Option (Int) := if (wrap64 (a1 - (l0.length : Int))) < 0 then (some (-1)) else (laws_szPsalmS.l0 k l0 (wrap64 (a1 - (l0.length : Int))) 0)
set_option maxHeartbeats 8000000 in
set_option maxRecDepth 100000 in
theorem laws_szPsalmS.calls (k : Nat) (A0 : Option Addr) (c0 : Nat) (l0 : List (S41)) (a1 : Int) (r : Int) (w : World) (hr0 : Kd.C k41 w A0 l0.length l0) (hc0 : l0.length ≤ c0) (h : laws_szPsalmS.f k l0 a1 = some r) :
  Calls Tryd.prog 46 #[.slice A0 l0.length c0, .int .i64 a1] w fun e w' => e = .returned (.int .i64 r) ∧ Below w.heap.size w w' := by
 have hu41 := Tryd.underlying41
 have HR0 := Aside0.mk hr0
 have HC0 := Aside0.mk hc0
 clear hr0 hc0
 have HB := Aside0.mk (Below.refl w.heap.size w)
 have H : (if (wrap64 (a1 - (l0.length : Int))) < 0 then (some (-1)) else (laws_szPsalmS.l0 k l0 (wrap64 (a1 - (l0.length : Int))) 0)) = some r := h
 clear h
 by_cases c3 : (wrap64 (a1 - (l0.length : Int))) < 0
 ·rw [if_pos c3] at H
  have c3b0 : decide ((wrap64 (a1 - (l0.length : Int))) < 0) = true := decide_eq_true c3
  clear c3
  obtain rfl := Option.some.inj H
  go_enter Tryd.func46, Tryd.ntmps46
  go_wp2
  go_ret
  exact ⟨by first | rfl | (simp [errW_none, errW_some] <;> rfl) | (simp [*, errW_none, errW_some] <;> rfl), by repeat (first | (with_reducible first | exact HB.out | apply below_alloc | apply pw_below_drewN | apply below_drew1) | exact HB.out)⟩
 rw [if_neg c3] at H
 have c3b0 : decide ((wrap64 (a1 - (l0.length : Int))) < 0) = false := decide_eq_false c3
 clear c3
 have H' := Aside0.mk H
 clear H
 go_enter Tryd.func46, Tryd.ntmps46
 go_wp2
 go_loopg [1, 5] k (fun kq v1 v5 w' => ∃ (x1_1 : Int) (x5_1 : Int), v1 = .int .i64 x1_1 ∧ v5 = .int .i64 x5_1 ∧ Aside0 (laws_szPsalmS.l0 kq l0 x1_1 x5_1 = some r) ∧ Aside0 (kq ≤ k) ∧ Aside0 (Below w.heap.size w w'))
 case atStart => exact ⟨(wrap64 (a1 - (l0.length : Int))), (0), (by first | rfl | (simp; done) | (simp [*]; done)), (by first | rfl | (simp; done) | (simp [*]; done)), H', ⟨Nat.le_refl _⟩, ⟨by repeat (first | (with_reducible first | exact HB.out | apply below_alloc | apply pw_below_drewN | apply below_drew1) | exact HB.out)⟩⟩
 case round =>
  clear H'
  try clear p2
  try clear c3
  try clear c3b0
  obtain ⟨x1_1, x5_1, rfl, rfl, HA, HK1, HB⟩ := hrel
  cases gk with
  | zero => exact absurd HA.out (by simp [laws_szPsalmS.l0])
  | succ k1 =>
   have H := HA.out
   clear HA
   simp only [laws_szPsalmS.l0] at H
   by_cases c4 : x5_1 < (l0.length : Int)
   rotate_left
   ·rw [if_neg c4] at H
    have c4b0 : decide (x5_1 < (l0.length : Int)) = false := decide_eq_false c4
    clear c4
    obtain rfl := Option.some.inj H
    go_wp2
    go_ret
    exact ⟨by first | rfl | (simp [errW_none, errW_some] <;> rfl) | (simp [*, errW_none, errW_some] <;> rfl), by repeat (first | (with_reducible first | exact HB.out | apply below_alloc | apply pw_below_drewN | apply below_drew1) | exact HB.out)⟩
   rw [if_pos c4] at H
   have c4b0 : decide (x5_1 < (l0.length : Int)) = true := decide_eq_true c4
   clear c4
   by_cases c5 : 0 ≤ x5_1
   rotate_left
   ·rw [if_neg c5] at H
    exact absurd H (by simp)
   rw [if_pos c5] at H
   have c5b0 : decide (0 ≤ x5_1) = true := decide_eq_true c5
   clear c5
   replace H := Option.bind_eq_some_iff.mp H
   obtain ⟨t909, A60, H⟩ := H
   replace H : (if t909 < 0 then (some (-1)) else (laws_szPsalmS.l0 k1 l0 t909 (wrap64 (x5_1 + 1)))) = some r := H
   have A6 := Aside0.mk A60
   clear A60
   by_cases c7 : t909 < 0
   ·rw [if_pos c7] at H
    have c7b0 : decide (t909 < 0) = true := decide_eq_true c7
    clear c7
    obtain rfl := Option.some.inj H
    have p908 : 0 ≤ (x5_1 : Int) := of_decide_eq_true (by first | (with_reducible assumption) | assumption)
    have q908 : x5_1 < (l0.length : Int) := of_decide_eq_true (by first | (with_reducible assumption) | assumption)
    obtain ⟨ad908, A908_0, c908_0, A908_3, c908_3, A908_4, c908_4, e908, hx908_0, hx908_1, hx908_2, hx908_3, hx908_4, hl908_0, hi908_0, hl908_3, hi908_3, hl908_4, hi908_4⟩ := at_T41 HR0.out x5_1 p908 q908
    cases e908
    replace hx908_0 := (HB.out.cell (World.block_lt_of_cell? w _ hx908_0)).trans hx908_0
    replace hx908_1 := (HB.out.cell (World.block_lt_of_cell? w _ hx908_1)).trans hx908_1
    replace hx908_2 := (HB.out.cell (World.block_lt_of_cell? w _ hx908_2)).trans hx908_2
    replace hx908_3 := (HB.out.cell (World.block_lt_of_cell? w _ hx908_3)).trans hx908_3
    replace hx908_4 := (HB.out.cell (World.block_lt_of_cell? w _ hx908_4)).trans hx908_4
    have HR908_0 := Aside0.mk hi908_0
    have HC908_0 := Aside0.mk hl908_0
    clear hi908_0 hl908_0
    have HR908_3 := Aside0.mk hi908_3
    have HC908_3 := Aside0.mk hl908_3
    clear hi908_3 hl908_3
    have HR908_4 := Aside0.mk hi908_4
    have HC908_4 := Aside0.mk hl908_4
    clear hi908_4 hl908_4
    replace p908 := eq_true p908
    replace q908 := eq_true q908
    go_wp2_with (first | ((with_reducible refine gate_callee (f := 22) rfl ?_); refine goesL_ (some 23) rfl rfl Tryd.func22 (by kernel_rfl) rfl #[.agg #[.slice A908_0 ((rd_T41 l0 x5_1).f0).length c908_0, .int .i64 ((rd_T41 l0 x5_1).f1.f0), .bool ((rd_T41 l0 x5_1).f1.f1), .slice A908_3 ((rd_T41 l0 x5_1).f2).length c908_3, .slice A908_4 ((rd_T41 l0 x5_1).f3).length c908_4], .int .i64 x1_1] rfl (by (try simp only [List.map_toArray, List.map_cons, List.map_nil]); first | done | rfl | (simp only [List.length_drop, List.length_take]; rfl)) ?_; (with_reducible refine (laws_szPsalm.calls _ _ ((rd_T41 l0 x5_1).f0) ((rd_T41 l0 x5_1).f1.f0) ((rd_T41 l0 x5_1).f1.f1) _ _ ((rd_T41 l0 x5_1).f2) _ _ ((rd_T41 l0 x5_1).f3) x1_1 t909 _ ?side1 ?side2 ?side3 ?side4 ?side5 ?side6 A6.out).mono ?_); (case side1 => repeat (first | exact (Kd.C_below HR908_0.out HB.out) | (with_reducible refine Kd.C_alloc ?_ _) | (with_reducible refine Kd.C_drewN ?_ _) | (with_reducible refine Kd.C_drew ?_))); (case side2 => exact HC908_0.out); (case side3 => repeat (first | exact (Kd.C_below HR908_3.out HB.out) | (with_reducible refine Kd.C_alloc ?_ _) | (with_reducible refine Kd.C_drewN ?_ _) | (with_reducible refine Kd.C_drew ?_))); (case side4 => exact HC908_3.out); (case side5 => repeat (first | exact (Kd.C_below HR908_4.out HB.out) | (with_reducible refine Kd.C_alloc ?_ _) | (with_reducible refine Kd.C_drewN ?_ _) | (with_reducible refine Kd.C_drew ?_))); (case side6 => exact HC908_4.out); rintro e w8 ⟨rfl, hb⟩; refine ⟨_, rfl, ?_⟩; have n0_ := Aside0.mk (below_step (by repeat (first | (with_reducible first | exact HB.out | apply below_alloc | apply pw_below_drewN | apply below_drew1) | exact HB.out)) hb); clear HB; have HB := n0_; clear n0_; (try clear hb); (try clear hb2); (try clear hk); (try clear hi)))
    go_ret
    exact ⟨by first | rfl | (simp [errW_none, errW_some] <;> rfl) | (simp [*, errW_none, errW_some] <;> rfl), by repeat (first | (with_reducible first | exact HB.out | apply below_alloc | apply pw_below_drewN | apply below_drew1) | exact HB.out)⟩
   rw [if_neg c7] at H
   have c7b0 : decide (t909 < 0) = false := decide_eq_false c7
   clear c7
   have H' := Aside0.mk H
   clear H
   have p908 : 0 ≤ (x5_1 : Int) := of_decide_eq_true (by first | (with_reducible assumption) | assumption)
   have q908 : x5_1 < (l0.length : Int) := of_decide_eq_true (by first | (with_reducible assumption) | assumption)
   obtain ⟨ad908, A908_0, c908_0, A908_3, c908_3, A908_4, c908_4, e908, hx908_0, hx908_1, hx908_2, hx908_3, hx908_4, hl908_0, hi908_0, hl908_3, hi908_3, hl908_4, hi908_4⟩ := at_T41 HR0.out x5_1 p908 q908
   cases e908
   replace hx908_0 := (HB.out.cell (World.block_lt_of_cell? w _ hx908_0)).trans hx908_0
   replace hx908_1 := (HB.out.cell (World.block_lt_of_cell? w _ hx908_1)).trans hx908_1
   replace hx908_2 := (HB.out.cell (World.block_lt_of_cell? w _ hx908_2)).trans hx908_2
   replace hx908_3 := (HB.out.cell (World.block_lt_of_cell? w _ hx908_3)).trans hx908_3
   replace hx908_4 := (HB.out.cell (World.block_lt_of_cell? w _ hx908_4)).trans hx908_4
   have HR908_0 := Aside0.mk hi908_0
   have HC908_0 := Aside0.mk hl908_0
   clear hi908_0 hl908_0
   have HR908_3 := Aside0.mk hi908_3
   have HC908_3 := Aside0.mk hl908_3
   clear hi908_3 hl908_3
   have HR908_4 := Aside0.mk hi908_4
   have HC908_4 := Aside0.mk hl908_4
   clear hi908_4 hl908_4
   replace p908 := eq_true p908
   replace q908 := eq_true q908
   go_wp2_with (first | ((with_reducible refine gate_callee (f := 22) rfl ?_); refine goesL_ (some 23) rfl rfl Tryd.func22 (by kernel_rfl) rfl #[.agg #[.slice A908_0 ((rd_T41 l0 x5_1).f0).length c908_0, .int .i64 ((rd_T41 l0 x5_1).f1.f0), .bool ((rd_T41 l0 x5_1).f1.f1), .slice A908_3 ((rd_T41 l0 x5_1).f2).length c908_3, .slice A908_4 ((rd_T41 l0 x5_1).f3).length c908_4], .int .i64 x1_1] rfl (by (try simp only [List.map_toArray, List.map_cons, List.map_nil]); first | done | rfl | (simp only [List.length_drop, List.length_take]; rfl)) ?_; (with_reducible refine (laws_szPsalm.calls _ _ ((rd_T41 l0 x5_1).f0) ((rd_T41 l0 x5_1).f1.f0) ((rd_T41 l0 x5_1).f1.f1) _ _ ((rd_T41 l0 x5_1).f2) _ _ ((rd_T41 l0 x5_1).f3) x1_1 t909 _ ?side1 ?side2 ?side3 ?side4 ?side5 ?side6 A6.out).mono ?_); (case side1 => repeat (first | exact (Kd.C_below HR908_0.out HB.out) | (with_reducible refine Kd.C_alloc ?_ _) | (with_reducible refine Kd.C_drewN ?_ _) | (with_reducible refine Kd.C_drew ?_))); (case side2 => exact HC908_0.out); (case side3 => repeat (first | exact (Kd.C_below HR908_3.out HB.out) | (with_reducible refine Kd.C_alloc ?_ _) | (with_reducible refine Kd.C_drewN ?_ _) | (with_reducible refine Kd.C_drew ?_))); (case side4 => exact HC908_3.out); (case side5 => repeat (first | exact (Kd.C_below HR908_4.out HB.out) | (with_reducible refine Kd.C_alloc ?_ _) | (with_reducible refine Kd.C_drewN ?_ _) | (with_reducible refine Kd.C_drew ?_))); (case side6 => exact HC908_4.out); rintro e w9 ⟨rfl, hb⟩; refine ⟨_, rfl, ?_⟩; have n0_ := Aside0.mk (below_step (by repeat (first | (with_reducible first | exact HB.out | apply below_alloc | apply pw_below_drewN | apply below_drew1) | exact HB.out)) hb); clear HB; have HB := n0_; clear n0_; (try clear hb); (try clear hb2); (try clear hk); (try clear hi)))
   go_roundg k1
   case measure => have := HK1.out; omega
   case rel => exact ⟨(t909), (wrap64 (x5_1 + 1)), (by first | rfl | (simp; done) | (simp [*]; done)), (by first | rfl | (simp; done) | (simp [*]; done)), H', ⟨by have := HK1.out; omega⟩, ⟨by repeat (first | (with_reducible first | exact HB.out | apply below_alloc | apply pw_below_drewN | apply below_drew1) | exact HB.out)⟩⟩
end Go.Proofs.YtdgmkfbmeaalpaaDoor.E
end
section
namespace Go.Proofs.YtdgmkfbmeaalpaaDoor.E
open Go.RowKit Go.Proofs.YtdgmkfbmeaalpaaDoorW.PrintWords Go.Proofs.YtdgmkfbmeaalpaaDoorW.PrintLast Go.Proofs.YtdgmkfbmeaalpaaDoorW.PrintMore
attribute [local go_sem] max2_int min2_int max_two min_two max_three min_three max_four min_four
set_option linter.unusedVariables false
set_option linter.unusedSimpArgs false
attribute [local go_sem] str_leq_ str_gtr_ str_geq_
def laws_toPsalm.f (k : Nat) (l0_0 : List (S39)) (a0_1 : Int) (a0_2 : Bool) (l0_3 : List (S39)) (l0_4 : List (S39)) : Option ((List (S25)) × Int × Bool × (List (S25)) × (List (S25))) := (laws_toToneS.f k l0_0).bind fun t331 => ((laws_toTone.f a0_1 a0_2).bind fun bt334 => ((laws_toToneS.f k l0_3).bind fun t336 => ((laws_toToneS.f k l0_4).bind fun t339 => (some (t331, bt334.1, bt334.2, t336, t339)))))
set_option maxHeartbeats 8000000 in
set_option maxRecDepth 100000 in
theorem laws_toPsalm.calls (k : Nat) (A0_0 : Option Addr) (c0_0 : Nat) (l0_0 : List (S39)) (a0_1 : Int) (a0_2 : Bool) (A0_3 : Option Addr) (c0_3 : Nat) (l0_3 : List (S39)) (A0_4 : Option Addr) (c0_4 : Nat) (l0_4 : List (S39)) (r1 : List (S25)) (r2 : Int) (r3 : Bool) (r4 : List (S25)) (r5 : List (S25)) (w : World) (hr0_0 : Kd.C k39 w A0_0 l0_0.length l0_0) (hc0_0 : l0_0.length ≤ c0_0) (hr0_3 : Kd.C k39 w A0_3 l0_3.length l0_3) (hc0_3 : l0_3.length ≤ c0_3) (hr0_4 : Kd.C k39 w A0_4 l0_4.length l0_4) (hc0_4 : l0_4.length ≤ c0_4) (h : laws_toPsalm.f k l0_0 a0_1 a0_2 l0_3 l0_4 = some (r1, r2, r3, r4, r5)) :
  Calls Tryd.prog 24 #[.agg #[.slice A0_0 l0_0.length c0_0, .int .i64 a0_1, .bool a0_2, .slice A0_3 l0_3.length c0_3, .slice A0_4 l0_4.length c0_4]] w fun e w' => ∃ v0_ v3_ v4_ : Value, e = .returned (.agg #[v0_, .int .i64 r2, .bool r3, v3_, v4_]) ∧ Kd.R k25 25 w' w.heap.size (fun k_ => some k_ ≠ (v3_ : Value).ownBlock ∧ some k_ ≠ (v4_ : Value).ownBlock) v0_ r1 ∧ Kd.R k25 25 w' w.heap.size (fun k_ => some k_ ≠ (v0_ : Value).ownBlock ∧ some k_ ≠ (v4_ : Value).ownBlock) v3_ r4 ∧ Kd.R k25 25 w' w.heap.size (fun k_ => some k_ ≠ (v0_ : Value).ownBlock ∧ some k_ ≠ (v3_ : Value).ownBlock) v4_ r5 ∧ Below w.heap.size w w' := by
 have hu41 := Tryd.underlying41
 have hu27 := Tryd.underlying27
 have hu39 := Tryd.underlying39
 have hu25 := Tryd.underlying25
 have HR0_0 := Aside0.mk hr0_0
 have HC0_0 := Aside0.mk hc0_0
 clear hr0_0 hc0_0
 have HR0_3 := Aside0.mk hr0_3
 have HC0_3 := Aside0.mk hc0_3
 clear hr0_3 hc0_3
 have HR0_4 := Aside0.mk hr0_4
 have HC0_4 := Aside0.mk hc0_4
 clear hr0_4 hc0_4
 have HB := Aside0.mk (Below.refl w.heap.size w)
 have H : ((laws_toToneS.f k l0_0).bind fun t331 => ((laws_toTone.f a0_1 a0_2).bind fun bt334 => ((laws_toToneS.f k l0_3).bind fun t336 => ((laws_toToneS.f k l0_4).bind fun t339 => (some (t331, bt334.1, bt334.2, t336, t339)))))) = some (r1, r2, r3, r4, r5) := h
 clear h
 replace H := Option.bind_eq_some_iff.mp H
 obtain ⟨t331, A20, H⟩ := H
 replace H : ((laws_toTone.f a0_1 a0_2).bind fun bt334 => ((laws_toToneS.f k l0_3).bind fun t336 => ((laws_toToneS.f k l0_4).bind fun t339 => (some (t331, bt334.1, bt334.2, t336, t339))))) = some (r1, r2, r3, r4, r5) := H
 have A2 := Aside0.mk A20
 clear A20
 replace H := Option.bind_eq_some_iff.mp H
 obtain ⟨⟨t334, t335⟩, A30, H⟩ := H
 replace H : ((laws_toToneS.f k l0_3).bind fun t336 => ((laws_toToneS.f k l0_4).bind fun t339 => (some (t331, t334, t335, t336, t339)))) = some (r1, r2, r3, r4, r5) := H
 have A3 := Aside0.mk A30
 clear A30
 replace H := Option.bind_eq_some_iff.mp H
 obtain ⟨t336, A40, H⟩ := H
 replace H : ((laws_toToneS.f k l0_4).bind fun t339 => (some (t331, t334, t335, t336, t339))) = some (r1, r2, r3, r4, r5) := H
 have A4 := Aside0.mk A40
 clear A40
 replace H := Option.bind_eq_some_iff.mp H
 obtain ⟨t339, A50, H⟩ := H
 replace H : (some (t331, t334, t335, t336, t339)) = some (r1, r2, r3, r4, r5) := H
 have A5 := Aside0.mk A50
 clear A50
 simp only [Option.some.injEq, Prod.mk.injEq] at H
 obtain ⟨rfl, rfl, rfl, rfl, rfl⟩ := H
 go_enter Tryd.func24, Tryd.ntmps24
 go_wp2_with (first | ((with_reducible refine gate_dst (N := 1) rfl ?_); refine box_event ?hg (N := 1) ?hd (cs := #[.slice A0_0 l0_0.length c0_0, .int .i64 a0_1, .bool a0_2, .slice A0_3 l0_3.length c0_3, .slice A0_4 l0_4.length c0_4]) (t := 41) ?hr ?_; (case hd => rfl); (case hg => rfl); (case hr => first | (go_simp; done) | (go_simp; rfl)); intro gb328 hg w6 hbox hb; have n0_ := Aside0.mk (below_step (by repeat (first | (with_reducible first | exact HB.out | apply below_alloc | apply pw_below_drewN | apply below_drew1) | exact HB.out)) hb); have n1_ := Aside0.mk (hbox); have n2_ := Aside0.mk ((by rw [hg]; exact (below_size (by repeat (first | (with_reducible first | exact HB.out | apply below_alloc | apply pw_below_drewN | apply below_drew1) | exact HB.out))) : w.heap.size ≤ gb328)); have n3_ := Aside0.mk ((by rw [hg]; exact (below_size (by repeat (first | (with_reducible first | exact HB.out | apply below_alloc | apply pw_below_drewN | apply below_drew1) | exact HB.out))) : w.heap.size ≤ gb328)); clear HB; have HB := n0_; have BK328 := n1_; have GW328 := n2_; have GE328 := n3_; clear n0_ n1_ n2_ n3_; clear hb hbox hg) | ((with_reducible refine gate_dst (N := 2) rfl ?_); refine box_event ?hg (N := 2) ?hd (cs := #[.slice none 0 0, .int .i64 0, .bool false, .slice none 0 0, .slice none 0 0]) (t := 27) ?hr ?_; (case hd => rfl); (case hg => rfl); (case hr => first | (go_simp; done) | (go_simp; rfl)); intro gb329 hg w7 hbox hb; have n0_ := Aside0.mk (blk_below (g := gb328) (o := .cells #[.slice A0_0 l0_0.length c0_0, .int .i64 a0_1, .bool a0_2, .slice A0_3 l0_3.length c0_3, .slice A0_4 l0_4.length c0_4] 41 (0, 0)) (by (with_reducible repeat (first | refine blk_drewN ?_ _ | refine blk_drew ?_ | refine blk_alloc ?_ _)); exact BK328.out) hb); have n1_ := Aside0.mk (below_step (by repeat (first | (with_reducible first | exact HB.out | apply below_alloc | apply pw_below_drewN | apply below_drew1 | refine below_set ?_ GE328.out) | exact HB.out)) hb); have n2_ := Aside0.mk (hbox); have n3_ := Aside0.mk ((by rw [hg]; exact (below_size (by repeat (first | (with_reducible first | exact HB.out | apply below_alloc | apply pw_below_drewN | apply below_drew1 | refine below_set ?_ GE328.out) | exact HB.out))) : w.heap.size ≤ gb329)); have n4_ := Aside0.mk ((by rw [hg]; exact (below_size (by repeat (first | (with_reducible first | exact HB.out | apply below_alloc | apply pw_below_drewN | apply below_drew1 | refine below_set ?_ GE328.out) | exact HB.out))) : w.heap.size ≤ gb329)); have n5_ := Aside0.mk ((by rw [hg]; exact Nat.ne_of_lt (blk_lt (g := gb328) (o := .cells #[.slice A0_0 l0_0.length c0_0, .int .i64 a0_1, .bool a0_2, .slice A0_3 l0_3.length c0_3, .slice A0_4 l0_4.length c0_4] 41 (0, 0)) (by (with_reducible repeat (first | refine blk_drewN ?_ _ | refine blk_drew ?_ | refine blk_alloc ?_ _)); exact BK328.out)) : gb328 ≠ gb329)); have n6_ := Aside0.mk ((by rw [hg]; exact Nat.ne_of_gt (blk_lt (g := gb328) (o := .cells #[.slice A0_0 l0_0.length c0_0, .int .i64 a0_1, .bool a0_2, .slice A0_3 l0_3.length c0_3, .slice A0_4 l0_4.length c0_4] 41 (0, 0)) (by (with_reducible repeat (first | refine blk_drewN ?_ _ | refine blk_drew ?_ | refine blk_alloc ?_ _)); exact BK328.out)) : gb329 ≠ gb328)); clear BK328; clear HB; have BK328 := n0_; have HB := n1_; have BK329 := n2_; have GW329 := n3_; have GE329 := n4_; have NB328_329 := n5_; have NB329_328 := n6_; clear n0_ n1_ n2_ n3_ n4_ n5_ n6_; clear hb hbox hg) | ((with_reducible refine gate_dst (N := 3) rfl ?_); refine box_event ?hg (N := 3) ?hd (cs := #[.slice none 0 0, .int .i64 0, .bool false, .slice none 0 0, .slice none 0 0]) (t := 27) ?hr ?_; (case hd => rfl); (case hg => rfl); (case hr => first | (go_simp; done) | (go_simp; rfl)); intro gb330 hg w8 hbox hb; have n0_ := Aside0.mk (blk_below (g := gb328) (o := .cells #[.slice A0_0 l0_0.length c0_0, .int .i64 a0_1, .bool a0_2, .slice A0_3 l0_3.length c0_3, .slice A0_4 l0_4.length c0_4] 41 (0, 0)) (by (with_reducible repeat (first | refine blk_drewN ?_ _ | refine blk_drew ?_ | refine blk_alloc ?_ _)); exact BK328.out) hb); have n1_ := Aside0.mk (blk_below (g := gb329) (o := .cells #[.slice none 0 0, .int .i64 0, .bool false, .slice none 0 0, .slice none 0 0] 27 (0, 0)) (by (with_reducible repeat (first | refine blk_drewN ?_ _ | refine blk_drew ?_ | refine blk_alloc ?_ _)); exact BK329.out) hb); have n2_ := Aside0.mk (below_step (by repeat (first | (with_reducible first | exact HB.out | apply below_alloc | apply pw_below_drewN | apply below_drew1 | refine below_set ?_ GE328.out | refine below_set ?_ GE329.out) | exact HB.out)) hb); have n3_ := Aside0.mk (hbox); have n4_ := Aside0.mk ((by rw [hg]; exact (below_size (by repeat (first | (with_reducible first | exact HB.out | apply below_alloc | apply pw_below_drewN | apply below_drew1 | refine below_set ?_ GE328.out | refine below_set ?_ GE329.out) | exact HB.out))) : w.heap.size ≤ gb330)); have n5_ := Aside0.mk ((by rw [hg]; exact (below_size (by repeat (first | (with_reducible first | exact HB.out | apply below_alloc | apply pw_below_drewN | apply below_drew1 | refine below_set ?_ GE328.out | refine below_set ?_ GE329.out) | exact HB.out))) : w.heap.size ≤ gb330)); have n6_ := Aside0.mk ((by rw [hg]; exact Nat.ne_of_lt (blk_lt (g := gb328) (o := .cells #[.slice A0_0 l0_0.length c0_0, .int .i64 a0_1, .bool a0_2, .slice A0_3 l0_3.length c0_3, .slice A0_4 l0_4.length c0_4] 41 (0, 0)) (by (with_reducible repeat (first | refine blk_drewN ?_ _ | refine blk_drew ?_ | refine blk_alloc ?_ _)); exact BK328.out)) : gb328 ≠ gb330)); have n7_ := Aside0.mk ((by rw [hg]; exact Nat.ne_of_gt (blk_lt (g := gb328) (o := .cells #[.slice A0_0 l0_0.length c0_0, .int .i64 a0_1, .bool a0_2, .slice A0_3 l0_3.length c0_3, .slice A0_4 l0_4.length c0_4] 41 (0, 0)) (by (with_reducible repeat (first | refine blk_drewN ?_ _ | refine blk_drew ?_ | refine blk_alloc ?_ _)); exact BK328.out)) : gb330 ≠ gb328)); have n8_ := Aside0.mk ((by rw [hg]; exact Nat.ne_of_lt (blk_lt (g := gb329) (o := .cells #[.slice none 0 0, .int .i64 0, .bool false, .slice none 0 0, .slice none 0 0] 27 (0, 0)) (by (with_reducible repeat (first | refine blk_drewN ?_ _ | refine blk_drew ?_ | refine blk_alloc ?_ _)); exact BK329.out)) : gb329 ≠ gb330)); have n9_ := Aside0.mk ((by rw [hg]; exact Nat.ne_of_gt (blk_lt (g := gb329) (o := .cells #[.slice none 0 0, .int .i64 0, .bool false, .slice none 0 0, .slice none 0 0] 27 (0, 0)) (by (with_reducible repeat (first | refine blk_drewN ?_ _ | refine blk_drew ?_ | refine blk_alloc ?_ _)); exact BK329.out)) : gb330 ≠ gb329)); clear BK328; clear BK329; clear HB; have BK328 := n0_; have BK329 := n1_; have HB := n2_; have BK330 := n3_; have GW330 := n4_; have GE330 := n5_; have NB328_330 := n6_; have NB330_328 := n7_; have NB329_330 := n8_; have NB330_329 := n9_; clear n0_ n1_ n2_ n3_ n4_ n5_ n6_ n7_ n8_ n9_; clear hb hbox hg; have hnb9 := NB328_329.out; have hnc9 := NB329_328.out; have hnb10 := NB328_330.out; have hnc10 := NB330_328.out; have hcz11_0 : w8.cell? ⟨gb328, 0, none⟩ = some (.slice A0_0 l0_0.length c0_0) := (blk_cell BK328.out 0).trans rfl; have hcz11_1 : w8.cell? ⟨gb328, 1, none⟩ = some (.int .i64 a0_1) := (blk_cell BK328.out 1).trans rfl; have hcz11_2 : w8.cell? ⟨gb328, 2, none⟩ = some (.bool a0_2) := (blk_cell BK328.out 2).trans rfl; have hcz11_3 : w8.cell? ⟨gb328, 3, none⟩ = some (.slice A0_3 l0_3.length c0_3) := (blk_cell BK328.out 3).trans rfl; have hcz11_4 : w8.cell? ⟨gb328, 4, none⟩ = some (.slice A0_4 l0_4.length c0_4) := (blk_cell BK328.out 4).trans rfl; have hfz11_0 := blk_frozen BK328.out 0; have hfz11_1 := blk_frozen BK328.out 1; have hfz11_2 := blk_frozen BK328.out 2; have hfz11_3 := blk_frozen BK328.out 3; have hfz11_4 := blk_frozen BK328.out 4) | ((with_reducible refine gate_callee (f := 49) rfl ?_); refine goesL_ (some 6) rfl rfl Tryd.func49 (by kernel_rfl) rfl #[.slice A0_0 l0_0.length c0_0] rfl (by (try simp only [List.map_toArray, List.map_cons, List.map_nil]); first | done | rfl | (simp only [List.length_drop, List.length_take]; rfl)) ?_; (with_reducible refine (laws_toToneS.calls k _ _ l0_0 t331 _ ?side1 ?side2 A2.out).mono ?_); (case side1 => repeat (first | exact (Kd.C_below HR0_0.out HB.out) | (with_reducible refine Kd.C_alloc ?_ _) | (with_reducible refine Kd.C_drewN ?_ _) | (with_reducible refine Kd.C_drew ?_))); (case side2 => exact HC0_0.out); rintro e w12 ⟨v332, rfl, ho0, hb⟩; refine ⟨_, rfl, ?_⟩; have n0_ := Aside0.mk (Kd.R_lower ho0 (below_size (by repeat (first | (with_reducible first | exact HB.out | apply below_alloc | apply pw_below_drewN | apply below_drew1 | refine below_set ?_ GE328.out | refine below_set ?_ GE329.out | refine below_set ?_ GE330.out) | exact HB.out)))); have n1_ := Aside0.mk (blk_below (g := gb328) (o := .cells #[.slice A0_0 l0_0.length c0_0, .int .i64 a0_1, .bool a0_2, .slice A0_3 l0_3.length c0_3, .slice A0_4 l0_4.length c0_4] 41 (0, 0)) (by (with_reducible repeat (first | refine blk_drewN ?_ _ | refine blk_drew ?_ | refine blk_alloc ?_ _)); exact BK328.out) hb); have n2_ := Aside0.mk (blk_below (g := gb329) (o := .cells #[.slice none 0 0, .int .i64 0, .bool false, .slice none 0 0, .slice none 0 0] 27 (0, 0)) (by (with_reducible repeat (first | refine blk_drewN ?_ _ | refine blk_drew ?_ | refine blk_alloc ?_ _)); exact BK329.out) hb); have n3_ := Aside0.mk (blk_below (g := gb330) (o := .cells #[.slice none 0 0, .int .i64 0, .bool false, .slice none 0 0, .slice none 0 0] 27 (0, 0)) (by (with_reducible repeat (first | refine blk_drewN ?_ _ | refine blk_drew ?_ | refine blk_alloc ?_ _)); exact BK330.out) hb); have n4_ := Aside0.mk (below_step (by repeat (first | (with_reducible first | exact HB.out | apply below_alloc | apply pw_below_drewN | apply below_drew1 | refine below_set ?_ GE328.out | refine below_set ?_ GE329.out | refine below_set ?_ GE330.out) | exact HB.out)) hb); clear BK328; clear BK329; clear BK330; clear HB; have HO333 := n0_; have BK328 := n1_; have BK329 := n2_; have BK330 := n3_; have HB := n4_; clear n0_ n1_ n2_ n3_ n4_; (try clear hb); (try clear hb2); (try clear hk); (try clear hi); (try clear ho0); obtain ⟨Ao13, co13, eo13⟩ := Kd.R_slice HO333.out; subst eo13; have hnb14 := NB330_329.out; have hnc14 := NB329_330.out; have hcz15_0 : w12.cell? ⟨gb330, 0, none⟩ = some (.slice none 0 0) := (blk_cell BK330.out 0).trans rfl; have hcz15_1 : w12.cell? ⟨gb330, 1, none⟩ = some (.int .i64 0) := (blk_cell BK330.out 1).trans rfl; have hcz15_2 : w12.cell? ⟨gb330, 2, none⟩ = some (.bool false) := (blk_cell BK330.out 2).trans rfl; have hcz15_3 : w12.cell? ⟨gb330, 3, none⟩ = some (.slice none 0 0) := (blk_cell BK330.out 3).trans rfl; have hcz15_4 : w12.cell? ⟨gb330, 4, none⟩ = some (.slice none 0 0) := (blk_cell BK330.out 4).trans rfl; have hfz15_0 := blk_frozen BK330.out 0; have hfz15_1 := blk_frozen BK330.out 1; have hfz15_2 := blk_frozen BK330.out 2; have hfz15_3 := blk_frozen BK330.out 3; have hfz15_4 := blk_frozen BK330.out 4; have hcz16_0 : w12.cell? ⟨gb328, 0, none⟩ = some (.slice A0_0 l0_0.length c0_0) := (blk_cell BK328.out 0).trans rfl; have hcz16_1 : w12.cell? ⟨gb328, 1, none⟩ = some (.int .i64 a0_1) := (blk_cell BK328.out 1).trans rfl; have hcz16_2 : w12.cell? ⟨gb328, 2, none⟩ = some (.bool a0_2) := (blk_cell BK328.out 2).trans rfl; have hcz16_3 : w12.cell? ⟨gb328, 3, none⟩ = some (.slice A0_3 l0_3.length c0_3) := (blk_cell BK328.out 3).trans rfl; have hcz16_4 : w12.cell? ⟨gb328, 4, none⟩ = some (.slice A0_4 l0_4.length c0_4) := (blk_cell BK328.out 4).trans rfl; have hfz16_0 := blk_frozen BK328.out 0; have hfz16_1 := blk_frozen BK328.out 1; have hfz16_2 := blk_frozen BK328.out 2; have hfz16_3 := blk_frozen BK328.out 3; have hfz16_4 := blk_frozen BK328.out 4) | ((with_reducible refine gate_callee (f := 67) rfl ?_); refine goesL_ (some 10) rfl rfl Tryd.func67 (by kernel_rfl) rfl #[.agg #[.int .i64 a0_1, .bool a0_2]] rfl (by (try simp only [List.map_toArray, List.map_cons, List.map_nil]); first | done | rfl | (simp only [List.length_drop, List.length_take]; rfl)) ?_; (with_reducible refine (laws_toTone.calls a0_1 a0_2 t334 t335 _ A3.out).mono ?_); rintro e w17 ⟨rfl, hb⟩; refine ⟨_, rfl, ?_⟩; have n0_ := Aside0.mk (Kd.R_below (by (with_reducible repeat (first | apply Kd.R_alloc | apply Kd.R_drewN | apply Kd.R_drew)); exact (Kd.R_mono (Kd.R_far (p := ⟨gb330, 0, none⟩) (Kd.R_types HO333.out BK330.out (by decide)) (fun _ hk => hk.2) (.slice Ao13 t331.length co13)) (fun _ h_ => h_.1))) hb); have n1_ := Aside0.mk (blk_below (g := gb328) (o := .cells #[.slice A0_0 l0_0.length c0_0, .int .i64 a0_1, .bool a0_2, .slice A0_3 l0_3.length c0_3, .slice A0_4 l0_4.length c0_4] 41 (0, 0)) (by (with_reducible repeat (first | refine blk_drewN ?_ _ | refine blk_drew ?_ | refine blk_alloc ?_ _)); refine blk_far ?_ NB328_330.out _; (with_reducible repeat (first | refine blk_drewN ?_ _ | refine blk_drew ?_ | refine blk_alloc ?_ _)); exact BK328.out) hb); have n2_ := Aside0.mk (blk_below (g := gb329) (o := .cells #[.slice none 0 0, .int .i64 0, .bool false, .slice none 0 0, .slice none 0 0] 27 (0, 0)) (by (with_reducible repeat (first | refine blk_drewN ?_ _ | refine blk_drew ?_ | refine blk_alloc ?_ _)); refine blk_far ?_ NB329_330.out _; (with_reducible repeat (first | refine blk_drewN ?_ _ | refine blk_drew ?_ | refine blk_alloc ?_ _)); exact BK329.out) hb); have n3_ := Aside0.mk (blk_below (g := gb330) (o := .cells #[.slice Ao13 t331.length co13, .int .i64 0, .bool false, .slice none 0 0, .slice none 0 0] 27 (0, 0)) (by (with_reducible repeat (first | refine blk_drewN ?_ _ | refine blk_drew ?_ | refine blk_alloc ?_ _)); refine blk_put (cs := #[.slice none 0 0, .int .i64 0, .bool false, .slice none 0 0, .slice none 0 0]) ?_ 0 _ rfl; (with_reducible repeat (first | refine blk_drewN ?_ _ | refine blk_drew ?_ | refine blk_alloc ?_ _)); exact BK330.out) hb); have n4_ := Aside0.mk (below_step (by repeat (first | (with_reducible first | exact HB.out | apply below_alloc | apply pw_below_drewN | apply below_drew1 | refine below_set ?_ GE328.out | refine below_set ?_ GE329.out | refine below_set ?_ GE330.out) | exact HB.out)) hb); clear HO333; clear BK328; clear BK329; clear BK330; clear HB; have HO333 := n0_; have BK328 := n1_; have BK329 := n2_; have BK330 := n3_; have HB := n4_; clear n0_ n1_ n2_ n3_ n4_; (try clear hb); (try clear hb2); (try clear hk); (try clear hi); have hcz18_0 : w17.cell? ⟨gb330, 0, none⟩ = some (.slice Ao13 t331.length co13) := (blk_cell BK330.out 0).trans rfl; have hcz18_1 : w17.cell? ⟨gb330, 1, none⟩ = some (.int .i64 0) := (blk_cell BK330.out 1).trans rfl; have hcz18_2 : w17.cell? ⟨gb330, 2, none⟩ = some (.bool false) := (blk_cell BK330.out 2).trans rfl; have hcz18_3 : w17.cell? ⟨gb330, 3, none⟩ = some (.slice none 0 0) := (blk_cell BK330.out 3).trans rfl; have hcz18_4 : w17.cell? ⟨gb330, 4, none⟩ = some (.slice none 0 0) := (blk_cell BK330.out 4).trans rfl; have hfz18_0 := blk_frozen BK330.out 0; have hfz18_1 := blk_frozen BK330.out 1; have hfz18_2 := blk_frozen BK330.out 2; have hfz18_3 := blk_frozen BK330.out 3; have hfz18_4 := blk_frozen BK330.out 4; have hcz19_0 : w17.cell? ⟨gb328, 0, none⟩ = some (.slice A0_0 l0_0.length c0_0) := (blk_cell BK328.out 0).trans rfl; have hcz19_1 : w17.cell? ⟨gb328, 1, none⟩ = some (.int .i64 a0_1) := (blk_cell BK328.out 1).trans rfl; have hcz19_2 : w17.cell? ⟨gb328, 2, none⟩ = some (.bool a0_2) := (blk_cell BK328.out 2).trans rfl; have hcz19_3 : w17.cell? ⟨gb328, 3, none⟩ = some (.slice A0_3 l0_3.length c0_3) := (blk_cell BK328.out 3).trans rfl; have hcz19_4 : w17.cell? ⟨gb328, 4, none⟩ = some (.slice A0_4 l0_4.length c0_4) := (blk_cell BK328.out 4).trans rfl; have hfz19_0 := blk_frozen BK328.out 0; have hfz19_1 := blk_frozen BK328.out 1; have hfz19_2 := blk_frozen BK328.out 2; have hfz19_3 := blk_frozen BK328.out 3; have hfz19_4 := blk_frozen BK328.out 4) | ((with_reducible refine gate_callee (f := 49) rfl ?_); refine goesL_ (some 14) rfl rfl Tryd.func49 (by kernel_rfl) rfl #[.slice A0_3 l0_3.length c0_3] rfl (by (try simp only [List.map_toArray, List.map_cons, List.map_nil]); first | done | rfl | (simp only [List.length_drop, List.length_take]; rfl)) ?_; (with_reducible refine (laws_toToneS.calls k _ _ l0_3 t336 _ ?side1 ?side2 A4.out).mono ?_); (case side1 => exact Kd.C_below HR0_3.out (by repeat (first | (with_reducible first | exact HB.out | apply below_alloc | apply pw_below_drewN | apply below_drew1 | refine below_set ?_ GE328.out | refine below_set ?_ GE329.out | refine below_set ?_ GE330.out) | exact HB.out))); (case side2 => exact HC0_3.out); rintro e w20 ⟨v337, rfl, ho0, hb⟩; refine ⟨_, rfl, ?_⟩; have n0_ := Aside0.mk (Kd.R_elder' (by (with_reducible repeat (first | apply Kd.R_alloc | apply Kd.R_drewN | apply Kd.R_drew)); exact (Kd.R_mono (Kd.R_far (p := ⟨gb330, 2, none⟩) (Kd.R_far (p := ⟨gb330, 1, none⟩) (Kd.R_types HO333.out BK330.out (by decide)) (fun _ hk => hk.2) (.int .i64 t334)) (fun _ hk => hk.2) (.bool t335)) (fun _ h_ => h_.1))) (Kd.R_base ho0) hb); have n1_ := Aside0.mk (Kd.R_lower (Kd.R_new' ho0 (Kd.R_lt (by (with_reducible repeat (first | apply Kd.R_alloc | apply Kd.R_drewN | apply Kd.R_drew)); exact (Kd.R_mono (Kd.R_far (p := ⟨gb330, 2, none⟩) (Kd.R_far (p := ⟨gb330, 1, none⟩) (Kd.R_types HO333.out BK330.out (by decide)) (fun _ hk => hk.2) (.int .i64 t334)) (fun _ hk => hk.2) (.bool t335)) (fun _ h_ => h_.1))))) (below_size (by repeat (first | (with_reducible first | exact HB.out | apply below_alloc | apply pw_below_drewN | apply below_drew1 | refine below_set ?_ GE328.out | refine below_set ?_ GE329.out | refine below_set ?_ GE330.out) | exact HB.out)))); have n2_ := Aside0.mk (blk_below (g := gb328) (o := .cells #[.slice A0_0 l0_0.length c0_0, .int .i64 a0_1, .bool a0_2, .slice A0_3 l0_3.length c0_3, .slice A0_4 l0_4.length c0_4] 41 (0, 0)) (by (with_reducible repeat (first | refine blk_drewN ?_ _ | refine blk_drew ?_ | refine blk_alloc ?_ _)); refine blk_far ?_ NB328_330.out _; (with_reducible repeat (first | refine blk_drewN ?_ _ | refine blk_drew ?_ | refine blk_alloc ?_ _)); refine blk_far ?_ NB328_330.out _; (with_reducible repeat (first | refine blk_drewN ?_ _ | refine blk_drew ?_ | refine blk_alloc ?_ _)); exact BK328.out) hb); have n3_ := Aside0.mk (blk_below (g := gb329) (o := .cells #[.slice none 0 0, .int .i64 0, .bool false, .slice none 0 0, .slice none 0 0] 27 (0, 0)) (by (with_reducible repeat (first | refine blk_drewN ?_ _ | refine blk_drew ?_ | refine blk_alloc ?_ _)); refine blk_far ?_ NB329_330.out _; (with_reducible repeat (first | refine blk_drewN ?_ _ | refine blk_drew ?_ | refine blk_alloc ?_ _)); refine blk_far ?_ NB329_330.out _; (with_reducible repeat (first | refine blk_drewN ?_ _ | refine blk_drew ?_ | refine blk_alloc ?_ _)); exact BK329.out) hb); have n4_ := Aside0.mk (blk_below (g := gb330) (o := .cells #[.slice Ao13 t331.length co13, .int .i64 t334, .bool t335, .slice none 0 0, .slice none 0 0] 27 (0, 0)) (by (with_reducible repeat (first | refine blk_drewN ?_ _ | refine blk_drew ?_ | refine blk_alloc ?_ _)); refine blk_put (cs := #[.slice Ao13 t331.length co13, .int .i64 t334, .bool false, .slice none 0 0, .slice none 0 0]) ?_ 2 _ rfl; (with_reducible repeat (first | refine blk_drewN ?_ _ | refine blk_drew ?_ | refine blk_alloc ?_ _)); refine blk_put (cs := #[.slice Ao13 t331.length co13, .int .i64 0, .bool false, .slice none 0 0, .slice none 0 0]) ?_ 1 _ rfl; (with_reducible repeat (first | refine blk_drewN ?_ _ | refine blk_drew ?_ | refine blk_alloc ?_ _)); exact BK330.out) hb); have n5_ := Aside0.mk (below_step (by repeat (first | (with_reducible first | exact HB.out | apply below_alloc | apply pw_below_drewN | apply below_drew1 | refine below_set ?_ GE328.out | refine below_set ?_ GE329.out | refine below_set ?_ GE330.out) | exact HB.out)) hb); clear HO333; clear BK328; clear BK329; clear BK330; clear HB; have HO333 := n0_; have HO338 := n1_; have BK328 := n2_; have BK329 := n3_; have BK330 := n4_; have HB := n5_; clear n0_ n1_ n2_ n3_ n4_ n5_; (try clear hb); (try clear hb2); (try clear hk); (try clear hi); (try clear ho0); obtain ⟨Ao21, co21, eo21⟩ := Kd.R_slice HO338.out; subst eo21; have hcz22_0 : w20.cell? ⟨gb330, 0, none⟩ = some (.slice Ao13 t331.length co13) := (blk_cell BK330.out 0).trans rfl; have hcz22_1 : w20.cell? ⟨gb330, 1, none⟩ = some (.int .i64 t334) := (blk_cell BK330.out 1).trans rfl; have hcz22_2 : w20.cell? ⟨gb330, 2, none⟩ = some (.bool t335) := (blk_cell BK330.out 2).trans rfl; have hcz22_3 : w20.cell? ⟨gb330, 3, none⟩ = some (.slice none 0 0) := (blk_cell BK330.out 3).trans rfl; have hcz22_4 : w20.cell? ⟨gb330, 4, none⟩ = some (.slice none 0 0) := (blk_cell BK330.out 4).trans rfl; have hfz22_0 := blk_frozen BK330.out 0; have hfz22_1 := blk_frozen BK330.out 1; have hfz22_2 := blk_frozen BK330.out 2; have hfz22_3 := blk_frozen BK330.out 3; have hfz22_4 := blk_frozen BK330.out 4; have hcz23_0 : w20.cell? ⟨gb328, 0, none⟩ = some (.slice A0_0 l0_0.length c0_0) := (blk_cell BK328.out 0).trans rfl; have hcz23_1 : w20.cell? ⟨gb328, 1, none⟩ = some (.int .i64 a0_1) := (blk_cell BK328.out 1).trans rfl; have hcz23_2 : w20.cell? ⟨gb328, 2, none⟩ = some (.bool a0_2) := (blk_cell BK328.out 2).trans rfl; have hcz23_3 : w20.cell? ⟨gb328, 3, none⟩ = some (.slice A0_3 l0_3.length c0_3) := (blk_cell BK328.out 3).trans rfl; have hcz23_4 : w20.cell? ⟨gb328, 4, none⟩ = some (.slice A0_4 l0_4.length c0_4) := (blk_cell BK328.out 4).trans rfl; have hfz23_0 := blk_frozen BK328.out 0; have hfz23_1 := blk_frozen BK328.out 1; have hfz23_2 := blk_frozen BK328.out 2; have hfz23_3 := blk_frozen BK328.out 3; have hfz23_4 := blk_frozen BK328.out 4) | ((with_reducible refine gate_callee (f := 49) rfl ?_); refine goesL_ (some 18) rfl rfl Tryd.func49 (by kernel_rfl) rfl #[.slice A0_4 l0_4.length c0_4] rfl (by (try simp only [List.map_toArray, List.map_cons, List.map_nil]); first | done | rfl | (simp only [List.length_drop, List.length_take]; rfl)) ?_; (with_reducible refine (laws_toToneS.calls k _ _ l0_4 t339 _ ?side1 ?side2 A5.out).mono ?_); (case side1 => exact Kd.C_below HR0_4.out (by repeat (first | (with_reducible first | exact HB.out | apply below_alloc | apply pw_below_drewN | apply below_drew1 | refine below_set ?_ GE328.out | refine below_set ?_ GE329.out | refine below_set ?_ GE330.out) | exact HB.out))); (case side2 => exact HC0_4.out); rintro e w24 ⟨v340, rfl, ho0, hb⟩; refine ⟨_, rfl, ?_⟩; have n0_ := Aside0.mk (Kd.R_elder' (by (with_reducible repeat (first | apply Kd.R_alloc | apply Kd.R_drewN | apply Kd.R_drew)); exact (Kd.R_mono (Kd.R_far (p := ⟨gb330, 3, none⟩) (Kd.R_types HO333.out BK330.out (by decide)) (fun _ hk => hk.2) (.slice Ao21 t336.length co21)) (fun _ h_ => h_.1))) (Kd.R_base ho0) hb); have n1_ := Aside0.mk (Kd.R_elder' (by (with_reducible repeat (first | apply Kd.R_alloc | apply Kd.R_drewN | apply Kd.R_drew)); exact (Kd.R_mono (Kd.R_far (p := ⟨gb330, 3, none⟩) (Kd.R_types HO338.out BK330.out (by decide)) (fun _ hk => hk.2) (.slice Ao21 t336.length co21)) (fun _ h_ => h_.1))) (Kd.R_base ho0) hb); have n2_ := Aside0.mk (Kd.R_lower (Kd.R_new' (Kd.R_new' ho0 (Kd.R_lt (by (with_reducible repeat (first | apply Kd.R_alloc | apply Kd.R_drewN | apply Kd.R_drew)); exact (Kd.R_mono (Kd.R_far (p := ⟨gb330, 3, none⟩) (Kd.R_types HO333.out BK330.out (by decide)) (fun _ hk => hk.2) (.slice Ao21 t336.length co21)) (fun _ h_ => h_.1))))) (Kd.R_lt (by (with_reducible repeat (first | apply Kd.R_alloc | apply Kd.R_drewN | apply Kd.R_drew)); exact (Kd.R_mono (Kd.R_far (p := ⟨gb330, 3, none⟩) (Kd.R_types HO338.out BK330.out (by decide)) (fun _ hk => hk.2) (.slice Ao21 t336.length co21)) (fun _ h_ => h_.1))))) (below_size (by repeat (first | (with_reducible first | exact HB.out | apply below_alloc | apply pw_below_drewN | apply below_drew1 | refine below_set ?_ GE328.out | refine below_set ?_ GE329.out | refine below_set ?_ GE330.out) | exact HB.out)))); have n3_ := Aside0.mk (blk_below (g := gb328) (o := .cells #[.slice A0_0 l0_0.length c0_0, .int .i64 a0_1, .bool a0_2, .slice A0_3 l0_3.length c0_3, .slice A0_4 l0_4.length c0_4] 41 (0, 0)) (by (with_reducible repeat (first | refine blk_drewN ?_ _ | refine blk_drew ?_ | refine blk_alloc ?_ _)); refine blk_far ?_ NB328_330.out _; (with_reducible repeat (first | refine blk_drewN ?_ _ | refine blk_drew ?_ | refine blk_alloc ?_ _)); exact BK328.out) hb); have n4_ := Aside0.mk (blk_below (g := gb329) (o := .cells #[.slice none 0 0, .int .i64 0, .bool false, .slice none 0 0, .slice none 0 0] 27 (0, 0)) (by (with_reducible repeat (first | refine blk_drewN ?_ _ | refine blk_drew ?_ | refine blk_alloc ?_ _)); refine blk_far ?_ NB329_330.out _; (with_reducible repeat (first | refine blk_drewN ?_ _ | refine blk_drew ?_ | refine blk_alloc ?_ _)); exact BK329.out) hb); have n5_ := Aside0.mk (blk_below (g := gb330) (o := .cells #[.slice Ao13 t331.length co13, .int .i64 t334, .bool t335, .slice Ao21 t336.length co21, .slice none 0 0] 27 (0, 0)) (by (with_reducible repeat (first | refine blk_drewN ?_ _ | refine blk_drew ?_ | refine blk_alloc ?_ _)); refine blk_put (cs := #[.slice Ao13 t331.length co13, .int .i64 t334, .bool t335, .slice none 0 0, .slice none 0 0]) ?_ 3 _ rfl; (with_reducible repeat (first | refine blk_drewN ?_ _ | refine blk_drew ?_ | refine blk_alloc ?_ _)); exact BK330.out) hb); have n6_ := Aside0.mk (below_step (by repeat (first | (with_reducible first | exact HB.out | apply below_alloc | apply pw_below_drewN | apply below_drew1 | refine below_set ?_ GE328.out | refine below_set ?_ GE329.out | refine below_set ?_ GE330.out) | exact HB.out)) hb); clear HO333; clear HO338; clear BK328; clear BK329; clear BK330; clear HB; have HO333 := n0_; have HO338 := n1_; have HO341 := n2_; have BK328 := n3_; have BK329 := n4_; have BK330 := n5_; have HB := n6_; clear n0_ n1_ n2_ n3_ n4_ n5_ n6_; (try clear hb); (try clear hb2); (try clear hk); (try clear hi); (try clear ho0); obtain ⟨Ao25, co25, eo25⟩ := Kd.R_slice HO341.out; subst eo25; have hcz26_0 : w24.cell? ⟨gb330, 0, none⟩ = some (.slice Ao13 t331.length co13) := (blk_cell BK330.out 0).trans rfl; have hcz26_1 : w24.cell? ⟨gb330, 1, none⟩ = some (.int .i64 t334) := (blk_cell BK330.out 1).trans rfl; have hcz26_2 : w24.cell? ⟨gb330, 2, none⟩ = some (.bool t335) := (blk_cell BK330.out 2).trans rfl; have hcz26_3 : w24.cell? ⟨gb330, 3, none⟩ = some (.slice Ao21 t336.length co21) := (blk_cell BK330.out 3).trans rfl; have hcz26_4 : w24.cell? ⟨gb330, 4, none⟩ = some (.slice none 0 0) := (blk_cell BK330.out 4).trans rfl; have hfz26_0 := blk_frozen BK330.out 0; have hfz26_1 := blk_frozen BK330.out 1; have hfz26_2 := blk_frozen BK330.out 2; have hfz26_3 := blk_frozen BK330.out 3; have hfz26_4 := blk_frozen BK330.out 4; have hcz27_0 : w24.cell? ⟨gb329, 0, none⟩ = some (.slice none 0 0) := (blk_cell BK329.out 0).trans rfl; have hcz27_1 : w24.cell? ⟨gb329, 1, none⟩ = some (.int .i64 0) := (blk_cell BK329.out 1).trans rfl; have hcz27_2 : w24.cell? ⟨gb329, 2, none⟩ = some (.bool false) := (blk_cell BK329.out 2).trans rfl; have hcz27_3 : w24.cell? ⟨gb329, 3, none⟩ = some (.slice none 0 0) := (blk_cell BK329.out 3).trans rfl; have hcz27_4 : w24.cell? ⟨gb329, 4, none⟩ = some (.slice none 0 0) := (blk_cell BK329.out 4).trans rfl; have hfz27_0 := blk_frozen BK329.out 0; have hfz27_1 := blk_frozen BK329.out 1; have hfz27_2 := blk_frozen BK329.out 2; have hfz27_3 := blk_frozen BK329.out 3; have hfz27_4 := blk_frozen BK329.out 4))
 refine bodyPost_ret (results_cell_row rfl _ _ gb329 27 #[.slice Ao13 t331.length co13, .int .i64 t334, .bool t335, .slice Ao21 t336.length co21, .slice Ao25 t339.length co25] (0, 0) _ rfl (by (with_reducible repeat (first | refine blk_drewN ?_ _ | refine blk_drew ?_ | refine blk_alloc ?_ _)); refine blk_put (cs := #[.slice Ao13 t331.length co13, .int .i64 t334, .bool t335, .slice Ao21 t336.length co21, .slice none 0 0]) ?_ 4 _ rfl; (with_reducible repeat (first | refine blk_drewN ?_ _ | refine blk_drew ?_ | refine blk_alloc ?_ _)); refine blk_put (cs := #[.slice Ao13 t331.length co13, .int .i64 t334, .bool t335, .slice none 0 0, .slice none 0 0]) ?_ 3 _ rfl; (with_reducible repeat (first | refine blk_drewN ?_ _ | refine blk_drew ?_ | refine blk_alloc ?_ _)); refine blk_put (cs := #[.slice Ao13 t331.length co13, .int .i64 t334, .bool false, .slice none 0 0, .slice none 0 0]) ?_ 2 _ rfl; (with_reducible repeat (first | refine blk_drewN ?_ _ | refine blk_drew ?_ | refine blk_alloc ?_ _)); refine blk_put (cs := #[.slice Ao13 t331.length co13, .int .i64 0, .bool false, .slice none 0 0, .slice none 0 0]) ?_ 1 _ rfl; (with_reducible repeat (first | refine blk_drewN ?_ _ | refine blk_drew ?_ | refine blk_alloc ?_ _)); refine blk_put (cs := #[.slice none 0 0, .int .i64 0, .bool false, .slice none 0 0, .slice none 0 0]) ?_ 0 _ rfl; (with_reducible repeat (first | refine blk_drewN ?_ _ | refine blk_drew ?_ | refine blk_alloc ?_ _)); refine blk_far ?_ NB329_330.out _; (with_reducible repeat (first | refine blk_drewN ?_ _ | refine blk_drew ?_ | refine blk_alloc ?_ _)); exact BK329.out) Tryd.underlying27 rfl (by kernel_rfl)) rfl ?_
 exact ⟨_, _, _, by first | rfl | (simp [errW_none, errW_some] <;> rfl) | (simp [*, errW_none, errW_some] <;> rfl), by (with_reducible repeat (first | apply Kd.R_alloc | apply Kd.R_drewN | apply Kd.R_drew)); exact Kd.R_mono (Kd.R_far (p := ⟨gb329, 4, none⟩) (Kd.R_far (p := ⟨gb329, 3, none⟩) (Kd.R_far (p := ⟨gb329, 2, none⟩) (Kd.R_far (p := ⟨gb329, 1, none⟩) (Kd.R_far (p := ⟨gb329, 0, none⟩) (Kd.R_far (p := ⟨gb330, 4, none⟩) (Kd.R_types (Kd.R_types HO333.out BK330.out (by decide)) BK329.out (by decide)) (fun _ hk => hk.1.2) (.slice Ao25 t339.length co25)) (fun _ hk => hk.2) (.slice Ao13 t331.length co13)) (fun _ hk => hk.2) (.int .i64 t334)) (fun _ hk => hk.2) (.bool t335)) (fun _ hk => hk.2) (.slice Ao21 t336.length co21)) (fun _ hk => hk.2) (.slice Ao25 t339.length co25)) (fun _ hk => ⟨hk.1.1.1.2, hk.1.1.2⟩), by (with_reducible repeat (first | apply Kd.R_alloc | apply Kd.R_drewN | apply Kd.R_drew)); exact Kd.R_mono (Kd.R_far (p := ⟨gb329, 4, none⟩) (Kd.R_far (p := ⟨gb329, 3, none⟩) (Kd.R_far (p := ⟨gb329, 2, none⟩) (Kd.R_far (p := ⟨gb329, 1, none⟩) (Kd.R_far (p := ⟨gb329, 0, none⟩) (Kd.R_far (p := ⟨gb330, 4, none⟩) (Kd.R_types (Kd.R_types HO338.out BK330.out (by decide)) BK329.out (by decide)) (fun _ hk => hk.1.2) (.slice Ao25 t339.length co25)) (fun _ hk => hk.2) (.slice Ao13 t331.length co13)) (fun _ hk => hk.2) (.int .i64 t334)) (fun _ hk => hk.2) (.bool t335)) (fun _ hk => hk.2) (.slice Ao21 t336.length co21)) (fun _ hk => hk.2) (.slice Ao25 t339.length co25)) (fun _ hk => ⟨hk.1.1.1.2, hk.1.1.2⟩), by (with_reducible repeat (first | apply Kd.R_alloc | apply Kd.R_drewN | apply Kd.R_drew)); exact Kd.R_mono (Kd.R_far (p := ⟨gb329, 4, none⟩) (Kd.R_far (p := ⟨gb329, 3, none⟩) (Kd.R_far (p := ⟨gb329, 2, none⟩) (Kd.R_far (p := ⟨gb329, 1, none⟩) (Kd.R_far (p := ⟨gb329, 0, none⟩) (Kd.R_far (p := ⟨gb330, 4, none⟩) (Kd.R_types (Kd.R_types HO341.out BK330.out (by decide)) BK329.out (by decide)) (fun _ hk => hk.1.2) (.slice Ao25 t339.length co25)) (fun _ hk => hk.2) (.slice Ao13 t331.length co13)) (fun _ hk => hk.2) (.int .i64 t334)) (fun _ hk => hk.2) (.bool t335)) (fun _ hk => hk.2) (.slice Ao21 t336.length co21)) (fun _ hk => hk.2) (.slice Ao25 t339.length co25)) (fun _ hk => ⟨hk.1.1.1.2, hk.1.1.2⟩), by repeat (first | (with_reducible first | exact HB.out | apply below_alloc | apply pw_below_drewN | apply below_drew1 | refine below_set ?_ GE328.out | refine below_set ?_ GE329.out | refine below_set ?_ GE330.out) | exact HB.out)⟩
end Go.Proofs.YtdgmkfbmeaalpaaDoor.E
end
section
namespace Go.Proofs.YtdgmkfbmeaalpaaDoor.E
open Go.RowKit Go.Proofs.YtdgmkfbmeaalpaaDoorW.PrintWords Go.Proofs.YtdgmkfbmeaalpaaDoorW.PrintLast Go.Proofs.YtdgmkfbmeaalpaaDoorW.PrintMore
attribute [local go_sem] max2_int min2_int max_two min_two max_three min_three max_four min_four
set_option linter.unusedVariables false
set_option linter.unusedSimpArgs false
attribute [local go_sem] str_leq_ str_gtr_ str_geq_
def laws_toPsalmS.l0 : Nat → List (S41) → List (S27) → Int → Option ((List (S27)))
 | 0, _, _, _ => none
 | k + 1, x0, x3, x4 => if x4 < (x0.length : Int) then (if 0 ≤ x4 then ((laws_toPsalm.f k ((rd_T41 x0 x4).f0) ((rd_T41 x0 x4).f1.f0) ((rd_T41 x0 x4).f1.f1) ((rd_T41 x0 x4).f2) ((rd_T41 x0 x4).f3)).bind fun bt914 => (if x4 < (x3.length : Int) then (laws_toPsalmS.l0 k x0 (x3.set (x4 : Int).toNat (⟨bt914.1, (⟨bt914.2.1, bt914.2.2.1⟩ : S25), bt914.2.2.2.1, bt914.2.2.2.2⟩ : S27)) (wrap64 (x4 + 1))) else (none))) else (none)) else (some x3)
def laws_toPsalmS.f (k : Nat) (l0 : List (S41)) : Option ((List (S27))) := if 0 ≤ (l0.length : Int) then (if ((l0.length : Int) : Int).toNat ≤ 3198579280802 then (laws_toPsalmS.l0 k l0 (List.replicate ((l0.length : Int) : Int).toNat z27) 0) else (none)) else (none)
set_option maxHeartbeats 8000000 in
set_option maxRecDepth 100000 in
theorem laws_toPsalmS.calls (k : Nat) (A0 : Option Addr) (c0 : Nat) (l0 : List (S41)) (r : List (S27)) (w : World) (hr0 : Kd.C k41 w A0 l0.length l0) (hc0 : l0.length ≤ c0) (h : laws_toPsalmS.f k l0 = some r) :
  Calls Tryd.prog 48 #[.slice A0 l0.length c0] w fun e w' => ∃ v0_ : Value, e = .returned (v0_) ∧ Kd.S k27 27 w' w.heap.size (fun _ => True) v0_ r ∧ Below w.heap.size w w' := by
 have hu41 := Tryd.underlying41
 have hu27 := Tryd.underlying27
 have HR0 := Aside0.mk hr0
 have HC0 := Aside0.mk hc0
 clear hr0 hc0
 have HB := Aside0.mk (Below.refl w.heap.size w)
 have H : (if 0 ≤ (l0.length : Int) then (if ((l0.length : Int) : Int).toNat ≤ 3198579280802 then (laws_toPsalmS.l0 k l0 (List.replicate ((l0.length : Int) : Int).toNat z27) 0) else (none)) else (none)) = some r := h
 clear h
 by_cases c2 : 0 ≤ (l0.length : Int)
 rotate_left
 ·rw [if_neg c2] at H
  exact absurd H (by simp)
 rw [if_pos c2] at H
 have c2b0 := eq_true c2
 have c2b1 : decide (0 ≤ (l0.length : Int)) = true := decide_eq_true c2
 clear c2
 by_cases c3 : ((l0.length : Int) : Int).toNat ≤ 3198579280802
 rotate_left
 ·rw [if_neg c3] at H
  exact absurd H (by simp)
 rw [if_pos c3] at H
 have c3b0 := eq_true c3
 have c3b1 : decide (((l0.length : Int) : Int).toNat ≤ 3198579280802) = true := decide_eq_true c3
 clear c3
 obtain ⟨y910, hy910⟩ : ∃ y_ : List (S27), y_ = (List.replicate ((l0.length : Int) : Int).toNat z27) := ⟨_, rfl⟩
 replace H : (laws_toPsalmS.l0 k l0 y910 0) = some r := by first | (rw [hy910]; with_reducible exact H) | (have H2_ := (Option.bind_some _ _).symm.trans H; rw [hy910]; with_reducible exact H2_) | (have H2_ := (Option.bind_some _ _).symm.trans H; with_reducible exact H2_) | with_reducible exact H | (rw [hy910]; exact H) | exact H
 have Ny910 := Aside0.mk hy910
 clear hy910
 have H' := Aside0.mk H
 clear H
 go_enter Tryd.func48, Tryd.ntmps48
 go_wp2_with (first | ((with_reducible refine gate_dst (N := 7) rfl ?_); refine Kd.S_make k27 _ 27 rfl (N := 7) rfl 53 _ _ rfl (l0.length : Int) rfl rfl Tryd.underlying53 (.agg #[(.slice none 0 0), (.int .i64 0), (.bool false), (.slice none 0 0), (.slice none 0 0)]) 88 info27 rfl (by decide) (by omega) z27 (ok := fun _ => True) (okp := fun _ => True) (k27_mkM _ _ _ z27 (Kd.R_nil _ _ _ _ _) (Kd.R_nil _ _ _ _ _) (Kd.R_nil _ _ _ _ _)) (fun _ hk => hk) trivial (of_decide_eq_true (by first | (with_reducible assumption) | assumption)) (Nat.le_trans (Nat.mul_le_mul_right _ (of_decide_eq_true (by first | (with_reducible assumption) | assumption) : (l0.length : Int).toNat ≤ 3198579280802)) (by omega)) (Below.refl _ _) (Nat.le_refl _) ?_; intro v911 w4 ho5 hb hg_ hnew_; clear hg_ hnew_; (first | rw [← Ny910.out] at ho5 | (simp only [Int.reduceToNat] at ho5; rw [← Ny910.out] at ho5)); have n0_ := Aside0.mk (Kd.S_lower ho5 (below_size (by repeat (first | (with_reducible first | exact HB.out | apply below_alloc | apply pw_below_drewN | apply below_drew1) | exact HB.out)))); have n1_ := Aside0.mk (below_step (by repeat (first | (with_reducible first | exact HB.out | apply below_alloc | apply pw_below_drewN | apply below_drew1) | exact HB.out)) hb); clear HB; have HO912 := n0_; have HB := n1_; clear n0_ n1_; clear hb ho5))
 go_loopg [4] k (fun kq v4 w' => ∃ (x3_1 : List (S27)) (x4_1 : Int), v4 = .int .i64 x4_1 ∧ Aside0 (laws_toPsalmS.l0 kq l0 x3_1 x4_1 = some r) ∧ Aside0 (kq ≤ k) ∧ Aside0 (Kd.S k27 27 w' w.heap.size (fun _ => True) v911 x3_1) ∧ Aside0 (Below w.heap.size w w'))
 case atStart => exact ⟨(y910), (0), (by first | rfl | (simp; done) | (simp [*]; done)), H', ⟨Nat.le_refl _⟩, ⟨by (with_reducible repeat (first | apply Kd.S_alloc | apply Kd.S_drewN | apply Kd.S_drew)); exact HO912.out⟩, ⟨by repeat (first | (with_reducible first | exact HB.out | apply below_alloc | apply pw_below_drewN | apply below_drew1) | exact HB.out)⟩⟩
 case round =>
  clear H'
  try clear c2
  try clear c2b0
  try clear c2b1
  try clear p2
  try clear c3
  try clear c3b0
  try clear c3b1
  try clear c4
  obtain ⟨x3_1, x4_1, rfl, HA, HK1, HO_3, HB⟩ := hrel
  cases gk with
  | zero => exact absurd HA.out (by simp [laws_toPsalmS.l0])
  | succ k1 =>
   have H := HA.out
   clear HA
   simp only [laws_toPsalmS.l0] at H
   by_cases c6 : x4_1 < (l0.length : Int)
   rotate_left
   ·rw [if_neg c6] at H
    have c6b0 : decide (x4_1 < (l0.length : Int)) = false := decide_eq_false c6
    clear c6
    obtain rfl := Option.some.inj H
    go_wp2
    go_ret
    exact ⟨_, by first | rfl | (simp [errW_none, errW_some] <;> rfl) | (simp [*, errW_none, errW_some] <;> rfl), by (with_reducible repeat (first | apply Kd.S_alloc | apply Kd.S_drewN | apply Kd.S_drew)); exact HO_3.out, by repeat (first | (with_reducible first | exact HB.out | apply below_alloc | apply pw_below_drewN | apply below_drew1) | exact HB.out)⟩
   rw [if_pos c6] at H
   have c6b0 : decide (x4_1 < (l0.length : Int)) = true := decide_eq_true c6
   clear c6
   by_cases c7 : 0 ≤ x4_1
   rotate_left
   ·rw [if_neg c7] at H
    exact absurd H (by simp)
   rw [if_pos c7] at H
   have c7b0 : decide (0 ≤ x4_1) = true := decide_eq_true c7
   clear c7
   replace H := Option.bind_eq_some_iff.mp H
   obtain ⟨⟨t914, t917, t918, t919, t922⟩, A80, H⟩ := H
   replace H : (if x4_1 < (x3_1.length : Int) then (laws_toPsalmS.l0 k1 l0 (x3_1.set (x4_1 : Int).toNat (⟨t914, (⟨t917, t918⟩ : S25), t919, t922⟩ : S27)) (wrap64 (x4_1 + 1))) else (none)) = some r := H
   have A8 := Aside0.mk A80
   clear A80
   by_cases c9 : x4_1 < (x3_1.length : Int)
   rotate_left
   ·rw [if_neg c9] at H
    exact absurd H (by simp)
   rw [if_pos c9] at H
   have c9b0 : decide (x4_1 < (x3_1.length : Int)) = true := decide_eq_true c9
   clear c9
   obtain ⟨y925, hy925⟩ : ∃ y_ : List (S27), y_ = (x3_1.set (x4_1 : Int).toNat (⟨t914, (⟨t917, t918⟩ : S25), t919, t922⟩ : S27)) := ⟨_, rfl⟩
   replace H : (laws_toPsalmS.l0 k1 l0 y925 (wrap64 (x4_1 + 1))) = some r := by first | (rw [hy925]; with_reducible exact H) | (have H2_ := (Option.bind_some _ _).symm.trans H; rw [hy925]; with_reducible exact H2_) | (have H2_ := (Option.bind_some _ _).symm.trans H; with_reducible exact H2_) | with_reducible exact H | (rw [hy925]; exact H) | exact H
   have Ny925 := Aside0.mk hy925
   clear hy925
   have H' := Aside0.mk H
   clear H
   have p913 : 0 ≤ (x4_1 : Int) := of_decide_eq_true (by first | (with_reducible assumption) | assumption)
   have q913 : x4_1 < (l0.length : Int) := of_decide_eq_true (by first | (with_reducible assumption) | assumption)
   obtain ⟨ad913, A913_0, c913_0, A913_3, c913_3, A913_4, c913_4, e913, hx913_0, hx913_1, hx913_2, hx913_3, hx913_4, hl913_0, hi913_0, hl913_3, hi913_3, hl913_4, hi913_4⟩ := at_T41 HR0.out x4_1 p913 q913
   cases e913
   replace hx913_0 := (HB.out.cell (World.block_lt_of_cell? w _ hx913_0)).trans hx913_0
   replace hx913_1 := (HB.out.cell (World.block_lt_of_cell? w _ hx913_1)).trans hx913_1
   replace hx913_2 := (HB.out.cell (World.block_lt_of_cell? w _ hx913_2)).trans hx913_2
   replace hx913_3 := (HB.out.cell (World.block_lt_of_cell? w _ hx913_3)).trans hx913_3
   replace hx913_4 := (HB.out.cell (World.block_lt_of_cell? w _ hx913_4)).trans hx913_4
   have HR913_0 := Aside0.mk hi913_0
   have HC913_0 := Aside0.mk hl913_0
   clear hi913_0 hl913_0
   have HR913_3 := Aside0.mk hi913_3
   have HC913_3 := Aside0.mk hl913_3
   clear hi913_3 hl913_3
   have HR913_4 := Aside0.mk hi913_4
   have HC913_4 := Aside0.mk hl913_4
   clear hi913_4 hl913_4
   replace p913 := eq_true p913
   replace q913 := eq_true q913
   go_wp2_with (first | ((with_reducible refine gate_callee (f := 24) rfl ?_); refine goesL_ (some 20) rfl rfl Tryd.func24 (by kernel_rfl) rfl #[.agg #[.slice A913_0 ((rd_T41 l0 x4_1).f0).length c913_0, .int .i64 ((rd_T41 l0 x4_1).f1.f0), .bool ((rd_T41 l0 x4_1).f1.f1), .slice A913_3 ((rd_T41 l0 x4_1).f2).length c913_3, .slice A913_4 ((rd_T41 l0 x4_1).f3).length c913_4]] rfl (by (try simp only [List.map_toArray, List.map_cons, List.map_nil]); first | done | rfl | (simp only [List.length_drop, List.length_take]; rfl)) ?_; (with_reducible refine (laws_toPsalm.calls k1 _ _ ((rd_T41 l0 x4_1).f0) ((rd_T41 l0 x4_1).f1.f0) ((rd_T41 l0 x4_1).f1.f1) _ _ ((rd_T41 l0 x4_1).f2) _ _ ((rd_T41 l0 x4_1).f3) t914 t917 t918 t919 t922 _ ?side1 ?side2 ?side3 ?side4 ?side5 ?side6 A8.out).mono ?_); (case side1 => repeat (first | exact (Kd.C_below HR913_0.out HB.out) | (with_reducible refine Kd.C_alloc ?_ _) | (with_reducible refine Kd.C_drewN ?_ _) | (with_reducible refine Kd.C_drew ?_))); (case side2 => exact HC913_0.out); (case side3 => repeat (first | exact (Kd.C_below HR913_3.out HB.out) | (with_reducible refine Kd.C_alloc ?_ _) | (with_reducible refine Kd.C_drewN ?_ _) | (with_reducible refine Kd.C_drew ?_))); (case side4 => exact HC913_3.out); (case side5 => repeat (first | exact (Kd.C_below HR913_4.out HB.out) | (with_reducible refine Kd.C_alloc ?_ _) | (with_reducible refine Kd.C_drewN ?_ _) | (with_reducible refine Kd.C_drew ?_))); (case side6 => exact HC913_4.out); rintro e w11 ⟨v915, v920, v923, rfl, ho0, ho1, ho2, hb⟩; refine ⟨_, rfl, ?_⟩; have n0_ := Aside0.mk (Kd.S_mono (Kd.S_told (Kd.S_told (Kd.S_told (Kd.S_old (by (with_reducible repeat (first | apply Kd.S_alloc | apply Kd.S_drewN | apply Kd.S_drew)); exact HO_3.out) hb) (Kd.R_base ho0)) (Kd.R_base ho1)) (Kd.R_base ho2)) (fun _ h_ => h_.1)); have n1_ := Aside0.mk (Kd.R_lower ho0 (below_size (by repeat (first | (with_reducible first | exact HB.out | apply below_alloc | apply pw_below_drewN | apply below_drew1) | exact HB.out)))); have n2_ := Aside0.mk (Kd.R_lower ho1 (below_size (by repeat (first | (with_reducible first | exact HB.out | apply below_alloc | apply pw_below_drewN | apply below_drew1) | exact HB.out)))); have n3_ := Aside0.mk (Kd.R_lower ho2 (below_size (by repeat (first | (with_reducible first | exact HB.out | apply below_alloc | apply pw_below_drewN | apply below_drew1) | exact HB.out)))); have n4_ := Aside0.mk (below_step (by repeat (first | (with_reducible first | exact HB.out | apply below_alloc | apply pw_below_drewN | apply below_drew1) | exact HB.out)) hb); clear HO_3; clear HB; have HO_3 := n0_; have HO916 := n1_; have HO921 := n2_; have HO924 := n3_; have HB := n4_; clear n0_ n1_ n2_ n3_ n4_; (try clear hb); (try clear hb2); (try clear hk); (try clear hi); (try clear ho0); (try clear ho1); (try clear ho2); have p10 : 0 ≤ (x4_1 : Int) := of_decide_eq_true (by first | (with_reducible assumption) | assumption); have q10 : (x4_1 : Int) < ((x3_1.length : Int) : Int) := of_decide_eq_true (by first | (with_reducible assumption) | assumption); obtain ⟨go10, co10, eo10, gb10, gl10, cl10, HG10⟩ := Kd.S_form HO_3.out (by omega); (first | cases eo10 | (injection eo10 with ea_ en_ ec_; (first | subst ea_ | (injection ea_ with ea_; subst ea_)); subst ec_; clear en_)); have GB10 := Aside0.mk gb10; have GG10 := Aside0.mk HG10; clear gb10 gl10 HG10; obtain ⟨_, ce10, hcl10, hM10, hcc10, hfr10, _, _⟩ := Kd.S_elem HO_3.out z27 (x4_1 : Int) p10 q10; obtain ⟨ve10_0, ve10_3, ve10_4, rfl, ge10_0, ge10_3, ge10_4⟩ := k27_openM hM10; have hx10_0 : w11.cell? ⟨go10, (x4_1 : Int).toNat * 5, none⟩ = some (ve10_0) := hcc10 0 _ rfl; have hx10_1 : w11.cell? ⟨go10, (x4_1 : Int).toNat * 5 + 1, none⟩ = some (.int .i64 ((rd_T27 x3_1 x4_1).f1.f0)) := hcc10 1 _ rfl; have hx10_2 : w11.cell? ⟨go10, (x4_1 : Int).toNat * 5 + 2, none⟩ = some (.bool ((rd_T27 x3_1 x4_1).f1.f1)) := hcc10 2 _ rfl; have hx10_3 : w11.cell? ⟨go10, (x4_1 : Int).toNat * 5 + 3, none⟩ = some (ve10_3) := hcc10 3 _ rfl; have hx10_4 : w11.cell? ⟨go10, (x4_1 : Int).toNat * 5 + 4, none⟩ = some (ve10_4) := hcc10 4 _ rfl; have hf10_0 : w11.frozen? ⟨go10, (x4_1 : Int).toNat * 5, none⟩ = false := hfr10 0; have hf10_1 : w11.frozen? ⟨go10, (x4_1 : Int).toNat * 5 + 1, none⟩ = false := hfr10 1; have hf10_2 : w11.frozen? ⟨go10, (x4_1 : Int).toNat * 5 + 2, none⟩ = false := hfr10 2; have hf10_3 : w11.frozen? ⟨go10, (x4_1 : Int).toNat * 5 + 3, none⟩ = false := hfr10 3; have hf10_4 : w11.frozen? ⟨go10, (x4_1 : Int).toNat * 5 + 4, none⟩ = false := hfr10 4; (try clear hM10); clear hcl10 hcc10 hfr10; replace p10 := eq_true p10; replace q10 := eq_true q10; obtain ⟨Ao12, co12, eo12⟩ := Kd.R_slice HO924.out; subst eo12; obtain ⟨Ao13, co13, eo13⟩ := Kd.R_slice HO921.out; subst eo13; obtain ⟨Ao14, co14, eo14⟩ := Kd.R_slice HO916.out; subst eo14; have n_ := Aside0.mk (Kd.S_mono (ok' := (fun k_ => some k_ ≠ (.slice Ao14 t914.length co14 : Value).ownBlock ∧ some k_ ≠ (.slice Ao13 t919.length co13 : Value).ownBlock ∧ some k_ ≠ (.slice Ao12 t922.length co12 : Value).ownBlock)) HO_3.out (fun k_ hk => ⟨hk.1.1.2, ⟨hk.1.2, hk.2⟩⟩)); clear HO_3; have HO_3 := n_; clear n_; have HX15 := Aside0.mk (show Kd.S k27 27 w11 w.heap.size (fun k_ => ((fun _ => True)) k_ ∧ ¬ ((fun k_ => some k_ = (.slice Ao14 t914.length co14 : Value).ownBlock ∨ some k_ = (.slice Ao13 t919.length co13 : Value).ownBlock ∨ some k_ = (.slice Ao12 t922.length co12 : Value).ownBlock)) k_) (.slice (some ⟨go10, 0, none⟩) x3_1.length co10) x3_1 from (by (with_reducible repeat (first | apply Kd.S_alloc | apply Kd.S_drewN | apply Kd.S_drew)); exact Kd.S_mono HO_3.out (fun k_ hk => ⟨trivial, fun e_ => e_.elim (fun h_ => hk.1 h_) (fun h_ => h_.elim (fun h_ => hk.2.1 h_) (fun h_ => hk.2.2 h_))⟩))); obtain ⟨oki15, ce15, hcl15, hM15, hcc15, hfr15, hoki15, hH15⟩ := Kd.S_elem HX15.out z27 (x4_1 : Int) (of_decide_eq_true (by first | (with_reducible assumption) | assumption)) (by have h_ : (x4_1 : Int) < ((x3_1.length : Int) : Int) := of_decide_eq_true (by first | (with_reducible assumption) | assumption); first | exact h_ | (have e_ := (Kd.S_reads' HO_3.out).1; omega) | simpa using h_); obtain ⟨ve15_0, ve15_3, ve15_4, rfl, ge15_0, ge15_3, ge15_4⟩ := k27_openM hM15; have HP15 := Kd.S_seg hH15 (of_decide_eq_true (by first | (with_reducible assumption) | assumption)) (by have h_ : (x4_1 : Int) < ((x3_1.length : Int) : Int) := of_decide_eq_true (by first | (with_reducible assumption) | assumption); first | exact h_ | (have e_ := (Kd.S_reads' HO_3.out).1; omega) | simpa using h_) (seg := [.slice Ao14 t914.length co14, .int .i64 t917, .bool t918, .slice Ao13 t919.length co13, .slice Ao12 t922.length co12]) (j := 0) (show 5 ≤ 5 from by decide) (x' := (⟨t914, (⟨t917, t918⟩ : S25), t919, t922⟩ : S27)) (k27_mkM _ _ _ (⟨t914, (⟨t917, t918⟩ : S25), t919, t922⟩ : S27) (Kd.R_mono (Kd.R_tight rfl (Kd.R_mono (ok' := fun k_ => ((fun _ => True)) k_ ∧ k_ ≠ go10) (Kd.R_apart' (HO916.out) (Kd.S_typed HO_3.out) (by decide)) (fun k_ hk => ⟨trivial, fun e_ => (hk.2) (by rw [e_]; rfl)⟩))) (fun _ h_ => Or.inr (Or.inl h_))) (Kd.R_mono (Kd.R_tight rfl (Kd.R_mono (ok' := fun k_ => ((fun _ => True)) k_ ∧ k_ ≠ go10) (Kd.R_apart' (HO921.out) (Kd.S_typed HO_3.out) (by decide)) (fun k_ hk => ⟨trivial, fun e_ => (hk.2) (by rw [e_]; rfl)⟩))) (fun _ h_ => Or.inr (Or.inr (Or.inl h_)))) (Kd.R_mono (Kd.R_tight rfl (Kd.R_mono (ok' := fun k_ => ((fun _ => True)) k_ ∧ k_ ≠ go10) (Kd.R_apart' (HO924.out) (Kd.S_typed HO_3.out) (by decide)) (fun k_ hk => ⟨trivial, fun e_ => (hk.2) (by rw [e_]; rfl)⟩))) (fun _ h_ => Or.inr (Or.inr (Or.inr (h_)))))) (fun _ hk => hk) (fun k_ hk_ => hk_.elim (fun h_ => ((Kd.R_mono (ok' := fun k_ => ((fun _ => True)) k_ ∧ k_ ≠ go10) (Kd.R_apart' (HO916.out) (Kd.S_typed HO_3.out) (by decide)) (fun k_ hk => ⟨trivial, fun e_ => (hk.2) (by rw [e_]; rfl)⟩))).1 k_ h_.symm) (fun h_ => h_.elim (fun h_ => ((Kd.R_mono (ok' := fun k_ => ((fun _ => True)) k_ ∧ k_ ≠ go10) (Kd.R_apart' (HO921.out) (Kd.S_typed HO_3.out) (by decide)) (fun k_ hk => ⟨trivial, fun e_ => (hk.2) (by rw [e_]; rfl)⟩))).1 k_ h_.symm) (fun h_ => ((Kd.R_mono (ok' := fun k_ => ((fun _ => True)) k_ ∧ k_ ≠ go10) (Kd.R_apart' (HO924.out) (Kd.S_typed HO_3.out) (by decide)) (fun k_ hk => ⟨trivial, fun e_ => (hk.2) (by rw [e_]; rfl)⟩))).1 k_ h_.symm))); have hx15_0 := hcc15 0 _ rfl; (try simp only [show (k27).sz = 5 from rfl, Nat.mul_one, Nat.add_zero] at hx15_0); have hf15_0 := hfr15 0; (try simp only [show (k27).sz = 5 from rfl, Nat.mul_one, Nat.add_zero] at hf15_0); have hx15_1 := hcc15 1 _ rfl; (try simp only [show (k27).sz = 5 from rfl, Nat.mul_one, Nat.add_zero] at hx15_1); have hf15_1 := hfr15 1; (try simp only [show (k27).sz = 5 from rfl, Nat.mul_one, Nat.add_zero] at hf15_1); have hx15_2 := hcc15 2 _ rfl; (try simp only [show (k27).sz = 5 from rfl, Nat.mul_one, Nat.add_zero] at hx15_2); have hf15_2 := hfr15 2; (try simp only [show (k27).sz = 5 from rfl, Nat.mul_one, Nat.add_zero] at hf15_2); have hx15_3 := hcc15 3 _ rfl; (try simp only [show (k27).sz = 5 from rfl, Nat.mul_one, Nat.add_zero] at hx15_3); have hf15_3 := hfr15 3; (try simp only [show (k27).sz = 5 from rfl, Nat.mul_one, Nat.add_zero] at hf15_3); have hx15_4 := hcc15 4 _ rfl; (try simp only [show (k27).sz = 5 from rfl, Nat.mul_one, Nat.add_zero] at hx15_4); have hf15_4 := hfr15 4; (try simp only [show (k27).sz = 5 from rfl, Nat.mul_one, Nat.add_zero] at hf15_4); (try clear hM15); clear hcl15 hcc15 hfr15 hoki15 hH15) | ((with_reducible refine gate_store (t := 27) (p := 21) rfl ?_); refine store_event (t := 27) (p := 21) (v := ?vo_w16) (w1 := (((((w11.setCell ⟨go10, (x4_1 : Int).toNat * 5, none⟩ (.slice Ao14 t914.length co14)).setCell ⟨go10, (x4_1 : Int).toNat * 5 + 1, none⟩ (.int .i64 t917)).setCell ⟨go10, (x4_1 : Int).toNat * 5 + 2, none⟩ (.bool t918)).setCell ⟨go10, (x4_1 : Int).toNat * 5 + 3, none⟩ (.slice Ao13 t919.length co13)).setCell ⟨go10, (x4_1 : Int).toNat * 5 + 4, none⟩ (.slice Ao12 t922.length co12))) ?hg ?ho ?hn ?hr ?_; (case ho => rfl); (case hg => rfl); (case hn => rfl); (case hr => first | (go_simp; done) | (go_simp; rfl)); intro w16 hw; have hg : w11.grownBy w16 (some go10) := (by rw [hw]; exact HP15.2); have hp_ : Kd.S k27 27 w16 w.heap.size (fun _ => True) (.slice (some ⟨go10, 0, none⟩) x3_1.length co10) y925 := (by rw [hw, Ny925.out]; exact HP15.1); clear HP15; have n0_ := Aside0.mk (hp_); have n1_ := Aside0.mk ((by rw [hw]; exact below_set (below_set (below_set (below_set (below_set (HB.out) GB10.out) GB10.out) GB10.out) GB10.out) GB10.out : Below w.heap.size w w16)); clear HO_3; clear HB; clear HO916; clear HO921; clear HO924; have HO_3 := n0_; have HB := n1_; clear n0_ n1_; clear hg hw hp_))
   go_roundg k1
   case measure => have := HK1.out; omega
   case rel => exact ⟨(y925), (wrap64 (x4_1 + 1)), (by first | rfl | (simp; done) | (simp [*]; done)), H', ⟨by have := HK1.out; omega⟩, ⟨by (with_reducible repeat (first | apply Kd.S_alloc | apply Kd.S_drewN | apply Kd.S_drew)); exact HO_3.out⟩, ⟨by repeat (first | (with_reducible first | exact HB.out | apply below_alloc | apply pw_below_drewN | apply below_drew1) | exact HB.out)⟩⟩
end Go.Proofs.YtdgmkfbmeaalpaaDoor.E
end
section
namespace Go.Proofs.YtdgmkfbmeaalpaaDoor.E
open Go.RowKit Go.Proofs.YtdgmkfbmeaalpaaDoorW.PrintWords Go.Proofs.YtdgmkfbmeaalpaaDoorW.PrintLast Go.Proofs.YtdgmkfbmeaalpaaDoorW.PrintMore
attribute [local go_sem] max2_int min2_int max_two min_two max_three min_three max_four min_four
set_option linter.unusedVariables false
set_option linter.unusedSimpArgs false
attribute [local go_sem] str_leq_ str_gtr_ str_geq_
def laws_eqPsalm.f (k : Nat) (l0_0 : List (S25)) (a0_1 : Int) (a0_2 : Bool) (l0_3 : List (S25)) (l0_4 : List (S25)) (l1_0 : List (S25)) (a1_1 : Int) (a1_2 : Bool) (l1_3 : List (S25)) (l1_4 : List (S25)) : Option (Bool) := (laws_eqToneS.f k l0_0 l1_0).bind fun t356 => (if t356 = true then ((laws_eqTone.f a0_1 a0_2 a1_1 a1_2).bind fun t357 => (if t357 = true then ((laws_eqToneS.f k l0_3 l1_3).bind fun t358 => (if t358 = true then ((laws_eqToneS.f k l0_4 l1_4).bind fun t359 => (if t359 = true then (some true) else (some false))) else (some false))) else (some false))) else (some false))
set_option maxHeartbeats 8000000 in
set_option maxRecDepth 100000 in
theorem laws_eqPsalm.calls (k : Nat) (A0_0 : Option Addr) (c0_0 : Nat) (l0_0 : List (S25)) (a0_1 : Int) (a0_2 : Bool) (A0_3 : Option Addr) (c0_3 : Nat) (l0_3 : List (S25)) (A0_4 : Option Addr) (c0_4 : Nat) (l0_4 : List (S25)) (A1_0 : Option Addr) (c1_0 : Nat) (l1_0 : List (S25)) (a1_1 : Int) (a1_2 : Bool) (A1_3 : Option Addr) (c1_3 : Nat) (l1_3 : List (S25)) (A1_4 : Option Addr) (c1_4 : Nat) (l1_4 : List (S25)) (r : Bool) (w : World) (hr0_0 : Kd.C k25 w A0_0 l0_0.length l0_0) (hc0_0 : l0_0.length ≤ c0_0) (hr0_3 : Kd.C k25 w A0_3 l0_3.length l0_3) (hc0_3 : l0_3.length ≤ c0_3) (hr0_4 : Kd.C k25 w A0_4 l0_4.length l0_4) (hc0_4 : l0_4.length ≤ c0_4) (hr1_0 : Kd.C k25 w A1_0 l1_0.length l1_0) (hc1_0 : l1_0.length ≤ c1_0) (hr1_3 : Kd.C k25 w A1_3 l1_3.length l1_3) (hc1_3 : l1_3.length ≤ c1_3) (hr1_4 : Kd.C k25 w A1_4 l1_4.length l1_4) (hc1_4 : l1_4.length ≤ c1_4) (h : laws_eqPsalm.f k l0_0 a0_1 a0_2 l0_3 l0_4 l1_0 a1_1 a1_2 l1_3 l1_4 = some r) :
  Calls Tryd.prog 26 #[.agg #[.slice A0_0 l0_0.length c0_0, .int .i64 a0_1, .bool a0_2, .slice A0_3 l0_3.length c0_3, .slice A0_4 l0_4.length c0_4], .agg #[.slice A1_0 l1_0.length c1_0, .int .i64 a1_1, .bool a1_2, .slice A1_3 l1_3.length c1_3, .slice A1_4 l1_4.length c1_4]] w fun e w' => e = .returned (.bool r) ∧ Below w.heap.size w w' := by
 have hu27 := Tryd.underlying27
 have hu25 := Tryd.underlying25
 have HR0_0 := Aside0.mk hr0_0
 have HC0_0 := Aside0.mk hc0_0
 clear hr0_0 hc0_0
 have HR0_3 := Aside0.mk hr0_3
 have HC0_3 := Aside0.mk hc0_3
 clear hr0_3 hc0_3
 have HR0_4 := Aside0.mk hr0_4
 have HC0_4 := Aside0.mk hc0_4
 clear hr0_4 hc0_4
 have HR1_0 := Aside0.mk hr1_0
 have HC1_0 := Aside0.mk hc1_0
 clear hr1_0 hc1_0
 have HR1_3 := Aside0.mk hr1_3
 have HC1_3 := Aside0.mk hc1_3
 clear hr1_3 hc1_3
 have HR1_4 := Aside0.mk hr1_4
 have HC1_4 := Aside0.mk hc1_4
 clear hr1_4 hc1_4
 have HB := Aside0.mk (Below.refl w.heap.size w)
 have H : ((laws_eqToneS.f k l0_0 l1_0).bind fun t356 => (if t356 = true then ((laws_eqTone.f a0_1 a0_2 a1_1 a1_2).bind fun t357 => (if t357 = true then ((laws_eqToneS.f k l0_3 l1_3).bind fun t358 => (if t358 = true then ((laws_eqToneS.f k l0_4 l1_4).bind fun t359 => (if t359 = true then (some true) else (some false))) else (some false))) else (some false))) else (some false))) = some r := h
 clear h
 replace H := Option.bind_eq_some_iff.mp H
 obtain ⟨t356, A30, H⟩ := H
 replace H : (if t356 = true then ((laws_eqTone.f a0_1 a0_2 a1_1 a1_2).bind fun t357 => (if t357 = true then ((laws_eqToneS.f k l0_3 l1_3).bind fun t358 => (if t358 = true then ((laws_eqToneS.f k l0_4 l1_4).bind fun t359 => (if t359 = true then (some true) else (some false))) else (some false))) else (some false))) else (some false)) = some r := H
 have A3 := Aside0.mk A30
 clear A30
 by_cases c4 : t356 = true
 rotate_left
 ·replace c4 := Bool.eq_false_iff.mpr c4
  subst c4
  have H1 : (some false) = some r := by rw [if_neg (show ¬ (false = true) by decide)] at H; exact H
  clear H
  have H := H1
  clear H1
  obtain rfl := Option.some.inj H
  go_enter Tryd.func26, Tryd.ntmps26
  go_wp2_with (first | ((with_reducible refine gate_dst (N := 2) rfl ?_); refine box_event ?hg (N := 2) ?hd (cs := #[.slice A0_0 l0_0.length c0_0, .int .i64 a0_1, .bool a0_2, .slice A0_3 l0_3.length c0_3, .slice A0_4 l0_4.length c0_4]) (t := 27) ?hr ?_; (case hd => rfl); (case hg => rfl); (case hr => first | (go_simp; done) | (go_simp; rfl)); intro gb354 hg w62 hbox hb; have n0_ := Aside0.mk (below_step (by repeat (first | (with_reducible first | exact HB.out | apply below_alloc | apply pw_below_drewN | apply below_drew1) | exact HB.out)) hb); have n1_ := Aside0.mk (hbox); have n2_ := Aside0.mk ((by rw [hg]; exact (below_size (by repeat (first | (with_reducible first | exact HB.out | apply below_alloc | apply pw_below_drewN | apply below_drew1) | exact HB.out))) : w.heap.size ≤ gb354)); have n3_ := Aside0.mk ((by rw [hg]; exact (below_size (by repeat (first | (with_reducible first | exact HB.out | apply below_alloc | apply pw_below_drewN | apply below_drew1) | exact HB.out))) : w.heap.size ≤ gb354)); clear HB; have HB := n0_; have BK354 := n1_; have GW354 := n2_; have GE354 := n3_; clear n0_ n1_ n2_ n3_; clear hb hbox hg) | ((with_reducible refine gate_dst (N := 3) rfl ?_); refine box_event ?hg (N := 3) ?hd (cs := #[.slice A1_0 l1_0.length c1_0, .int .i64 a1_1, .bool a1_2, .slice A1_3 l1_3.length c1_3, .slice A1_4 l1_4.length c1_4]) (t := 27) ?hr ?_; (case hd => rfl); (case hg => rfl); (case hr => first | (go_simp; done) | (go_simp; rfl)); intro gb355 hg w63 hbox hb; have n0_ := Aside0.mk (blk_below (g := gb354) (o := .cells #[.slice A0_0 l0_0.length c0_0, .int .i64 a0_1, .bool a0_2, .slice A0_3 l0_3.length c0_3, .slice A0_4 l0_4.length c0_4] 27 (0, 0)) (by (with_reducible repeat (first | refine blk_drewN ?_ _ | refine blk_drew ?_ | refine blk_alloc ?_ _)); exact BK354.out) hb); have n1_ := Aside0.mk (below_step (by repeat (first | (with_reducible first | exact HB.out | apply below_alloc | apply pw_below_drewN | apply below_drew1 | refine below_set ?_ GE354.out) | exact HB.out)) hb); have n2_ := Aside0.mk (hbox); have n3_ := Aside0.mk ((by rw [hg]; exact (below_size (by repeat (first | (with_reducible first | exact HB.out | apply below_alloc | apply pw_below_drewN | apply below_drew1 | refine below_set ?_ GE354.out) | exact HB.out))) : w.heap.size ≤ gb355)); have n4_ := Aside0.mk ((by rw [hg]; exact (below_size (by repeat (first | (with_reducible first | exact HB.out | apply below_alloc | apply pw_below_drewN | apply below_drew1 | refine below_set ?_ GE354.out) | exact HB.out))) : w.heap.size ≤ gb355)); have n5_ := Aside0.mk ((by rw [hg]; exact Nat.ne_of_lt (blk_lt (g := gb354) (o := .cells #[.slice A0_0 l0_0.length c0_0, .int .i64 a0_1, .bool a0_2, .slice A0_3 l0_3.length c0_3, .slice A0_4 l0_4.length c0_4] 27 (0, 0)) (by (with_reducible repeat (first | refine blk_drewN ?_ _ | refine blk_drew ?_ | refine blk_alloc ?_ _)); exact BK354.out)) : gb354 ≠ gb355)); have n6_ := Aside0.mk ((by rw [hg]; exact Nat.ne_of_gt (blk_lt (g := gb354) (o := .cells #[.slice A0_0 l0_0.length c0_0, .int .i64 a0_1, .bool a0_2, .slice A0_3 l0_3.length c0_3, .slice A0_4 l0_4.length c0_4] 27 (0, 0)) (by (with_reducible repeat (first | refine blk_drewN ?_ _ | refine blk_drew ?_ | refine blk_alloc ?_ _)); exact BK354.out)) : gb355 ≠ gb354)); clear BK354; clear HB; have BK354 := n0_; have HB := n1_; have BK355 := n2_; have GW355 := n3_; have GE355 := n4_; have NB354_355 := n5_; have NB355_354 := n6_; clear n0_ n1_ n2_ n3_ n4_ n5_ n6_; clear hb hbox hg; have hnb64 := NB354_355.out; have hnc64 := NB355_354.out; have hcz65_0 : w63.cell? ⟨gb354, 0, none⟩ = some (.slice A0_0 l0_0.length c0_0) := (blk_cell BK354.out 0).trans rfl; have hcz65_1 : w63.cell? ⟨gb354, 1, none⟩ = some (.int .i64 a0_1) := (blk_cell BK354.out 1).trans rfl; have hcz65_2 : w63.cell? ⟨gb354, 2, none⟩ = some (.bool a0_2) := (blk_cell BK354.out 2).trans rfl; have hcz65_3 : w63.cell? ⟨gb354, 3, none⟩ = some (.slice A0_3 l0_3.length c0_3) := (blk_cell BK354.out 3).trans rfl; have hcz65_4 : w63.cell? ⟨gb354, 4, none⟩ = some (.slice A0_4 l0_4.length c0_4) := (blk_cell BK354.out 4).trans rfl; have hfz65_0 := blk_frozen BK354.out 0; have hfz65_1 := blk_frozen BK354.out 1; have hfz65_2 := blk_frozen BK354.out 2; have hfz65_3 := blk_frozen BK354.out 3; have hfz65_4 := blk_frozen BK354.out 4; have hcz66_0 : w63.cell? ⟨gb355, 0, none⟩ = some (.slice A1_0 l1_0.length c1_0) := (blk_cell BK355.out 0).trans rfl; have hcz66_1 : w63.cell? ⟨gb355, 1, none⟩ = some (.int .i64 a1_1) := (blk_cell BK355.out 1).trans rfl; have hcz66_2 : w63.cell? ⟨gb355, 2, none⟩ = some (.bool a1_2) := (blk_cell BK355.out 2).trans rfl; have hcz66_3 : w63.cell? ⟨gb355, 3, none⟩ = some (.slice A1_3 l1_3.length c1_3) := (blk_cell BK355.out 3).trans rfl; have hcz66_4 : w63.cell? ⟨gb355, 4, none⟩ = some (.slice A1_4 l1_4.length c1_4) := (blk_cell BK355.out 4).trans rfl; have hfz66_0 := blk_frozen BK355.out 0; have hfz66_1 := blk_frozen BK355.out 1; have hfz66_2 := blk_frozen BK355.out 2; have hfz66_3 := blk_frozen BK355.out 3; have hfz66_4 := blk_frozen BK355.out 4) | ((with_reducible refine gate_callee (f := 36) rfl ?_); refine goesL_ (some 9) rfl rfl Tryd.func36 (by kernel_rfl) rfl #[.slice A0_0 l0_0.length c0_0, .slice A1_0 l1_0.length c1_0] rfl (by (try simp only [List.map_toArray, List.map_cons, List.map_nil]); first | done | rfl | (simp only [List.length_drop, List.length_take]; rfl)) ?_; (with_reducible refine (laws_eqToneS.calls k _ _ l0_0 _ _ l1_0 false _ ?side1 ?side2 ?side3 ?side4 A3.out).mono ?_); (case side1 => repeat (first | exact (Kd.C_below HR0_0.out HB.out) | (with_reducible refine Kd.C_alloc ?_ _) | (with_reducible refine Kd.C_drewN ?_ _) | (with_reducible refine Kd.C_drew ?_))); (case side2 => exact HC0_0.out); (case side3 => repeat (first | exact (Kd.C_below HR1_0.out HB.out) | (with_reducible refine Kd.C_alloc ?_ _) | (with_reducible refine Kd.C_drewN ?_ _) | (with_reducible refine Kd.C_drew ?_))); (case side4 => exact HC1_0.out); rintro e w67 ⟨rfl, hb⟩; refine ⟨_, rfl, ?_⟩; have n0_ := Aside0.mk (blk_below (g := gb354) (o := .cells #[.slice A0_0 l0_0.length c0_0, .int .i64 a0_1, .bool a0_2, .slice A0_3 l0_3.length c0_3, .slice A0_4 l0_4.length c0_4] 27 (0, 0)) (by (with_reducible repeat (first | refine blk_drewN ?_ _ | refine blk_drew ?_ | refine blk_alloc ?_ _)); exact BK354.out) hb); have n1_ := Aside0.mk (blk_below (g := gb355) (o := .cells #[.slice A1_0 l1_0.length c1_0, .int .i64 a1_1, .bool a1_2, .slice A1_3 l1_3.length c1_3, .slice A1_4 l1_4.length c1_4] 27 (0, 0)) (by (with_reducible repeat (first | refine blk_drewN ?_ _ | refine blk_drew ?_ | refine blk_alloc ?_ _)); exact BK355.out) hb); have n2_ := Aside0.mk (below_step (by repeat (first | (with_reducible first | exact HB.out | apply below_alloc | apply pw_below_drewN | apply below_drew1 | refine below_set ?_ GE354.out | refine below_set ?_ GE355.out) | exact HB.out)) hb); clear BK354; clear BK355; clear HB; have BK354 := n0_; have BK355 := n1_; have HB := n2_; clear n0_ n1_ n2_; (try clear hb); (try clear hb2); (try clear hk); (try clear hi)))
  go_ret
  exact ⟨by first | rfl | (simp [errW_none, errW_some] <;> rfl) | (simp [*, errW_none, errW_some] <;> rfl), by repeat (first | (with_reducible first | exact HB.out | apply below_alloc | apply pw_below_drewN | apply below_drew1 | refine below_set ?_ GE354.out | refine below_set ?_ GE355.out) | exact HB.out)⟩
 subst c4
 have H1 : ((laws_eqTone.f a0_1 a0_2 a1_1 a1_2).bind fun t357 => (if t357 = true then ((laws_eqToneS.f k l0_3 l1_3).bind fun t358 => (if t358 = true then ((laws_eqToneS.f k l0_4 l1_4).bind fun t359 => (if t359 = true then (some true) else (some false))) else (some false))) else (some false))) = some r := by rw [if_pos rfl] at H; exact H
 clear H
 have H := H1
 clear H1
 replace H := Option.bind_eq_some_iff.mp H
 obtain ⟨t357, A50, H⟩ := H
 replace H : (if t357 = true then ((laws_eqToneS.f k l0_3 l1_3).bind fun t358 => (if t358 = true then ((laws_eqToneS.f k l0_4 l1_4).bind fun t359 => (if t359 = true then (some true) else (some false))) else (some false))) else (some false)) = some r := H
 have A5 := Aside0.mk A50
 clear A50
 by_cases c6 : t357 = true
 rotate_left
 ·replace c6 := Bool.eq_false_iff.mpr c6
  subst c6
  have H1 : (some false) = some r := by rw [if_neg (show ¬ (false = true) by decide)] at H; exact H
  clear H
  have H := H1
  clear H1
  obtain rfl := Option.some.inj H
  go_enter Tryd.func26, Tryd.ntmps26
  go_wp2_with (first | ((with_reducible refine gate_dst (N := 2) rfl ?_); refine box_event ?hg (N := 2) ?hd (cs := #[.slice A0_0 l0_0.length c0_0, .int .i64 a0_1, .bool a0_2, .slice A0_3 l0_3.length c0_3, .slice A0_4 l0_4.length c0_4]) (t := 27) ?hr ?_; (case hd => rfl); (case hg => rfl); (case hr => first | (go_simp; done) | (go_simp; rfl)); intro gb354 hg w53 hbox hb; have n0_ := Aside0.mk (below_step (by repeat (first | (with_reducible first | exact HB.out | apply below_alloc | apply pw_below_drewN | apply below_drew1) | exact HB.out)) hb); have n1_ := Aside0.mk (hbox); have n2_ := Aside0.mk ((by rw [hg]; exact (below_size (by repeat (first | (with_reducible first | exact HB.out | apply below_alloc | apply pw_below_drewN | apply below_drew1) | exact HB.out))) : w.heap.size ≤ gb354)); have n3_ := Aside0.mk ((by rw [hg]; exact (below_size (by repeat (first | (with_reducible first | exact HB.out | apply below_alloc | apply pw_below_drewN | apply below_drew1) | exact HB.out))) : w.heap.size ≤ gb354)); clear HB; have HB := n0_; have BK354 := n1_; have GW354 := n2_; have GE354 := n3_; clear n0_ n1_ n2_ n3_; clear hb hbox hg) | ((with_reducible refine gate_dst (N := 3) rfl ?_); refine box_event ?hg (N := 3) ?hd (cs := #[.slice A1_0 l1_0.length c1_0, .int .i64 a1_1, .bool a1_2, .slice A1_3 l1_3.length c1_3, .slice A1_4 l1_4.length c1_4]) (t := 27) ?hr ?_; (case hd => rfl); (case hg => rfl); (case hr => first | (go_simp; done) | (go_simp; rfl)); intro gb355 hg w54 hbox hb; have n0_ := Aside0.mk (blk_below (g := gb354) (o := .cells #[.slice A0_0 l0_0.length c0_0, .int .i64 a0_1, .bool a0_2, .slice A0_3 l0_3.length c0_3, .slice A0_4 l0_4.length c0_4] 27 (0, 0)) (by (with_reducible repeat (first | refine blk_drewN ?_ _ | refine blk_drew ?_ | refine blk_alloc ?_ _)); exact BK354.out) hb); have n1_ := Aside0.mk (below_step (by repeat (first | (with_reducible first | exact HB.out | apply below_alloc | apply pw_below_drewN | apply below_drew1 | refine below_set ?_ GE354.out) | exact HB.out)) hb); have n2_ := Aside0.mk (hbox); have n3_ := Aside0.mk ((by rw [hg]; exact (below_size (by repeat (first | (with_reducible first | exact HB.out | apply below_alloc | apply pw_below_drewN | apply below_drew1 | refine below_set ?_ GE354.out) | exact HB.out))) : w.heap.size ≤ gb355)); have n4_ := Aside0.mk ((by rw [hg]; exact (below_size (by repeat (first | (with_reducible first | exact HB.out | apply below_alloc | apply pw_below_drewN | apply below_drew1 | refine below_set ?_ GE354.out) | exact HB.out))) : w.heap.size ≤ gb355)); have n5_ := Aside0.mk ((by rw [hg]; exact Nat.ne_of_lt (blk_lt (g := gb354) (o := .cells #[.slice A0_0 l0_0.length c0_0, .int .i64 a0_1, .bool a0_2, .slice A0_3 l0_3.length c0_3, .slice A0_4 l0_4.length c0_4] 27 (0, 0)) (by (with_reducible repeat (first | refine blk_drewN ?_ _ | refine blk_drew ?_ | refine blk_alloc ?_ _)); exact BK354.out)) : gb354 ≠ gb355)); have n6_ := Aside0.mk ((by rw [hg]; exact Nat.ne_of_gt (blk_lt (g := gb354) (o := .cells #[.slice A0_0 l0_0.length c0_0, .int .i64 a0_1, .bool a0_2, .slice A0_3 l0_3.length c0_3, .slice A0_4 l0_4.length c0_4] 27 (0, 0)) (by (with_reducible repeat (first | refine blk_drewN ?_ _ | refine blk_drew ?_ | refine blk_alloc ?_ _)); exact BK354.out)) : gb355 ≠ gb354)); clear BK354; clear HB; have BK354 := n0_; have HB := n1_; have BK355 := n2_; have GW355 := n3_; have GE355 := n4_; have NB354_355 := n5_; have NB355_354 := n6_; clear n0_ n1_ n2_ n3_ n4_ n5_ n6_; clear hb hbox hg; have hnb55 := NB354_355.out; have hnc55 := NB355_354.out; have hcz56_0 : w54.cell? ⟨gb354, 0, none⟩ = some (.slice A0_0 l0_0.length c0_0) := (blk_cell BK354.out 0).trans rfl; have hcz56_1 : w54.cell? ⟨gb354, 1, none⟩ = some (.int .i64 a0_1) := (blk_cell BK354.out 1).trans rfl; have hcz56_2 : w54.cell? ⟨gb354, 2, none⟩ = some (.bool a0_2) := (blk_cell BK354.out 2).trans rfl; have hcz56_3 : w54.cell? ⟨gb354, 3, none⟩ = some (.slice A0_3 l0_3.length c0_3) := (blk_cell BK354.out 3).trans rfl; have hcz56_4 : w54.cell? ⟨gb354, 4, none⟩ = some (.slice A0_4 l0_4.length c0_4) := (blk_cell BK354.out 4).trans rfl; have hfz56_0 := blk_frozen BK354.out 0; have hfz56_1 := blk_frozen BK354.out 1; have hfz56_2 := blk_frozen BK354.out 2; have hfz56_3 := blk_frozen BK354.out 3; have hfz56_4 := blk_frozen BK354.out 4; have hcz57_0 : w54.cell? ⟨gb355, 0, none⟩ = some (.slice A1_0 l1_0.length c1_0) := (blk_cell BK355.out 0).trans rfl; have hcz57_1 : w54.cell? ⟨gb355, 1, none⟩ = some (.int .i64 a1_1) := (blk_cell BK355.out 1).trans rfl; have hcz57_2 : w54.cell? ⟨gb355, 2, none⟩ = some (.bool a1_2) := (blk_cell BK355.out 2).trans rfl; have hcz57_3 : w54.cell? ⟨gb355, 3, none⟩ = some (.slice A1_3 l1_3.length c1_3) := (blk_cell BK355.out 3).trans rfl; have hcz57_4 : w54.cell? ⟨gb355, 4, none⟩ = some (.slice A1_4 l1_4.length c1_4) := (blk_cell BK355.out 4).trans rfl; have hfz57_0 := blk_frozen BK355.out 0; have hfz57_1 := blk_frozen BK355.out 1; have hfz57_2 := blk_frozen BK355.out 2; have hfz57_3 := blk_frozen BK355.out 3; have hfz57_4 := blk_frozen BK355.out 4) | ((with_reducible refine gate_callee (f := 36) rfl ?_); refine goesL_ (some 9) rfl rfl Tryd.func36 (by kernel_rfl) rfl #[.slice A0_0 l0_0.length c0_0, .slice A1_0 l1_0.length c1_0] rfl (by (try simp only [List.map_toArray, List.map_cons, List.map_nil]); first | done | rfl | (simp only [List.length_drop, List.length_take]; rfl)) ?_; (with_reducible refine (laws_eqToneS.calls k _ _ l0_0 _ _ l1_0 true _ ?side1 ?side2 ?side3 ?side4 A3.out).mono ?_); (case side1 => repeat (first | exact (Kd.C_below HR0_0.out HB.out) | (with_reducible refine Kd.C_alloc ?_ _) | (with_reducible refine Kd.C_drewN ?_ _) | (with_reducible refine Kd.C_drew ?_))); (case side2 => exact HC0_0.out); (case side3 => repeat (first | exact (Kd.C_below HR1_0.out HB.out) | (with_reducible refine Kd.C_alloc ?_ _) | (with_reducible refine Kd.C_drewN ?_ _) | (with_reducible refine Kd.C_drew ?_))); (case side4 => exact HC1_0.out); rintro e w58 ⟨rfl, hb⟩; refine ⟨_, rfl, ?_⟩; have n0_ := Aside0.mk (blk_below (g := gb354) (o := .cells #[.slice A0_0 l0_0.length c0_0, .int .i64 a0_1, .bool a0_2, .slice A0_3 l0_3.length c0_3, .slice A0_4 l0_4.length c0_4] 27 (0, 0)) (by (with_reducible repeat (first | refine blk_drewN ?_ _ | refine blk_drew ?_ | refine blk_alloc ?_ _)); exact BK354.out) hb); have n1_ := Aside0.mk (blk_below (g := gb355) (o := .cells #[.slice A1_0 l1_0.length c1_0, .int .i64 a1_1, .bool a1_2, .slice A1_3 l1_3.length c1_3, .slice A1_4 l1_4.length c1_4] 27 (0, 0)) (by (with_reducible repeat (first | refine blk_drewN ?_ _ | refine blk_drew ?_ | refine blk_alloc ?_ _)); exact BK355.out) hb); have n2_ := Aside0.mk (below_step (by repeat (first | (with_reducible first | exact HB.out | apply below_alloc | apply pw_below_drewN | apply below_drew1 | refine below_set ?_ GE354.out | refine below_set ?_ GE355.out) | exact HB.out)) hb); clear BK354; clear BK355; clear HB; have BK354 := n0_; have BK355 := n1_; have HB := n2_; clear n0_ n1_ n2_; (try clear hb); (try clear hb2); (try clear hk); (try clear hi); have hcz59_0 : w58.cell? ⟨gb354, 0, none⟩ = some (.slice A0_0 l0_0.length c0_0) := (blk_cell BK354.out 0).trans rfl; have hcz59_1 : w58.cell? ⟨gb354, 1, none⟩ = some (.int .i64 a0_1) := (blk_cell BK354.out 1).trans rfl; have hcz59_2 : w58.cell? ⟨gb354, 2, none⟩ = some (.bool a0_2) := (blk_cell BK354.out 2).trans rfl; have hcz59_3 : w58.cell? ⟨gb354, 3, none⟩ = some (.slice A0_3 l0_3.length c0_3) := (blk_cell BK354.out 3).trans rfl; have hcz59_4 : w58.cell? ⟨gb354, 4, none⟩ = some (.slice A0_4 l0_4.length c0_4) := (blk_cell BK354.out 4).trans rfl; have hfz59_0 := blk_frozen BK354.out 0; have hfz59_1 := blk_frozen BK354.out 1; have hfz59_2 := blk_frozen BK354.out 2; have hfz59_3 := blk_frozen BK354.out 3; have hfz59_4 := blk_frozen BK354.out 4; have hcz60_0 : w58.cell? ⟨gb355, 0, none⟩ = some (.slice A1_0 l1_0.length c1_0) := (blk_cell BK355.out 0).trans rfl; have hcz60_1 : w58.cell? ⟨gb355, 1, none⟩ = some (.int .i64 a1_1) := (blk_cell BK355.out 1).trans rfl; have hcz60_2 : w58.cell? ⟨gb355, 2, none⟩ = some (.bool a1_2) := (blk_cell BK355.out 2).trans rfl; have hcz60_3 : w58.cell? ⟨gb355, 3, none⟩ = some (.slice A1_3 l1_3.length c1_3) := (blk_cell BK355.out 3).trans rfl; have hcz60_4 : w58.cell? ⟨gb355, 4, none⟩ = some (.slice A1_4 l1_4.length c1_4) := (blk_cell BK355.out 4).trans rfl; have hfz60_0 := blk_frozen BK355.out 0; have hfz60_1 := blk_frozen BK355.out 1; have hfz60_2 := blk_frozen BK355.out 2; have hfz60_3 := blk_frozen BK355.out 3; have hfz60_4 := blk_frozen BK355.out 4) | ((with_reducible refine gate_callee (f := 68) rfl ?_); refine goesL_ (some 15) rfl rfl Tryd.func68 (by kernel_rfl) rfl #[.agg #[.int .i64 a0_1, .bool a0_2], .agg #[.int .i64 a1_1, .bool a1_2]] rfl (by (try simp only [List.map_toArray, List.map_cons, List.map_nil]); first | done | rfl | (simp only [List.length_drop, List.length_take]; rfl)) ?_; (with_reducible refine (laws_eqTone.calls a0_1 a0_2 a1_1 a1_2 false _ A5.out).mono ?_); rintro e w61 ⟨rfl, hb⟩; refine ⟨_, rfl, ?_⟩; have n0_ := Aside0.mk (blk_below (g := gb354) (o := .cells #[.slice A0_0 l0_0.length c0_0, .int .i64 a0_1, .bool a0_2, .slice A0_3 l0_3.length c0_3, .slice A0_4 l0_4.length c0_4] 27 (0, 0)) (by (with_reducible repeat (first | refine blk_drewN ?_ _ | refine blk_drew ?_ | refine blk_alloc ?_ _)); exact BK354.out) hb); have n1_ := Aside0.mk (blk_below (g := gb355) (o := .cells #[.slice A1_0 l1_0.length c1_0, .int .i64 a1_1, .bool a1_2, .slice A1_3 l1_3.length c1_3, .slice A1_4 l1_4.length c1_4] 27 (0, 0)) (by (with_reducible repeat (first | refine blk_drewN ?_ _ | refine blk_drew ?_ | refine blk_alloc ?_ _)); exact BK355.out) hb); have n2_ := Aside0.mk (below_step (by repeat (first | (with_reducible first | exact HB.out | apply below_alloc | apply pw_below_drewN | apply below_drew1 | refine below_set ?_ GE354.out | refine below_set ?_ GE355.out) | exact HB.out)) hb); clear BK354; clear BK355; clear HB; have BK354 := n0_; have BK355 := n1_; have HB := n2_; clear n0_ n1_ n2_; (try clear hb); (try clear hb2); (try clear hk); (try clear hi)))
  go_ret
  exact ⟨by first | rfl | (simp [errW_none, errW_some] <;> rfl) | (simp [*, errW_none, errW_some] <;> rfl), by repeat (first | (with_reducible first | exact HB.out | apply below_alloc | apply pw_below_drewN | apply below_drew1 | refine below_set ?_ GE354.out | refine below_set ?_ GE355.out) | exact HB.out)⟩
 subst c6
 have H1 : ((laws_eqToneS.f k l0_3 l1_3).bind fun t358 => (if t358 = true then ((laws_eqToneS.f k l0_4 l1_4).bind fun t359 => (if t359 = true then (some true) else (some false))) else (some false))) = some r := by rw [if_pos rfl] at H; exact H
 clear H
 have H := H1
 clear H1
 replace H := Option.bind_eq_some_iff.mp H
 obtain ⟨t358, A70, H⟩ := H
 replace H : (if t358 = true then ((laws_eqToneS.f k l0_4 l1_4).bind fun t359 => (if t359 = true then (some true) else (some false))) else (some false)) = some r := H
 have A7 := Aside0.mk A70
 clear A70
 by_cases c8 : t358 = true
 rotate_left
 ·replace c8 := Bool.eq_false_iff.mpr c8
  subst c8
  have H1 : (some false) = some r := by rw [if_neg (show ¬ (false = true) by decide)] at H; exact H
  clear H
  have H := H1
  clear H1
  obtain rfl := Option.some.inj H
  go_enter Tryd.func26, Tryd.ntmps26
  go_wp2_with (first | ((with_reducible refine gate_dst (N := 2) rfl ?_); refine box_event ?hg (N := 2) ?hd (cs := #[.slice A0_0 l0_0.length c0_0, .int .i64 a0_1, .bool a0_2, .slice A0_3 l0_3.length c0_3, .slice A0_4 l0_4.length c0_4]) (t := 27) ?hr ?_; (case hd => rfl); (case hg => rfl); (case hr => first | (go_simp; done) | (go_simp; rfl)); intro gb354 hg w41 hbox hb; have n0_ := Aside0.mk (below_step (by repeat (first | (with_reducible first | exact HB.out | apply below_alloc | apply pw_below_drewN | apply below_drew1) | exact HB.out)) hb); have n1_ := Aside0.mk (hbox); have n2_ := Aside0.mk ((by rw [hg]; exact (below_size (by repeat (first | (with_reducible first | exact HB.out | apply below_alloc | apply pw_below_drewN | apply below_drew1) | exact HB.out))) : w.heap.size ≤ gb354)); have n3_ := Aside0.mk ((by rw [hg]; exact (below_size (by repeat (first | (with_reducible first | exact HB.out | apply below_alloc | apply pw_below_drewN | apply below_drew1) | exact HB.out))) : w.heap.size ≤ gb354)); clear HB; have HB := n0_; have BK354 := n1_; have GW354 := n2_; have GE354 := n3_; clear n0_ n1_ n2_ n3_; clear hb hbox hg) | ((with_reducible refine gate_dst (N := 3) rfl ?_); refine box_event ?hg (N := 3) ?hd (cs := #[.slice A1_0 l1_0.length c1_0, .int .i64 a1_1, .bool a1_2, .slice A1_3 l1_3.length c1_3, .slice A1_4 l1_4.length c1_4]) (t := 27) ?hr ?_; (case hd => rfl); (case hg => rfl); (case hr => first | (go_simp; done) | (go_simp; rfl)); intro gb355 hg w42 hbox hb; have n0_ := Aside0.mk (blk_below (g := gb354) (o := .cells #[.slice A0_0 l0_0.length c0_0, .int .i64 a0_1, .bool a0_2, .slice A0_3 l0_3.length c0_3, .slice A0_4 l0_4.length c0_4] 27 (0, 0)) (by (with_reducible repeat (first | refine blk_drewN ?_ _ | refine blk_drew ?_ | refine blk_alloc ?_ _)); exact BK354.out) hb); have n1_ := Aside0.mk (below_step (by repeat (first | (with_reducible first | exact HB.out | apply below_alloc | apply pw_below_drewN | apply below_drew1 | refine below_set ?_ GE354.out) | exact HB.out)) hb); have n2_ := Aside0.mk (hbox); have n3_ := Aside0.mk ((by rw [hg]; exact (below_size (by repeat (first | (with_reducible first | exact HB.out | apply below_alloc | apply pw_below_drewN | apply below_drew1 | refine below_set ?_ GE354.out) | exact HB.out))) : w.heap.size ≤ gb355)); have n4_ := Aside0.mk ((by rw [hg]; exact (below_size (by repeat (first | (with_reducible first | exact HB.out | apply below_alloc | apply pw_below_drewN | apply below_drew1 | refine below_set ?_ GE354.out) | exact HB.out))) : w.heap.size ≤ gb355)); have n5_ := Aside0.mk ((by rw [hg]; exact Nat.ne_of_lt (blk_lt (g := gb354) (o := .cells #[.slice A0_0 l0_0.length c0_0, .int .i64 a0_1, .bool a0_2, .slice A0_3 l0_3.length c0_3, .slice A0_4 l0_4.length c0_4] 27 (0, 0)) (by (with_reducible repeat (first | refine blk_drewN ?_ _ | refine blk_drew ?_ | refine blk_alloc ?_ _)); exact BK354.out)) : gb354 ≠ gb355)); have n6_ := Aside0.mk ((by rw [hg]; exact Nat.ne_of_gt (blk_lt (g := gb354) (o := .cells #[.slice A0_0 l0_0.length c0_0, .int .i64 a0_1, .bool a0_2, .slice A0_3 l0_3.length c0_3, .slice A0_4 l0_4.length c0_4] 27 (0, 0)) (by (with_reducible repeat (first | refine blk_drewN ?_ _ | refine blk_drew ?_ | refine blk_alloc ?_ _)); exact BK354.out)) : gb355 ≠ gb354)); clear BK354; clear HB; have BK354 := n0_; have HB := n1_; have BK355 := n2_; have GW355 := n3_; have GE355 := n4_; have NB354_355 := n5_; have NB355_354 := n6_; clear n0_ n1_ n2_ n3_ n4_ n5_ n6_; clear hb hbox hg; have hnb43 := NB354_355.out; have hnc43 := NB355_354.out; have hcz44_0 : w42.cell? ⟨gb354, 0, none⟩ = some (.slice A0_0 l0_0.length c0_0) := (blk_cell BK354.out 0).trans rfl; have hcz44_1 : w42.cell? ⟨gb354, 1, none⟩ = some (.int .i64 a0_1) := (blk_cell BK354.out 1).trans rfl; have hcz44_2 : w42.cell? ⟨gb354, 2, none⟩ = some (.bool a0_2) := (blk_cell BK354.out 2).trans rfl; have hcz44_3 : w42.cell? ⟨gb354, 3, none⟩ = some (.slice A0_3 l0_3.length c0_3) := (blk_cell BK354.out 3).trans rfl; have hcz44_4 : w42.cell? ⟨gb354, 4, none⟩ = some (.slice A0_4 l0_4.length c0_4) := (blk_cell BK354.out 4).trans rfl; have hfz44_0 := blk_frozen BK354.out 0; have hfz44_1 := blk_frozen BK354.out 1; have hfz44_2 := blk_frozen BK354.out 2; have hfz44_3 := blk_frozen BK354.out 3; have hfz44_4 := blk_frozen BK354.out 4; have hcz45_0 : w42.cell? ⟨gb355, 0, none⟩ = some (.slice A1_0 l1_0.length c1_0) := (blk_cell BK355.out 0).trans rfl; have hcz45_1 : w42.cell? ⟨gb355, 1, none⟩ = some (.int .i64 a1_1) := (blk_cell BK355.out 1).trans rfl; have hcz45_2 : w42.cell? ⟨gb355, 2, none⟩ = some (.bool a1_2) := (blk_cell BK355.out 2).trans rfl; have hcz45_3 : w42.cell? ⟨gb355, 3, none⟩ = some (.slice A1_3 l1_3.length c1_3) := (blk_cell BK355.out 3).trans rfl; have hcz45_4 : w42.cell? ⟨gb355, 4, none⟩ = some (.slice A1_4 l1_4.length c1_4) := (blk_cell BK355.out 4).trans rfl; have hfz45_0 := blk_frozen BK355.out 0; have hfz45_1 := blk_frozen BK355.out 1; have hfz45_2 := blk_frozen BK355.out 2; have hfz45_3 := blk_frozen BK355.out 3; have hfz45_4 := blk_frozen BK355.out 4) | ((with_reducible refine gate_callee (f := 36) rfl ?_); refine goesL_ (some 9) rfl rfl Tryd.func36 (by kernel_rfl) rfl #[.slice A0_0 l0_0.length c0_0, .slice A1_0 l1_0.length c1_0] rfl (by (try simp only [List.map_toArray, List.map_cons, List.map_nil]); first | done | rfl | (simp only [List.length_drop, List.length_take]; rfl)) ?_; (with_reducible refine (laws_eqToneS.calls k _ _ l0_0 _ _ l1_0 true _ ?side1 ?side2 ?side3 ?side4 A3.out).mono ?_); (case side1 => repeat (first | exact (Kd.C_below HR0_0.out HB.out) | (with_reducible refine Kd.C_alloc ?_ _) | (with_reducible refine Kd.C_drewN ?_ _) | (with_reducible refine Kd.C_drew ?_))); (case side2 => exact HC0_0.out); (case side3 => repeat (first | exact (Kd.C_below HR1_0.out HB.out) | (with_reducible refine Kd.C_alloc ?_ _) | (with_reducible refine Kd.C_drewN ?_ _) | (with_reducible refine Kd.C_drew ?_))); (case side4 => exact HC1_0.out); rintro e w46 ⟨rfl, hb⟩; refine ⟨_, rfl, ?_⟩; have n0_ := Aside0.mk (blk_below (g := gb354) (o := .cells #[.slice A0_0 l0_0.length c0_0, .int .i64 a0_1, .bool a0_2, .slice A0_3 l0_3.length c0_3, .slice A0_4 l0_4.length c0_4] 27 (0, 0)) (by (with_reducible repeat (first | refine blk_drewN ?_ _ | refine blk_drew ?_ | refine blk_alloc ?_ _)); exact BK354.out) hb); have n1_ := Aside0.mk (blk_below (g := gb355) (o := .cells #[.slice A1_0 l1_0.length c1_0, .int .i64 a1_1, .bool a1_2, .slice A1_3 l1_3.length c1_3, .slice A1_4 l1_4.length c1_4] 27 (0, 0)) (by (with_reducible repeat (first | refine blk_drewN ?_ _ | refine blk_drew ?_ | refine blk_alloc ?_ _)); exact BK355.out) hb); have n2_ := Aside0.mk (below_step (by repeat (first | (with_reducible first | exact HB.out | apply below_alloc | apply pw_below_drewN | apply below_drew1 | refine below_set ?_ GE354.out | refine below_set ?_ GE355.out) | exact HB.out)) hb); clear BK354; clear BK355; clear HB; have BK354 := n0_; have BK355 := n1_; have HB := n2_; clear n0_ n1_ n2_; (try clear hb); (try clear hb2); (try clear hk); (try clear hi); have hcz47_0 : w46.cell? ⟨gb354, 0, none⟩ = some (.slice A0_0 l0_0.length c0_0) := (blk_cell BK354.out 0).trans rfl; have hcz47_1 : w46.cell? ⟨gb354, 1, none⟩ = some (.int .i64 a0_1) := (blk_cell BK354.out 1).trans rfl; have hcz47_2 : w46.cell? ⟨gb354, 2, none⟩ = some (.bool a0_2) := (blk_cell BK354.out 2).trans rfl; have hcz47_3 : w46.cell? ⟨gb354, 3, none⟩ = some (.slice A0_3 l0_3.length c0_3) := (blk_cell BK354.out 3).trans rfl; have hcz47_4 : w46.cell? ⟨gb354, 4, none⟩ = some (.slice A0_4 l0_4.length c0_4) := (blk_cell BK354.out 4).trans rfl; have hfz47_0 := blk_frozen BK354.out 0; have hfz47_1 := blk_frozen BK354.out 1; have hfz47_2 := blk_frozen BK354.out 2; have hfz47_3 := blk_frozen BK354.out 3; have hfz47_4 := blk_frozen BK354.out 4; have hcz48_0 : w46.cell? ⟨gb355, 0, none⟩ = some (.slice A1_0 l1_0.length c1_0) := (blk_cell BK355.out 0).trans rfl; have hcz48_1 : w46.cell? ⟨gb355, 1, none⟩ = some (.int .i64 a1_1) := (blk_cell BK355.out 1).trans rfl; have hcz48_2 : w46.cell? ⟨gb355, 2, none⟩ = some (.bool a1_2) := (blk_cell BK355.out 2).trans rfl; have hcz48_3 : w46.cell? ⟨gb355, 3, none⟩ = some (.slice A1_3 l1_3.length c1_3) := (blk_cell BK355.out 3).trans rfl; have hcz48_4 : w46.cell? ⟨gb355, 4, none⟩ = some (.slice A1_4 l1_4.length c1_4) := (blk_cell BK355.out 4).trans rfl; have hfz48_0 := blk_frozen BK355.out 0; have hfz48_1 := blk_frozen BK355.out 1; have hfz48_2 := blk_frozen BK355.out 2; have hfz48_3 := blk_frozen BK355.out 3; have hfz48_4 := blk_frozen BK355.out 4) | ((with_reducible refine gate_callee (f := 68) rfl ?_); refine goesL_ (some 15) rfl rfl Tryd.func68 (by kernel_rfl) rfl #[.agg #[.int .i64 a0_1, .bool a0_2], .agg #[.int .i64 a1_1, .bool a1_2]] rfl (by (try simp only [List.map_toArray, List.map_cons, List.map_nil]); first | done | rfl | (simp only [List.length_drop, List.length_take]; rfl)) ?_; (with_reducible refine (laws_eqTone.calls a0_1 a0_2 a1_1 a1_2 true _ A5.out).mono ?_); rintro e w49 ⟨rfl, hb⟩; refine ⟨_, rfl, ?_⟩; have n0_ := Aside0.mk (blk_below (g := gb354) (o := .cells #[.slice A0_0 l0_0.length c0_0, .int .i64 a0_1, .bool a0_2, .slice A0_3 l0_3.length c0_3, .slice A0_4 l0_4.length c0_4] 27 (0, 0)) (by (with_reducible repeat (first | refine blk_drewN ?_ _ | refine blk_drew ?_ | refine blk_alloc ?_ _)); exact BK354.out) hb); have n1_ := Aside0.mk (blk_below (g := gb355) (o := .cells #[.slice A1_0 l1_0.length c1_0, .int .i64 a1_1, .bool a1_2, .slice A1_3 l1_3.length c1_3, .slice A1_4 l1_4.length c1_4] 27 (0, 0)) (by (with_reducible repeat (first | refine blk_drewN ?_ _ | refine blk_drew ?_ | refine blk_alloc ?_ _)); exact BK355.out) hb); have n2_ := Aside0.mk (below_step (by repeat (first | (with_reducible first | exact HB.out | apply below_alloc | apply pw_below_drewN | apply below_drew1 | refine below_set ?_ GE354.out | refine below_set ?_ GE355.out) | exact HB.out)) hb); clear BK354; clear BK355; clear HB; have BK354 := n0_; have BK355 := n1_; have HB := n2_; clear n0_ n1_ n2_; (try clear hb); (try clear hb2); (try clear hk); (try clear hi); have hcz50_0 : w49.cell? ⟨gb354, 0, none⟩ = some (.slice A0_0 l0_0.length c0_0) := (blk_cell BK354.out 0).trans rfl; have hcz50_1 : w49.cell? ⟨gb354, 1, none⟩ = some (.int .i64 a0_1) := (blk_cell BK354.out 1).trans rfl; have hcz50_2 : w49.cell? ⟨gb354, 2, none⟩ = some (.bool a0_2) := (blk_cell BK354.out 2).trans rfl; have hcz50_3 : w49.cell? ⟨gb354, 3, none⟩ = some (.slice A0_3 l0_3.length c0_3) := (blk_cell BK354.out 3).trans rfl; have hcz50_4 : w49.cell? ⟨gb354, 4, none⟩ = some (.slice A0_4 l0_4.length c0_4) := (blk_cell BK354.out 4).trans rfl; have hfz50_0 := blk_frozen BK354.out 0; have hfz50_1 := blk_frozen BK354.out 1; have hfz50_2 := blk_frozen BK354.out 2; have hfz50_3 := blk_frozen BK354.out 3; have hfz50_4 := blk_frozen BK354.out 4; have hcz51_0 : w49.cell? ⟨gb355, 0, none⟩ = some (.slice A1_0 l1_0.length c1_0) := (blk_cell BK355.out 0).trans rfl; have hcz51_1 : w49.cell? ⟨gb355, 1, none⟩ = some (.int .i64 a1_1) := (blk_cell BK355.out 1).trans rfl; have hcz51_2 : w49.cell? ⟨gb355, 2, none⟩ = some (.bool a1_2) := (blk_cell BK355.out 2).trans rfl; have hcz51_3 : w49.cell? ⟨gb355, 3, none⟩ = some (.slice A1_3 l1_3.length c1_3) := (blk_cell BK355.out 3).trans rfl; have hcz51_4 : w49.cell? ⟨gb355, 4, none⟩ = some (.slice A1_4 l1_4.length c1_4) := (blk_cell BK355.out 4).trans rfl; have hfz51_0 := blk_frozen BK355.out 0; have hfz51_1 := blk_frozen BK355.out 1; have hfz51_2 := blk_frozen BK355.out 2; have hfz51_3 := blk_frozen BK355.out 3; have hfz51_4 := blk_frozen BK355.out 4) | ((with_reducible refine gate_callee (f := 36) rfl ?_); refine goesL_ (some 21) rfl rfl Tryd.func36 (by kernel_rfl) rfl #[.slice A0_3 l0_3.length c0_3, .slice A1_3 l1_3.length c1_3] rfl (by (try simp only [List.map_toArray, List.map_cons, List.map_nil]); first | done | rfl | (simp only [List.length_drop, List.length_take]; rfl)) ?_; (with_reducible refine (laws_eqToneS.calls k _ _ l0_3 _ _ l1_3 false _ ?side1 ?side2 ?side3 ?side4 A7.out).mono ?_); (case side1 => repeat (first | exact (Kd.C_below HR0_3.out HB.out) | (with_reducible refine Kd.C_alloc ?_ _) | (with_reducible refine Kd.C_drewN ?_ _) | (with_reducible refine Kd.C_drew ?_))); (case side2 => exact HC0_3.out); (case side3 => repeat (first | exact (Kd.C_below HR1_3.out HB.out) | (with_reducible refine Kd.C_alloc ?_ _) | (with_reducible refine Kd.C_drewN ?_ _) | (with_reducible refine Kd.C_drew ?_))); (case side4 => exact HC1_3.out); rintro e w52 ⟨rfl, hb⟩; refine ⟨_, rfl, ?_⟩; have n0_ := Aside0.mk (blk_below (g := gb354) (o := .cells #[.slice A0_0 l0_0.length c0_0, .int .i64 a0_1, .bool a0_2, .slice A0_3 l0_3.length c0_3, .slice A0_4 l0_4.length c0_4] 27 (0, 0)) (by (with_reducible repeat (first | refine blk_drewN ?_ _ | refine blk_drew ?_ | refine blk_alloc ?_ _)); exact BK354.out) hb); have n1_ := Aside0.mk (blk_below (g := gb355) (o := .cells #[.slice A1_0 l1_0.length c1_0, .int .i64 a1_1, .bool a1_2, .slice A1_3 l1_3.length c1_3, .slice A1_4 l1_4.length c1_4] 27 (0, 0)) (by (with_reducible repeat (first | refine blk_drewN ?_ _ | refine blk_drew ?_ | refine blk_alloc ?_ _)); exact BK355.out) hb); have n2_ := Aside0.mk (below_step (by repeat (first | (with_reducible first | exact HB.out | apply below_alloc | apply pw_below_drewN | apply below_drew1 | refine below_set ?_ GE354.out | refine below_set ?_ GE355.out) | exact HB.out)) hb); clear BK354; clear BK355; clear HB; have BK354 := n0_; have BK355 := n1_; have HB := n2_; clear n0_ n1_ n2_; (try clear hb); (try clear hb2); (try clear hk); (try clear hi)))
  go_ret
  exact ⟨by first | rfl | (simp [errW_none, errW_some] <;> rfl) | (simp [*, errW_none, errW_some] <;> rfl), by repeat (first | (with_reducible first | exact HB.out | apply below_alloc | apply pw_below_drewN | apply below_drew1 | refine below_set ?_ GE354.out | refine below_set ?_ GE355.out) | exact HB.out)⟩
 subst c8
 have H1 : ((laws_eqToneS.f k l0_4 l1_4).bind fun t359 => (if t359 = true then (some true) else (some false))) = some r := by rw [if_pos rfl] at H; exact H
 clear H
 have H := H1
 clear H1
 replace H := Option.bind_eq_some_iff.mp H
 obtain ⟨t359, A90, H⟩ := H
 replace H : (if t359 = true then (some true) else (some false)) = some r := H
 have A9 := Aside0.mk A90
 clear A90
 by_cases c10 : t359 = true
 ·subst c10
  have H1 : (some true) = some r := by rw [if_pos rfl] at H; exact H
  clear H
  have H := H1
  clear H1
  obtain rfl := Option.some.inj H
  go_enter Tryd.func26, Tryd.ntmps26
  go_wp2_with (first | ((with_reducible refine gate_dst (N := 2) rfl ?_); refine box_event ?hg (N := 2) ?hd (cs := #[.slice A0_0 l0_0.length c0_0, .int .i64 a0_1, .bool a0_2, .slice A0_3 l0_3.length c0_3, .slice A0_4 l0_4.length c0_4]) (t := 27) ?hr ?_; (case hd => rfl); (case hg => rfl); (case hr => first | (go_simp; done) | (go_simp; rfl)); intro gb354 hg w11 hbox hb; have n0_ := Aside0.mk (below_step (by repeat (first | (with_reducible first | exact HB.out | apply below_alloc | apply pw_below_drewN | apply below_drew1) | exact HB.out)) hb); have n1_ := Aside0.mk (hbox); have n2_ := Aside0.mk ((by rw [hg]; exact (below_size (by repeat (first | (with_reducible first | exact HB.out | apply below_alloc | apply pw_below_drewN | apply below_drew1) | exact HB.out))) : w.heap.size ≤ gb354)); have n3_ := Aside0.mk ((by rw [hg]; exact (below_size (by repeat (first | (with_reducible first | exact HB.out | apply below_alloc | apply pw_below_drewN | apply below_drew1) | exact HB.out))) : w.heap.size ≤ gb354)); clear HB; have HB := n0_; have BK354 := n1_; have GW354 := n2_; have GE354 := n3_; clear n0_ n1_ n2_ n3_; clear hb hbox hg) | ((with_reducible refine gate_dst (N := 3) rfl ?_); refine box_event ?hg (N := 3) ?hd (cs := #[.slice A1_0 l1_0.length c1_0, .int .i64 a1_1, .bool a1_2, .slice A1_3 l1_3.length c1_3, .slice A1_4 l1_4.length c1_4]) (t := 27) ?hr ?_; (case hd => rfl); (case hg => rfl); (case hr => first | (go_simp; done) | (go_simp; rfl)); intro gb355 hg w12 hbox hb; have n0_ := Aside0.mk (blk_below (g := gb354) (o := .cells #[.slice A0_0 l0_0.length c0_0, .int .i64 a0_1, .bool a0_2, .slice A0_3 l0_3.length c0_3, .slice A0_4 l0_4.length c0_4] 27 (0, 0)) (by (with_reducible repeat (first | refine blk_drewN ?_ _ | refine blk_drew ?_ | refine blk_alloc ?_ _)); exact BK354.out) hb); have n1_ := Aside0.mk (below_step (by repeat (first | (with_reducible first | exact HB.out | apply below_alloc | apply pw_below_drewN | apply below_drew1 | refine below_set ?_ GE354.out) | exact HB.out)) hb); have n2_ := Aside0.mk (hbox); have n3_ := Aside0.mk ((by rw [hg]; exact (below_size (by repeat (first | (with_reducible first | exact HB.out | apply below_alloc | apply pw_below_drewN | apply below_drew1 | refine below_set ?_ GE354.out) | exact HB.out))) : w.heap.size ≤ gb355)); have n4_ := Aside0.mk ((by rw [hg]; exact (below_size (by repeat (first | (with_reducible first | exact HB.out | apply below_alloc | apply pw_below_drewN | apply below_drew1 | refine below_set ?_ GE354.out) | exact HB.out))) : w.heap.size ≤ gb355)); have n5_ := Aside0.mk ((by rw [hg]; exact Nat.ne_of_lt (blk_lt (g := gb354) (o := .cells #[.slice A0_0 l0_0.length c0_0, .int .i64 a0_1, .bool a0_2, .slice A0_3 l0_3.length c0_3, .slice A0_4 l0_4.length c0_4] 27 (0, 0)) (by (with_reducible repeat (first | refine blk_drewN ?_ _ | refine blk_drew ?_ | refine blk_alloc ?_ _)); exact BK354.out)) : gb354 ≠ gb355)); have n6_ := Aside0.mk ((by rw [hg]; exact Nat.ne_of_gt (blk_lt (g := gb354) (o := .cells #[.slice A0_0 l0_0.length c0_0, .int .i64 a0_1, .bool a0_2, .slice A0_3 l0_3.length c0_3, .slice A0_4 l0_4.length c0_4] 27 (0, 0)) (by (with_reducible repeat (first | refine blk_drewN ?_ _ | refine blk_drew ?_ | refine blk_alloc ?_ _)); exact BK354.out)) : gb355 ≠ gb354)); clear BK354; clear HB; have BK354 := n0_; have HB := n1_; have BK355 := n2_; have GW355 := n3_; have GE355 := n4_; have NB354_355 := n5_; have NB355_354 := n6_; clear n0_ n1_ n2_ n3_ n4_ n5_ n6_; clear hb hbox hg; have hnb13 := NB354_355.out; have hnc13 := NB355_354.out; have hcz14_0 : w12.cell? ⟨gb354, 0, none⟩ = some (.slice A0_0 l0_0.length c0_0) := (blk_cell BK354.out 0).trans rfl; have hcz14_1 : w12.cell? ⟨gb354, 1, none⟩ = some (.int .i64 a0_1) := (blk_cell BK354.out 1).trans rfl; have hcz14_2 : w12.cell? ⟨gb354, 2, none⟩ = some (.bool a0_2) := (blk_cell BK354.out 2).trans rfl; have hcz14_3 : w12.cell? ⟨gb354, 3, none⟩ = some (.slice A0_3 l0_3.length c0_3) := (blk_cell BK354.out 3).trans rfl; have hcz14_4 : w12.cell? ⟨gb354, 4, none⟩ = some (.slice A0_4 l0_4.length c0_4) := (blk_cell BK354.out 4).trans rfl; have hfz14_0 := blk_frozen BK354.out 0; have hfz14_1 := blk_frozen BK354.out 1; have hfz14_2 := blk_frozen BK354.out 2; have hfz14_3 := blk_frozen BK354.out 3; have hfz14_4 := blk_frozen BK354.out 4; have hcz15_0 : w12.cell? ⟨gb355, 0, none⟩ = some (.slice A1_0 l1_0.length c1_0) := (blk_cell BK355.out 0).trans rfl; have hcz15_1 : w12.cell? ⟨gb355, 1, none⟩ = some (.int .i64 a1_1) := (blk_cell BK355.out 1).trans rfl; have hcz15_2 : w12.cell? ⟨gb355, 2, none⟩ = some (.bool a1_2) := (blk_cell BK355.out 2).trans rfl; have hcz15_3 : w12.cell? ⟨gb355, 3, none⟩ = some (.slice A1_3 l1_3.length c1_3) := (blk_cell BK355.out 3).trans rfl; have hcz15_4 : w12.cell? ⟨gb355, 4, none⟩ = some (.slice A1_4 l1_4.length c1_4) := (blk_cell BK355.out 4).trans rfl; have hfz15_0 := blk_frozen BK355.out 0; have hfz15_1 := blk_frozen BK355.out 1; have hfz15_2 := blk_frozen BK355.out 2; have hfz15_3 := blk_frozen BK355.out 3; have hfz15_4 := blk_frozen BK355.out 4) | ((with_reducible refine gate_callee (f := 36) rfl ?_); refine goesL_ (some 9) rfl rfl Tryd.func36 (by kernel_rfl) rfl #[.slice A0_0 l0_0.length c0_0, .slice A1_0 l1_0.length c1_0] rfl (by (try simp only [List.map_toArray, List.map_cons, List.map_nil]); first | done | rfl | (simp only [List.length_drop, List.length_take]; rfl)) ?_; (with_reducible refine (laws_eqToneS.calls k _ _ l0_0 _ _ l1_0 true _ ?side1 ?side2 ?side3 ?side4 A3.out).mono ?_); (case side1 => repeat (first | exact (Kd.C_below HR0_0.out HB.out) | (with_reducible refine Kd.C_alloc ?_ _) | (with_reducible refine Kd.C_drewN ?_ _) | (with_reducible refine Kd.C_drew ?_))); (case side2 => exact HC0_0.out); (case side3 => repeat (first | exact (Kd.C_below HR1_0.out HB.out) | (with_reducible refine Kd.C_alloc ?_ _) | (with_reducible refine Kd.C_drewN ?_ _) | (with_reducible refine Kd.C_drew ?_))); (case side4 => exact HC1_0.out); rintro e w16 ⟨rfl, hb⟩; refine ⟨_, rfl, ?_⟩; have n0_ := Aside0.mk (blk_below (g := gb354) (o := .cells #[.slice A0_0 l0_0.length c0_0, .int .i64 a0_1, .bool a0_2, .slice A0_3 l0_3.length c0_3, .slice A0_4 l0_4.length c0_4] 27 (0, 0)) (by (with_reducible repeat (first | refine blk_drewN ?_ _ | refine blk_drew ?_ | refine blk_alloc ?_ _)); exact BK354.out) hb); have n1_ := Aside0.mk (blk_below (g := gb355) (o := .cells #[.slice A1_0 l1_0.length c1_0, .int .i64 a1_1, .bool a1_2, .slice A1_3 l1_3.length c1_3, .slice A1_4 l1_4.length c1_4] 27 (0, 0)) (by (with_reducible repeat (first | refine blk_drewN ?_ _ | refine blk_drew ?_ | refine blk_alloc ?_ _)); exact BK355.out) hb); have n2_ := Aside0.mk (below_step (by repeat (first | (with_reducible first | exact HB.out | apply below_alloc | apply pw_below_drewN | apply below_drew1 | refine below_set ?_ GE354.out | refine below_set ?_ GE355.out) | exact HB.out)) hb); clear BK354; clear BK355; clear HB; have BK354 := n0_; have BK355 := n1_; have HB := n2_; clear n0_ n1_ n2_; (try clear hb); (try clear hb2); (try clear hk); (try clear hi); have hcz17_0 : w16.cell? ⟨gb354, 0, none⟩ = some (.slice A0_0 l0_0.length c0_0) := (blk_cell BK354.out 0).trans rfl; have hcz17_1 : w16.cell? ⟨gb354, 1, none⟩ = some (.int .i64 a0_1) := (blk_cell BK354.out 1).trans rfl; have hcz17_2 : w16.cell? ⟨gb354, 2, none⟩ = some (.bool a0_2) := (blk_cell BK354.out 2).trans rfl; have hcz17_3 : w16.cell? ⟨gb354, 3, none⟩ = some (.slice A0_3 l0_3.length c0_3) := (blk_cell BK354.out 3).trans rfl; have hcz17_4 : w16.cell? ⟨gb354, 4, none⟩ = some (.slice A0_4 l0_4.length c0_4) := (blk_cell BK354.out 4).trans rfl; have hfz17_0 := blk_frozen BK354.out 0; have hfz17_1 := blk_frozen BK354.out 1; have hfz17_2 := blk_frozen BK354.out 2; have hfz17_3 := blk_frozen BK354.out 3; have hfz17_4 := blk_frozen BK354.out 4; have hcz18_0 : w16.cell? ⟨gb355, 0, none⟩ = some (.slice A1_0 l1_0.length c1_0) := (blk_cell BK355.out 0).trans rfl; have hcz18_1 : w16.cell? ⟨gb355, 1, none⟩ = some (.int .i64 a1_1) := (blk_cell BK355.out 1).trans rfl; have hcz18_2 : w16.cell? ⟨gb355, 2, none⟩ = some (.bool a1_2) := (blk_cell BK355.out 2).trans rfl; have hcz18_3 : w16.cell? ⟨gb355, 3, none⟩ = some (.slice A1_3 l1_3.length c1_3) := (blk_cell BK355.out 3).trans rfl; have hcz18_4 : w16.cell? ⟨gb355, 4, none⟩ = some (.slice A1_4 l1_4.length c1_4) := (blk_cell BK355.out 4).trans rfl; have hfz18_0 := blk_frozen BK355.out 0; have hfz18_1 := blk_frozen BK355.out 1; have hfz18_2 := blk_frozen BK355.out 2; have hfz18_3 := blk_frozen BK355.out 3; have hfz18_4 := blk_frozen BK355.out 4) | ((with_reducible refine gate_callee (f := 68) rfl ?_); refine goesL_ (some 15) rfl rfl Tryd.func68 (by kernel_rfl) rfl #[.agg #[.int .i64 a0_1, .bool a0_2], .agg #[.int .i64 a1_1, .bool a1_2]] rfl (by (try simp only [List.map_toArray, List.map_cons, List.map_nil]); first | done | rfl | (simp only [List.length_drop, List.length_take]; rfl)) ?_; (with_reducible refine (laws_eqTone.calls a0_1 a0_2 a1_1 a1_2 true _ A5.out).mono ?_); rintro e w19 ⟨rfl, hb⟩; refine ⟨_, rfl, ?_⟩; have n0_ := Aside0.mk (blk_below (g := gb354) (o := .cells #[.slice A0_0 l0_0.length c0_0, .int .i64 a0_1, .bool a0_2, .slice A0_3 l0_3.length c0_3, .slice A0_4 l0_4.length c0_4] 27 (0, 0)) (by (with_reducible repeat (first | refine blk_drewN ?_ _ | refine blk_drew ?_ | refine blk_alloc ?_ _)); exact BK354.out) hb); have n1_ := Aside0.mk (blk_below (g := gb355) (o := .cells #[.slice A1_0 l1_0.length c1_0, .int .i64 a1_1, .bool a1_2, .slice A1_3 l1_3.length c1_3, .slice A1_4 l1_4.length c1_4] 27 (0, 0)) (by (with_reducible repeat (first | refine blk_drewN ?_ _ | refine blk_drew ?_ | refine blk_alloc ?_ _)); exact BK355.out) hb); have n2_ := Aside0.mk (below_step (by repeat (first | (with_reducible first | exact HB.out | apply below_alloc | apply pw_below_drewN | apply below_drew1 | refine below_set ?_ GE354.out | refine below_set ?_ GE355.out) | exact HB.out)) hb); clear BK354; clear BK355; clear HB; have BK354 := n0_; have BK355 := n1_; have HB := n2_; clear n0_ n1_ n2_; (try clear hb); (try clear hb2); (try clear hk); (try clear hi); have hcz20_0 : w19.cell? ⟨gb354, 0, none⟩ = some (.slice A0_0 l0_0.length c0_0) := (blk_cell BK354.out 0).trans rfl; have hcz20_1 : w19.cell? ⟨gb354, 1, none⟩ = some (.int .i64 a0_1) := (blk_cell BK354.out 1).trans rfl; have hcz20_2 : w19.cell? ⟨gb354, 2, none⟩ = some (.bool a0_2) := (blk_cell BK354.out 2).trans rfl; have hcz20_3 : w19.cell? ⟨gb354, 3, none⟩ = some (.slice A0_3 l0_3.length c0_3) := (blk_cell BK354.out 3).trans rfl; have hcz20_4 : w19.cell? ⟨gb354, 4, none⟩ = some (.slice A0_4 l0_4.length c0_4) := (blk_cell BK354.out 4).trans rfl; have hfz20_0 := blk_frozen BK354.out 0; have hfz20_1 := blk_frozen BK354.out 1; have hfz20_2 := blk_frozen BK354.out 2; have hfz20_3 := blk_frozen BK354.out 3; have hfz20_4 := blk_frozen BK354.out 4; have hcz21_0 : w19.cell? ⟨gb355, 0, none⟩ = some (.slice A1_0 l1_0.length c1_0) := (blk_cell BK355.out 0).trans rfl; have hcz21_1 : w19.cell? ⟨gb355, 1, none⟩ = some (.int .i64 a1_1) := (blk_cell BK355.out 1).trans rfl; have hcz21_2 : w19.cell? ⟨gb355, 2, none⟩ = some (.bool a1_2) := (blk_cell BK355.out 2).trans rfl; have hcz21_3 : w19.cell? ⟨gb355, 3, none⟩ = some (.slice A1_3 l1_3.length c1_3) := (blk_cell BK355.out 3).trans rfl; have hcz21_4 : w19.cell? ⟨gb355, 4, none⟩ = some (.slice A1_4 l1_4.length c1_4) := (blk_cell BK355.out 4).trans rfl; have hfz21_0 := blk_frozen BK355.out 0; have hfz21_1 := blk_frozen BK355.out 1; have hfz21_2 := blk_frozen BK355.out 2; have hfz21_3 := blk_frozen BK355.out 3; have hfz21_4 := blk_frozen BK355.out 4) | ((with_reducible refine gate_callee (f := 36) rfl ?_); refine goesL_ (some 21) rfl rfl Tryd.func36 (by kernel_rfl) rfl #[.slice A0_3 l0_3.length c0_3, .slice A1_3 l1_3.length c1_3] rfl (by (try simp only [List.map_toArray, List.map_cons, List.map_nil]); first | done | rfl | (simp only [List.length_drop, List.length_take]; rfl)) ?_; (with_reducible refine (laws_eqToneS.calls k _ _ l0_3 _ _ l1_3 true _ ?side1 ?side2 ?side3 ?side4 A7.out).mono ?_); (case side1 => repeat (first | exact (Kd.C_below HR0_3.out HB.out) | (with_reducible refine Kd.C_alloc ?_ _) | (with_reducible refine Kd.C_drewN ?_ _) | (with_reducible refine Kd.C_drew ?_))); (case side2 => exact HC0_3.out); (case side3 => repeat (first | exact (Kd.C_below HR1_3.out HB.out) | (with_reducible refine Kd.C_alloc ?_ _) | (with_reducible refine Kd.C_drewN ?_ _) | (with_reducible refine Kd.C_drew ?_))); (case side4 => exact HC1_3.out); rintro e w22 ⟨rfl, hb⟩; refine ⟨_, rfl, ?_⟩; have n0_ := Aside0.mk (blk_below (g := gb354) (o := .cells #[.slice A0_0 l0_0.length c0_0, .int .i64 a0_1, .bool a0_2, .slice A0_3 l0_3.length c0_3, .slice A0_4 l0_4.length c0_4] 27 (0, 0)) (by (with_reducible repeat (first | refine blk_drewN ?_ _ | refine blk_drew ?_ | refine blk_alloc ?_ _)); exact BK354.out) hb); have n1_ := Aside0.mk (blk_below (g := gb355) (o := .cells #[.slice A1_0 l1_0.length c1_0, .int .i64 a1_1, .bool a1_2, .slice A1_3 l1_3.length c1_3, .slice A1_4 l1_4.length c1_4] 27 (0, 0)) (by (with_reducible repeat (first | refine blk_drewN ?_ _ | refine blk_drew ?_ | refine blk_alloc ?_ _)); exact BK355.out) hb); have n2_ := Aside0.mk (below_step (by repeat (first | (with_reducible first | exact HB.out | apply below_alloc | apply pw_below_drewN | apply below_drew1 | refine below_set ?_ GE354.out | refine below_set ?_ GE355.out) | exact HB.out)) hb); clear BK354; clear BK355; clear HB; have BK354 := n0_; have BK355 := n1_; have HB := n2_; clear n0_ n1_ n2_; (try clear hb); (try clear hb2); (try clear hk); (try clear hi); have hcz23_0 : w22.cell? ⟨gb354, 0, none⟩ = some (.slice A0_0 l0_0.length c0_0) := (blk_cell BK354.out 0).trans rfl; have hcz23_1 : w22.cell? ⟨gb354, 1, none⟩ = some (.int .i64 a0_1) := (blk_cell BK354.out 1).trans rfl; have hcz23_2 : w22.cell? ⟨gb354, 2, none⟩ = some (.bool a0_2) := (blk_cell BK354.out 2).trans rfl; have hcz23_3 : w22.cell? ⟨gb354, 3, none⟩ = some (.slice A0_3 l0_3.length c0_3) := (blk_cell BK354.out 3).trans rfl; have hcz23_4 : w22.cell? ⟨gb354, 4, none⟩ = some (.slice A0_4 l0_4.length c0_4) := (blk_cell BK354.out 4).trans rfl; have hfz23_0 := blk_frozen BK354.out 0; have hfz23_1 := blk_frozen BK354.out 1; have hfz23_2 := blk_frozen BK354.out 2; have hfz23_3 := blk_frozen BK354.out 3; have hfz23_4 := blk_frozen BK354.out 4; have hcz24_0 : w22.cell? ⟨gb355, 0, none⟩ = some (.slice A1_0 l1_0.length c1_0) := (blk_cell BK355.out 0).trans rfl; have hcz24_1 : w22.cell? ⟨gb355, 1, none⟩ = some (.int .i64 a1_1) := (blk_cell BK355.out 1).trans rfl; have hcz24_2 : w22.cell? ⟨gb355, 2, none⟩ = some (.bool a1_2) := (blk_cell BK355.out 2).trans rfl; have hcz24_3 : w22.cell? ⟨gb355, 3, none⟩ = some (.slice A1_3 l1_3.length c1_3) := (blk_cell BK355.out 3).trans rfl; have hcz24_4 : w22.cell? ⟨gb355, 4, none⟩ = some (.slice A1_4 l1_4.length c1_4) := (blk_cell BK355.out 4).trans rfl; have hfz24_0 := blk_frozen BK355.out 0; have hfz24_1 := blk_frozen BK355.out 1; have hfz24_2 := blk_frozen BK355.out 2; have hfz24_3 := blk_frozen BK355.out 3; have hfz24_4 := blk_frozen BK355.out 4) | ((with_reducible refine gate_callee (f := 36) rfl ?_); refine goesL_ (some 27) rfl rfl Tryd.func36 (by kernel_rfl) rfl #[.slice A0_4 l0_4.length c0_4, .slice A1_4 l1_4.length c1_4] rfl (by (try simp only [List.map_toArray, List.map_cons, List.map_nil]); first | done | rfl | (simp only [List.length_drop, List.length_take]; rfl)) ?_; (with_reducible refine (laws_eqToneS.calls k _ _ l0_4 _ _ l1_4 true _ ?side1 ?side2 ?side3 ?side4 A9.out).mono ?_); (case side1 => repeat (first | exact (Kd.C_below HR0_4.out HB.out) | (with_reducible refine Kd.C_alloc ?_ _) | (with_reducible refine Kd.C_drewN ?_ _) | (with_reducible refine Kd.C_drew ?_))); (case side2 => exact HC0_4.out); (case side3 => repeat (first | exact (Kd.C_below HR1_4.out HB.out) | (with_reducible refine Kd.C_alloc ?_ _) | (with_reducible refine Kd.C_drewN ?_ _) | (with_reducible refine Kd.C_drew ?_))); (case side4 => exact HC1_4.out); rintro e w25 ⟨rfl, hb⟩; refine ⟨_, rfl, ?_⟩; have n0_ := Aside0.mk (blk_below (g := gb354) (o := .cells #[.slice A0_0 l0_0.length c0_0, .int .i64 a0_1, .bool a0_2, .slice A0_3 l0_3.length c0_3, .slice A0_4 l0_4.length c0_4] 27 (0, 0)) (by (with_reducible repeat (first | refine blk_drewN ?_ _ | refine blk_drew ?_ | refine blk_alloc ?_ _)); exact BK354.out) hb); have n1_ := Aside0.mk (blk_below (g := gb355) (o := .cells #[.slice A1_0 l1_0.length c1_0, .int .i64 a1_1, .bool a1_2, .slice A1_3 l1_3.length c1_3, .slice A1_4 l1_4.length c1_4] 27 (0, 0)) (by (with_reducible repeat (first | refine blk_drewN ?_ _ | refine blk_drew ?_ | refine blk_alloc ?_ _)); exact BK355.out) hb); have n2_ := Aside0.mk (below_step (by repeat (first | (with_reducible first | exact HB.out | apply below_alloc | apply pw_below_drewN | apply below_drew1 | refine below_set ?_ GE354.out | refine below_set ?_ GE355.out) | exact HB.out)) hb); clear BK354; clear BK355; clear HB; have BK354 := n0_; have BK355 := n1_; have HB := n2_; clear n0_ n1_ n2_; (try clear hb); (try clear hb2); (try clear hk); (try clear hi)))
  go_ret
  exact ⟨by first | rfl | (simp [errW_none, errW_some] <;> rfl) | (simp [*, errW_none, errW_some] <;> rfl), by repeat (first | (with_reducible first | exact HB.out | apply below_alloc | apply pw_below_drewN | apply below_drew1 | refine below_set ?_ GE354.out | refine below_set ?_ GE355.out) | exact HB.out)⟩
 replace c10 := Bool.eq_false_iff.mpr c10
 subst c10
 have H1 : (some false) = some r := by rw [if_neg (show ¬ (false = true) by decide)] at H; exact H
 clear H
 have H := H1
 clear H1
 obtain rfl := Option.some.inj H
 go_enter Tryd.func26, Tryd.ntmps26
 go_wp2_with (first | ((with_reducible refine gate_dst (N := 2) rfl ?_); refine box_event ?hg (N := 2) ?hd (cs := #[.slice A0_0 l0_0.length c0_0, .int .i64 a0_1, .bool a0_2, .slice A0_3 l0_3.length c0_3, .slice A0_4 l0_4.length c0_4]) (t := 27) ?hr ?_; (case hd => rfl); (case hg => rfl); (case hr => first | (go_simp; done) | (go_simp; rfl)); intro gb354 hg w26 hbox hb; have n0_ := Aside0.mk (below_step (by repeat (first | (with_reducible first | exact HB.out | apply below_alloc | apply pw_below_drewN | apply below_drew1) | exact HB.out)) hb); have n1_ := Aside0.mk (hbox); have n2_ := Aside0.mk ((by rw [hg]; exact (below_size (by repeat (first | (with_reducible first | exact HB.out | apply below_alloc | apply pw_below_drewN | apply below_drew1) | exact HB.out))) : w.heap.size ≤ gb354)); have n3_ := Aside0.mk ((by rw [hg]; exact (below_size (by repeat (first | (with_reducible first | exact HB.out | apply below_alloc | apply pw_below_drewN | apply below_drew1) | exact HB.out))) : w.heap.size ≤ gb354)); clear HB; have HB := n0_; have BK354 := n1_; have GW354 := n2_; have GE354 := n3_; clear n0_ n1_ n2_ n3_; clear hb hbox hg) | ((with_reducible refine gate_dst (N := 3) rfl ?_); refine box_event ?hg (N := 3) ?hd (cs := #[.slice A1_0 l1_0.length c1_0, .int .i64 a1_1, .bool a1_2, .slice A1_3 l1_3.length c1_3, .slice A1_4 l1_4.length c1_4]) (t := 27) ?hr ?_; (case hd => rfl); (case hg => rfl); (case hr => first | (go_simp; done) | (go_simp; rfl)); intro gb355 hg w27 hbox hb; have n0_ := Aside0.mk (blk_below (g := gb354) (o := .cells #[.slice A0_0 l0_0.length c0_0, .int .i64 a0_1, .bool a0_2, .slice A0_3 l0_3.length c0_3, .slice A0_4 l0_4.length c0_4] 27 (0, 0)) (by (with_reducible repeat (first | refine blk_drewN ?_ _ | refine blk_drew ?_ | refine blk_alloc ?_ _)); exact BK354.out) hb); have n1_ := Aside0.mk (below_step (by repeat (first | (with_reducible first | exact HB.out | apply below_alloc | apply pw_below_drewN | apply below_drew1 | refine below_set ?_ GE354.out) | exact HB.out)) hb); have n2_ := Aside0.mk (hbox); have n3_ := Aside0.mk ((by rw [hg]; exact (below_size (by repeat (first | (with_reducible first | exact HB.out | apply below_alloc | apply pw_below_drewN | apply below_drew1 | refine below_set ?_ GE354.out) | exact HB.out))) : w.heap.size ≤ gb355)); have n4_ := Aside0.mk ((by rw [hg]; exact (below_size (by repeat (first | (with_reducible first | exact HB.out | apply below_alloc | apply pw_below_drewN | apply below_drew1 | refine below_set ?_ GE354.out) | exact HB.out))) : w.heap.size ≤ gb355)); have n5_ := Aside0.mk ((by rw [hg]; exact Nat.ne_of_lt (blk_lt (g := gb354) (o := .cells #[.slice A0_0 l0_0.length c0_0, .int .i64 a0_1, .bool a0_2, .slice A0_3 l0_3.length c0_3, .slice A0_4 l0_4.length c0_4] 27 (0, 0)) (by (with_reducible repeat (first | refine blk_drewN ?_ _ | refine blk_drew ?_ | refine blk_alloc ?_ _)); exact BK354.out)) : gb354 ≠ gb355)); have n6_ := Aside0.mk ((by rw [hg]; exact Nat.ne_of_gt (blk_lt (g := gb354) (o := .cells #[.slice A0_0 l0_0.length c0_0, .int .i64 a0_1, .bool a0_2, .slice A0_3 l0_3.length c0_3, .slice A0_4 l0_4.length c0_4] 27 (0, 0)) (by (with_reducible repeat (first | refine blk_drewN ?_ _ | refine blk_drew ?_ | refine blk_alloc ?_ _)); exact BK354.out)) : gb355 ≠ gb354)); clear BK354; clear HB; have BK354 := n0_; have HB := n1_; have BK355 := n2_; have GW355 := n3_; have GE355 := n4_; have NB354_355 := n5_; have NB355_354 := n6_; clear n0_ n1_ n2_ n3_ n4_ n5_ n6_; clear hb hbox hg; have hnb28 := NB354_355.out; have hnc28 := NB355_354.out; have hcz29_0 : w27.cell? ⟨gb354, 0, none⟩ = some (.slice A0_0 l0_0.length c0_0) := (blk_cell BK354.out 0).trans rfl; have hcz29_1 : w27.cell? ⟨gb354, 1, none⟩ = some (.int .i64 a0_1) := (blk_cell BK354.out 1).trans rfl; have hcz29_2 : w27.cell? ⟨gb354, 2, none⟩ = some (.bool a0_2) := (blk_cell BK354.out 2).trans rfl; have hcz29_3 : w27.cell? ⟨gb354, 3, none⟩ = some (.slice A0_3 l0_3.length c0_3) := (blk_cell BK354.out 3).trans rfl; have hcz29_4 : w27.cell? ⟨gb354, 4, none⟩ = some (.slice A0_4 l0_4.length c0_4) := (blk_cell BK354.out 4).trans rfl; have hfz29_0 := blk_frozen BK354.out 0; have hfz29_1 := blk_frozen BK354.out 1; have hfz29_2 := blk_frozen BK354.out 2; have hfz29_3 := blk_frozen BK354.out 3; have hfz29_4 := blk_frozen BK354.out 4; have hcz30_0 : w27.cell? ⟨gb355, 0, none⟩ = some (.slice A1_0 l1_0.length c1_0) := (blk_cell BK355.out 0).trans rfl; have hcz30_1 : w27.cell? ⟨gb355, 1, none⟩ = some (.int .i64 a1_1) := (blk_cell BK355.out 1).trans rfl; have hcz30_2 : w27.cell? ⟨gb355, 2, none⟩ = some (.bool a1_2) := (blk_cell BK355.out 2).trans rfl; have hcz30_3 : w27.cell? ⟨gb355, 3, none⟩ = some (.slice A1_3 l1_3.length c1_3) := (blk_cell BK355.out 3).trans rfl; have hcz30_4 : w27.cell? ⟨gb355, 4, none⟩ = some (.slice A1_4 l1_4.length c1_4) := (blk_cell BK355.out 4).trans rfl; have hfz30_0 := blk_frozen BK355.out 0; have hfz30_1 := blk_frozen BK355.out 1; have hfz30_2 := blk_frozen BK355.out 2; have hfz30_3 := blk_frozen BK355.out 3; have hfz30_4 := blk_frozen BK355.out 4) | ((with_reducible refine gate_callee (f := 36) rfl ?_); refine goesL_ (some 9) rfl rfl Tryd.func36 (by kernel_rfl) rfl #[.slice A0_0 l0_0.length c0_0, .slice A1_0 l1_0.length c1_0] rfl (by (try simp only [List.map_toArray, List.map_cons, List.map_nil]); first | done | rfl | (simp only [List.length_drop, List.length_take]; rfl)) ?_; (with_reducible refine (laws_eqToneS.calls k _ _ l0_0 _ _ l1_0 true _ ?side1 ?side2 ?side3 ?side4 A3.out).mono ?_); (case side1 => repeat (first | exact (Kd.C_below HR0_0.out HB.out) | (with_reducible refine Kd.C_alloc ?_ _) | (with_reducible refine Kd.C_drewN ?_ _) | (with_reducible refine Kd.C_drew ?_))); (case side2 => exact HC0_0.out); (case side3 => repeat (first | exact (Kd.C_below HR1_0.out HB.out) | (with_reducible refine Kd.C_alloc ?_ _) | (with_reducible refine Kd.C_drewN ?_ _) | (with_reducible refine Kd.C_drew ?_))); (case side4 => exact HC1_0.out); rintro e w31 ⟨rfl, hb⟩; refine ⟨_, rfl, ?_⟩; have n0_ := Aside0.mk (blk_below (g := gb354) (o := .cells #[.slice A0_0 l0_0.length c0_0, .int .i64 a0_1, .bool a0_2, .slice A0_3 l0_3.length c0_3, .slice A0_4 l0_4.length c0_4] 27 (0, 0)) (by (with_reducible repeat (first | refine blk_drewN ?_ _ | refine blk_drew ?_ | refine blk_alloc ?_ _)); exact BK354.out) hb); have n1_ := Aside0.mk (blk_below (g := gb355) (o := .cells #[.slice A1_0 l1_0.length c1_0, .int .i64 a1_1, .bool a1_2, .slice A1_3 l1_3.length c1_3, .slice A1_4 l1_4.length c1_4] 27 (0, 0)) (by (with_reducible repeat (first | refine blk_drewN ?_ _ | refine blk_drew ?_ | refine blk_alloc ?_ _)); exact BK355.out) hb); have n2_ := Aside0.mk (below_step (by repeat (first | (with_reducible first | exact HB.out | apply below_alloc | apply pw_below_drewN | apply below_drew1 | refine below_set ?_ GE354.out | refine below_set ?_ GE355.out) | exact HB.out)) hb); clear BK354; clear BK355; clear HB; have BK354 := n0_; have BK355 := n1_; have HB := n2_; clear n0_ n1_ n2_; (try clear hb); (try clear hb2); (try clear hk); (try clear hi); have hcz32_0 : w31.cell? ⟨gb354, 0, none⟩ = some (.slice A0_0 l0_0.length c0_0) := (blk_cell BK354.out 0).trans rfl; have hcz32_1 : w31.cell? ⟨gb354, 1, none⟩ = some (.int .i64 a0_1) := (blk_cell BK354.out 1).trans rfl; have hcz32_2 : w31.cell? ⟨gb354, 2, none⟩ = some (.bool a0_2) := (blk_cell BK354.out 2).trans rfl; have hcz32_3 : w31.cell? ⟨gb354, 3, none⟩ = some (.slice A0_3 l0_3.length c0_3) := (blk_cell BK354.out 3).trans rfl; have hcz32_4 : w31.cell? ⟨gb354, 4, none⟩ = some (.slice A0_4 l0_4.length c0_4) := (blk_cell BK354.out 4).trans rfl; have hfz32_0 := blk_frozen BK354.out 0; have hfz32_1 := blk_frozen BK354.out 1; have hfz32_2 := blk_frozen BK354.out 2; have hfz32_3 := blk_frozen BK354.out 3; have hfz32_4 := blk_frozen BK354.out 4; have hcz33_0 : w31.cell? ⟨gb355, 0, none⟩ = some (.slice A1_0 l1_0.length c1_0) := (blk_cell BK355.out 0).trans rfl; have hcz33_1 : w31.cell? ⟨gb355, 1, none⟩ = some (.int .i64 a1_1) := (blk_cell BK355.out 1).trans rfl; have hcz33_2 : w31.cell? ⟨gb355, 2, none⟩ = some (.bool a1_2) := (blk_cell BK355.out 2).trans rfl; have hcz33_3 : w31.cell? ⟨gb355, 3, none⟩ = some (.slice A1_3 l1_3.length c1_3) := (blk_cell BK355.out 3).trans rfl; have hcz33_4 : w31.cell? ⟨gb355, 4, none⟩ = some (.slice A1_4 l1_4.length c1_4) := (blk_cell BK355.out 4).trans rfl; have hfz33_0 := blk_frozen BK355.out 0; have hfz33_1 := blk_frozen BK355.out 1; have hfz33_2 := blk_frozen BK355.out 2; have hfz33_3 := blk_frozen BK355.out 3; have hfz33_4 := blk_frozen BK355.out 4) | ((with_reducible refine gate_callee (f := 68) rfl ?_); refine goesL_ (some 15) rfl rfl Tryd.func68 (by kernel_rfl) rfl #[.agg #[.int .i64 a0_1, .bool a0_2], .agg #[.int .i64 a1_1, .bool a1_2]] rfl (by (try simp only [List.map_toArray, List.map_cons, List.map_nil]); first | done | rfl | (simp only [List.length_drop, List.length_take]; rfl)) ?_; (with_reducible refine (laws_eqTone.calls a0_1 a0_2 a1_1 a1_2 true _ A5.out).mono ?_); rintro e w34 ⟨rfl, hb⟩; refine ⟨_, rfl, ?_⟩; have n0_ := Aside0.mk (blk_below (g := gb354) (o := .cells #[.slice A0_0 l0_0.length c0_0, .int .i64 a0_1, .bool a0_2, .slice A0_3 l0_3.length c0_3, .slice A0_4 l0_4.length c0_4] 27 (0, 0)) (by (with_reducible repeat (first | refine blk_drewN ?_ _ | refine blk_drew ?_ | refine blk_alloc ?_ _)); exact BK354.out) hb); have n1_ := Aside0.mk (blk_below (g := gb355) (o := .cells #[.slice A1_0 l1_0.length c1_0, .int .i64 a1_1, .bool a1_2, .slice A1_3 l1_3.length c1_3, .slice A1_4 l1_4.length c1_4] 27 (0, 0)) (by (with_reducible repeat (first | refine blk_drewN ?_ _ | refine blk_drew ?_ | refine blk_alloc ?_ _)); exact BK355.out) hb); have n2_ := Aside0.mk (below_step (by repeat (first | (with_reducible first | exact HB.out | apply below_alloc | apply pw_below_drewN | apply below_drew1 | refine below_set ?_ GE354.out | refine below_set ?_ GE355.out) | exact HB.out)) hb); clear BK354; clear BK355; clear HB; have BK354 := n0_; have BK355 := n1_; have HB := n2_; clear n0_ n1_ n2_; (try clear hb); (try clear hb2); (try clear hk); (try clear hi); have hcz35_0 : w34.cell? ⟨gb354, 0, none⟩ = some (.slice A0_0 l0_0.length c0_0) := (blk_cell BK354.out 0).trans rfl; have hcz35_1 : w34.cell? ⟨gb354, 1, none⟩ = some (.int .i64 a0_1) := (blk_cell BK354.out 1).trans rfl; have hcz35_2 : w34.cell? ⟨gb354, 2, none⟩ = some (.bool a0_2) := (blk_cell BK354.out 2).trans rfl; have hcz35_3 : w34.cell? ⟨gb354, 3, none⟩ = some (.slice A0_3 l0_3.length c0_3) := (blk_cell BK354.out 3).trans rfl; have hcz35_4 : w34.cell? ⟨gb354, 4, none⟩ = some (.slice A0_4 l0_4.length c0_4) := (blk_cell BK354.out 4).trans rfl; have hfz35_0 := blk_frozen BK354.out 0; have hfz35_1 := blk_frozen BK354.out 1; have hfz35_2 := blk_frozen BK354.out 2; have hfz35_3 := blk_frozen BK354.out 3; have hfz35_4 := blk_frozen BK354.out 4; have hcz36_0 : w34.cell? ⟨gb355, 0, none⟩ = some (.slice A1_0 l1_0.length c1_0) := (blk_cell BK355.out 0).trans rfl; have hcz36_1 : w34.cell? ⟨gb355, 1, none⟩ = some (.int .i64 a1_1) := (blk_cell BK355.out 1).trans rfl; have hcz36_2 : w34.cell? ⟨gb355, 2, none⟩ = some (.bool a1_2) := (blk_cell BK355.out 2).trans rfl; have hcz36_3 : w34.cell? ⟨gb355, 3, none⟩ = some (.slice A1_3 l1_3.length c1_3) := (blk_cell BK355.out 3).trans rfl; have hcz36_4 : w34.cell? ⟨gb355, 4, none⟩ = some (.slice A1_4 l1_4.length c1_4) := (blk_cell BK355.out 4).trans rfl; have hfz36_0 := blk_frozen BK355.out 0; have hfz36_1 := blk_frozen BK355.out 1; have hfz36_2 := blk_frozen BK355.out 2; have hfz36_3 := blk_frozen BK355.out 3; have hfz36_4 := blk_frozen BK355.out 4) | ((with_reducible refine gate_callee (f := 36) rfl ?_); refine goesL_ (some 21) rfl rfl Tryd.func36 (by kernel_rfl) rfl #[.slice A0_3 l0_3.length c0_3, .slice A1_3 l1_3.length c1_3] rfl (by (try simp only [List.map_toArray, List.map_cons, List.map_nil]); first | done | rfl | (simp only [List.length_drop, List.length_take]; rfl)) ?_; (with_reducible refine (laws_eqToneS.calls k _ _ l0_3 _ _ l1_3 true _ ?side1 ?side2 ?side3 ?side4 A7.out).mono ?_); (case side1 => repeat (first | exact (Kd.C_below HR0_3.out HB.out) | (with_reducible refine Kd.C_alloc ?_ _) | (with_reducible refine Kd.C_drewN ?_ _) | (with_reducible refine Kd.C_drew ?_))); (case side2 => exact HC0_3.out); (case side3 => repeat (first | exact (Kd.C_below HR1_3.out HB.out) | (with_reducible refine Kd.C_alloc ?_ _) | (with_reducible refine Kd.C_drewN ?_ _) | (with_reducible refine Kd.C_drew ?_))); (case side4 => exact HC1_3.out); rintro e w37 ⟨rfl, hb⟩; refine ⟨_, rfl, ?_⟩; have n0_ := Aside0.mk (blk_below (g := gb354) (o := .cells #[.slice A0_0 l0_0.length c0_0, .int .i64 a0_1, .bool a0_2, .slice A0_3 l0_3.length c0_3, .slice A0_4 l0_4.length c0_4] 27 (0, 0)) (by (with_reducible repeat (first | refine blk_drewN ?_ _ | refine blk_drew ?_ | refine blk_alloc ?_ _)); exact BK354.out) hb); have n1_ := Aside0.mk (blk_below (g := gb355) (o := .cells #[.slice A1_0 l1_0.length c1_0, .int .i64 a1_1, .bool a1_2, .slice A1_3 l1_3.length c1_3, .slice A1_4 l1_4.length c1_4] 27 (0, 0)) (by (with_reducible repeat (first | refine blk_drewN ?_ _ | refine blk_drew ?_ | refine blk_alloc ?_ _)); exact BK355.out) hb); have n2_ := Aside0.mk (below_step (by repeat (first | (with_reducible first | exact HB.out | apply below_alloc | apply pw_below_drewN | apply below_drew1 | refine below_set ?_ GE354.out | refine below_set ?_ GE355.out) | exact HB.out)) hb); clear BK354; clear BK355; clear HB; have BK354 := n0_; have BK355 := n1_; have HB := n2_; clear n0_ n1_ n2_; (try clear hb); (try clear hb2); (try clear hk); (try clear hi); have hcz38_0 : w37.cell? ⟨gb354, 0, none⟩ = some (.slice A0_0 l0_0.length c0_0) := (blk_cell BK354.out 0).trans rfl; have hcz38_1 : w37.cell? ⟨gb354, 1, none⟩ = some (.int .i64 a0_1) := (blk_cell BK354.out 1).trans rfl; have hcz38_2 : w37.cell? ⟨gb354, 2, none⟩ = some (.bool a0_2) := (blk_cell BK354.out 2).trans rfl; have hcz38_3 : w37.cell? ⟨gb354, 3, none⟩ = some (.slice A0_3 l0_3.length c0_3) := (blk_cell BK354.out 3).trans rfl; have hcz38_4 : w37.cell? ⟨gb354, 4, none⟩ = some (.slice A0_4 l0_4.length c0_4) := (blk_cell BK354.out 4).trans rfl; have hfz38_0 := blk_frozen BK354.out 0; have hfz38_1 := blk_frozen BK354.out 1; have hfz38_2 := blk_frozen BK354.out 2; have hfz38_3 := blk_frozen BK354.out 3; have hfz38_4 := blk_frozen BK354.out 4; have hcz39_0 : w37.cell? ⟨gb355, 0, none⟩ = some (.slice A1_0 l1_0.length c1_0) := (blk_cell BK355.out 0).trans rfl; have hcz39_1 : w37.cell? ⟨gb355, 1, none⟩ = some (.int .i64 a1_1) := (blk_cell BK355.out 1).trans rfl; have hcz39_2 : w37.cell? ⟨gb355, 2, none⟩ = some (.bool a1_2) := (blk_cell BK355.out 2).trans rfl; have hcz39_3 : w37.cell? ⟨gb355, 3, none⟩ = some (.slice A1_3 l1_3.length c1_3) := (blk_cell BK355.out 3).trans rfl; have hcz39_4 : w37.cell? ⟨gb355, 4, none⟩ = some (.slice A1_4 l1_4.length c1_4) := (blk_cell BK355.out 4).trans rfl; have hfz39_0 := blk_frozen BK355.out 0; have hfz39_1 := blk_frozen BK355.out 1; have hfz39_2 := blk_frozen BK355.out 2; have hfz39_3 := blk_frozen BK355.out 3; have hfz39_4 := blk_frozen BK355.out 4) | ((with_reducible refine gate_callee (f := 36) rfl ?_); refine goesL_ (some 27) rfl rfl Tryd.func36 (by kernel_rfl) rfl #[.slice A0_4 l0_4.length c0_4, .slice A1_4 l1_4.length c1_4] rfl (by (try simp only [List.map_toArray, List.map_cons, List.map_nil]); first | done | rfl | (simp only [List.length_drop, List.length_take]; rfl)) ?_; (with_reducible refine (laws_eqToneS.calls k _ _ l0_4 _ _ l1_4 false _ ?side1 ?side2 ?side3 ?side4 A9.out).mono ?_); (case side1 => repeat (first | exact (Kd.C_below HR0_4.out HB.out) | (with_reducible refine Kd.C_alloc ?_ _) | (with_reducible refine Kd.C_drewN ?_ _) | (with_reducible refine Kd.C_drew ?_))); (case side2 => exact HC0_4.out); (case side3 => repeat (first | exact (Kd.C_below HR1_4.out HB.out) | (with_reducible refine Kd.C_alloc ?_ _) | (with_reducible refine Kd.C_drewN ?_ _) | (with_reducible refine Kd.C_drew ?_))); (case side4 => exact HC1_4.out); rintro e w40 ⟨rfl, hb⟩; refine ⟨_, rfl, ?_⟩; have n0_ := Aside0.mk (blk_below (g := gb354) (o := .cells #[.slice A0_0 l0_0.length c0_0, .int .i64 a0_1, .bool a0_2, .slice A0_3 l0_3.length c0_3, .slice A0_4 l0_4.length c0_4] 27 (0, 0)) (by (with_reducible repeat (first | refine blk_drewN ?_ _ | refine blk_drew ?_ | refine blk_alloc ?_ _)); exact BK354.out) hb); have n1_ := Aside0.mk (blk_below (g := gb355) (o := .cells #[.slice A1_0 l1_0.length c1_0, .int .i64 a1_1, .bool a1_2, .slice A1_3 l1_3.length c1_3, .slice A1_4 l1_4.length c1_4] 27 (0, 0)) (by (with_reducible repeat (first | refine blk_drewN ?_ _ | refine blk_drew ?_ | refine blk_alloc ?_ _)); exact BK355.out) hb); have n2_ := Aside0.mk (below_step (by repeat (first | (with_reducible first | exact HB.out | apply below_alloc | apply pw_below_drewN | apply below_drew1 | refine below_set ?_ GE354.out | refine below_set ?_ GE355.out) | exact HB.out)) hb); clear BK354; clear BK355; clear HB; have BK354 := n0_; have BK355 := n1_; have HB := n2_; clear n0_ n1_ n2_; (try clear hb); (try clear hb2); (try clear hk); (try clear hi)))
 go_ret
 exact ⟨by first | rfl | (simp [errW_none, errW_some] <;> rfl) | (simp [*, errW_none, errW_some] <;> rfl), by repeat (first | (with_reducible first | exact HB.out | apply below_alloc | apply pw_below_drewN | apply below_drew1 | refine below_set ?_ GE354.out | refine below_set ?_ GE355.out) | exact HB.out)⟩
end Go.Proofs.YtdgmkfbmeaalpaaDoor.E
end
section
namespace Go.Proofs.YtdgmkfbmeaalpaaDoor.E
open Go.RowKit Go.Proofs.YtdgmkfbmeaalpaaDoorW.PrintWords Go.Proofs.YtdgmkfbmeaalpaaDoorW.PrintLast Go.Proofs.YtdgmkfbmeaalpaaDoorW.PrintMore
attribute [local go_sem] max2_int min2_int max_two min_two max_three min_three max_four min_four
set_option linter.unusedVariables false
set_option linter.unusedSimpArgs false
attribute [local go_sem] str_leq_ str_gtr_ str_geq_
def laws_eqPsalmS.l0 : Nat → List (S27) → List (S27) → Int → Option (Bool)
 | 0, _, _, _ => none
 | k + 1, x0, x1, x5 => if x5 < (x0.length : Int) then (if 0 ≤ x5 then (if x5 < (x1.length : Int) then ((laws_eqPsalm.f k ((rd_T27 x0 x5).f0) ((rd_T27 x0 x5).f1.f0) ((rd_T27 x0 x5).f1.f1) ((rd_T27 x0 x5).f2) ((rd_T27 x0 x5).f3) ((rd_T27 x1 x5).f0) ((rd_T27 x1 x5).f1.f0) ((rd_T27 x1 x5).f1.f1) ((rd_T27 x1 x5).f2) ((rd_T27 x1 x5).f3)).bind fun t928 => (if t928 = true then (laws_eqPsalmS.l0 k x0 x1 (wrap64 (x5 + 1))) else (some false))) else (none)) else (none)) else (some true)
def laws_eqPsalmS.f (k : Nat) (l0 : List (S27)) (l1 : List (S27)) : Option (Bool) := if (l0.length : Int) = (l1.length : Int) then (laws_eqPsalmS.l0 k l0 l1 0) else (some false)
def laws_eqPsalmS.T6 : Bool × List (List Nat × List Nat) := (true, [([], []), ([], []), ([0, 1], [0, 1]), ([2], [2]), ([], []), ([], []), ([4, 5], [4, 5]), ([6], [6]), ([3, 7], [3, 7]), ([8], [8])])
def laws_eqPsalmS.B6 : List Nat := [0, 0, 3, 7, 0, 0, 48, 112, 255, 511]
theorem laws_eqPsalmS.tab6 : rtab .any (opsOf Tryd.f50 6) = laws_eqPsalmS.T6 := by kernel_rfl
theorem laws_eqPsalmS.bits6 : waitsOk laws_eqPsalmS.T6.2 laws_eqPsalmS.B6 = true := by kernel_rfl
set_option maxHeartbeats 8000000 in
set_option maxRecDepth 100000 in
theorem laws_eqPsalmS.calls (k : Nat) (A0 : Option Addr) (c0 : Nat) (l0 : List (S27)) (A1 : Option Addr) (c1 : Nat) (l1 : List (S27)) (r : Bool) (w : World) (hr0 : Kd.C k27 w A0 l0.length l0) (hc0 : l0.length ≤ c0) (hr1 : Kd.C k27 w A1 l1.length l1) (hc1 : l1.length ≤ c1) (h : laws_eqPsalmS.f k l0 l1 = some r) :
  Calls Tryd.prog 50 #[.slice A0 l0.length c0, .slice A1 l1.length c1] w fun e w' => e = .returned (.bool r) ∧ Below w.heap.size w w' := by
 have hu27 := Tryd.underlying27
 have HR0 := Aside0.mk hr0
 have HC0 := Aside0.mk hc0
 clear hr0 hc0
 have HR1 := Aside0.mk hr1
 have HC1 := Aside0.mk hc1
 clear hr1 hc1
 have HB := Aside0.mk (Below.refl w.heap.size w)
 have H : (if (l0.length : Int) = (l1.length : Int) then (laws_eqPsalmS.l0 k l0 l1 0) else (some false)) = some r := h
 clear h
 by_cases c3 : (l0.length : Int) = (l1.length : Int)
 rotate_left
 ·rw [if_neg c3] at H
  have c3b0 : ((l0.length : Int) == (l1.length : Int)) = false := beq_eq_false_iff_ne.mpr c3
  have c3b1 : ((l0.length : Int) != (l1.length : Int)) = true := bne_iff_ne.mpr c3
  have c3b2 : (l0.length == l1.length) = false := by first | simpa using c3 | (simp at c3 ⊢; omega)
  obtain rfl := Option.some.inj H
  go_enter Tryd.func50, Tryd.ntmps50
  go_wp2
  go_ret
  exact ⟨by first | rfl | (simp [errW_none, errW_some] <;> rfl) | (simp [*, errW_none, errW_some] <;> rfl), by repeat (first | (with_reducible first | exact HB.out | apply below_alloc | apply pw_below_drewN | apply below_drew1) | exact HB.out)⟩
 rw [if_pos c3] at H
 have c3b0 : ((l0.length : Int) == (l1.length : Int)) = true := beq_iff_eq.mpr c3
 have c3b1 : ((l0.length : Int) != (l1.length : Int)) = false := bne_eq_false_iff_eq.mpr c3
 have c3b2 : (l0.length == l1.length) = true := by first | simpa using c3 | (simp at c3 ⊢; omega)
 clear c3
 have H' := Aside0.mk H
 clear H
 go_enter Tryd.func50, Tryd.ntmps50
 go_wp2
 go_loopg [5] k (fun kq v5 w' => ∃ (x5_1 : Int), v5 = .int .i64 x5_1 ∧ Aside0 (laws_eqPsalmS.l0 kq l0 l1 x5_1 = some r) ∧ Aside0 (kq ≤ k) ∧ Aside0 (Below w.heap.size w w'))
 case atStart => exact ⟨(0), (by first | rfl | (simp; done) | (simp [*]; done)), H', ⟨Nat.le_refl _⟩, ⟨by repeat (first | (with_reducible first | exact HB.out | apply below_alloc | apply pw_below_drewN | apply below_drew1) | exact HB.out)⟩⟩
 case round =>
  clear H'
  try clear c1
  try clear p2
  try clear c3
  try clear c3b0
  try clear c3b1
  try clear c3b2
  obtain ⟨x5_1, rfl, HA, HK1, HB⟩ := hrel
  cases gk with
  | zero => exact absurd HA.out (by simp [laws_eqPsalmS.l0])
  | succ k1 =>
   have H := HA.out
   clear HA
   simp only [laws_eqPsalmS.l0] at H
   by_cases c4 : x5_1 < (l0.length : Int)
   rotate_left
   ·rw [if_neg c4] at H
    have c4b0 : decide (x5_1 < (l0.length : Int)) = false := decide_eq_false c4
    clear c4
    obtain rfl := Option.some.inj H
    go_wp2
    go_ret
    exact ⟨by first | rfl | (simp [errW_none, errW_some] <;> rfl) | (simp [*, errW_none, errW_some] <;> rfl), by repeat (first | (with_reducible first | exact HB.out | apply below_alloc | apply pw_below_drewN | apply below_drew1) | exact HB.out)⟩
   rw [if_pos c4] at H
   have c4b0 : decide (x5_1 < (l0.length : Int)) = true := decide_eq_true c4
   clear c4
   by_cases c5 : 0 ≤ x5_1
   rotate_left
   ·rw [if_neg c5] at H
    exact absurd H (by simp)
   rw [if_pos c5] at H
   have c5b0 : decide (0 ≤ x5_1) = true := decide_eq_true c5
   clear c5
   by_cases c6 : x5_1 < (l1.length : Int)
   rotate_left
   ·rw [if_neg c6] at H
    exact absurd H (by simp)
   rw [if_pos c6] at H
   have c6b0 : decide (x5_1 < (l1.length : Int)) = true := decide_eq_true c6
   clear c6
   replace H := Option.bind_eq_some_iff.mp H
   obtain ⟨t928, A70, H⟩ := H
   replace H : (if t928 = true then (laws_eqPsalmS.l0 k1 l0 l1 (wrap64 (x5_1 + 1))) else (some false)) = some r := H
   have A7 := Aside0.mk A70
   clear A70
   by_cases c8 : t928 = true
   rotate_left
   ·replace c8 := Bool.eq_false_iff.mpr c8
    subst c8
    have H1 : (some false) = some r := by rw [if_neg (show ¬ (false = true) by decide)] at H; exact H
    clear H
    have H := H1
    clear H1
    obtain rfl := Option.some.inj H
    try go_wp2
    have n0_ := Aside0.mk (below_drew1 HB.out)
    clear HB
    have HB := n0_
    clear n0_
    have p926 : 0 ≤ (x5_1 : Int) := of_decide_eq_true (by first | (with_reducible assumption) | assumption)
    have q926 : x5_1 < (l0.length : Int) := of_decide_eq_true (by first | (with_reducible assumption) | assumption)
    obtain ⟨ad926, A926_0, c926_0, A926_3, c926_3, A926_4, c926_4, e926, hx926_0, hx926_1, hx926_2, hx926_3, hx926_4, hl926_0, hi926_0, hl926_3, hi926_3, hl926_4, hi926_4⟩ := at_T27 HR0.out x5_1 p926 q926
    have hw926_4 := hx926_4
    have hw926_3 := hx926_3
    have hw926_2 := hx926_2
    have hw926_1 := hx926_1
    have hw926_0 := hx926_0
    cases e926
    replace hx926_0 := (HB.out.cell (World.block_lt_of_cell? w _ hx926_0)).trans hx926_0
    replace hx926_1 := (HB.out.cell (World.block_lt_of_cell? w _ hx926_1)).trans hx926_1
    replace hx926_2 := (HB.out.cell (World.block_lt_of_cell? w _ hx926_2)).trans hx926_2
    replace hx926_3 := (HB.out.cell (World.block_lt_of_cell? w _ hx926_3)).trans hx926_3
    replace hx926_4 := (HB.out.cell (World.block_lt_of_cell? w _ hx926_4)).trans hx926_4
    have HR926_0 := Aside0.mk hi926_0
    have HC926_0 := Aside0.mk hl926_0
    clear hi926_0 hl926_0
    have HR926_3 := Aside0.mk hi926_3
    have HC926_3 := Aside0.mk hl926_3
    clear hi926_3 hl926_3
    have HR926_4 := Aside0.mk hi926_4
    have HC926_4 := Aside0.mk hl926_4
    clear hi926_4 hl926_4
    replace p926 := eq_true p926
    replace q926 := eq_true q926
    have p927 : 0 ≤ (x5_1 : Int) := of_decide_eq_true (by first | (with_reducible assumption) | assumption)
    have q927 : x5_1 < (l1.length : Int) := of_decide_eq_true (by first | (with_reducible assumption) | assumption)
    obtain ⟨ad927, A927_0, c927_0, A927_3, c927_3, A927_4, c927_4, e927, hx927_0, hx927_1, hx927_2, hx927_3, hx927_4, hl927_0, hi927_0, hl927_3, hi927_3, hl927_4, hi927_4⟩ := at_T27 HR1.out x5_1 p927 q927
    have hw927_4 := hx927_4
    have hw927_3 := hx927_3
    have hw927_2 := hx927_2
    have hw927_1 := hx927_1
    have hw927_0 := hx927_0
    cases e927
    replace hx927_0 := (HB.out.cell (World.block_lt_of_cell? w _ hx927_0)).trans hx927_0
    replace hx927_1 := (HB.out.cell (World.block_lt_of_cell? w _ hx927_1)).trans hx927_1
    replace hx927_2 := (HB.out.cell (World.block_lt_of_cell? w _ hx927_2)).trans hx927_2
    replace hx927_3 := (HB.out.cell (World.block_lt_of_cell? w _ hx927_3)).trans hx927_3
    replace hx927_4 := (HB.out.cell (World.block_lt_of_cell? w _ hx927_4)).trans hx927_4
    have HR927_0 := Aside0.mk hi927_0
    have HC927_0 := Aside0.mk hl927_0
    clear hi927_0 hl927_0
    have HR927_3 := Aside0.mk hi927_3
    have HC927_3 := Aside0.mk hl927_3
    clear hi927_3 hl927_3
    have HR927_4 := Aside0.mk hi927_4
    have HC927_4 := Aside0.mk hl927_4
    clear hi927_4 hl927_4
    replace p927 := eq_true p927
    replace q927 := eq_true q927
    refine start_ (n := 10) (S := fun w' => w'.cell? (ad926.add ((x5_1).toNat * 5)) = some (.slice A926_0 ((rd_T27 l0 x5_1).f0).length c926_0) ∧ w'.cell? ⟨(ad926.add ((x5_1).toNat * 5)).block, (ad926.add ((x5_1).toNat * 5)).off + 1, none⟩ = some (.int .i64 ((rd_T27 l0 x5_1).f1.f0)) ∧ w'.cell? ⟨(ad926.add ((x5_1).toNat * 5)).block, (ad926.add ((x5_1).toNat * 5)).off + 2, none⟩ = some (.bool ((rd_T27 l0 x5_1).f1.f1)) ∧ w'.cell? ⟨(ad926.add ((x5_1).toNat * 5)).block, (ad926.add ((x5_1).toNat * 5)).off + 3, none⟩ = some (.slice A926_3 ((rd_T27 l0 x5_1).f2).length c926_3) ∧ w'.cell? ⟨(ad926.add ((x5_1).toNat * 5)).block, (ad926.add ((x5_1).toNat * 5)).off + 4, none⟩ = some (.slice A926_4 ((rd_T27 l0 x5_1).f3).length c926_4) ∧ w'.cell? (ad927.add ((x5_1).toNat * 5)) = some (.slice A927_0 ((rd_T27 l1 x5_1).f0).length c927_0) ∧ w'.cell? ⟨(ad927.add ((x5_1).toNat * 5)).block, (ad927.add ((x5_1).toNat * 5)).off + 1, none⟩ = some (.int .i64 ((rd_T27 l1 x5_1).f1.f0)) ∧ w'.cell? ⟨(ad927.add ((x5_1).toNat * 5)).block, (ad927.add ((x5_1).toNat * 5)).off + 2, none⟩ = some (.bool ((rd_T27 l1 x5_1).f1.f1)) ∧ w'.cell? ⟨(ad927.add ((x5_1).toNat * 5)).block, (ad927.add ((x5_1).toNat * 5)).off + 3, none⟩ = some (.slice A927_3 ((rd_T27 l1 x5_1).f2).length c927_3) ∧ w'.cell? ⟨(ad927.add ((x5_1).toNat * 5)).block, (ad927.add ((x5_1).toNat * 5)).off + 4, none⟩ = some (.slice A927_4 ((rd_T27 l1 x5_1).f3).length c927_4)) (ds := []) #[false, false, false, false, false, false, false, false, false, false] (by kernel_rfl) rfl rfl ⟨((HB.out.cell (World.block_lt_of_cell? w _ hw926_0)).trans hw926_0), ((HB.out.cell (World.block_lt_of_cell? w _ hw926_1)).trans hw926_1), ((HB.out.cell (World.block_lt_of_cell? w _ hw926_2)).trans hw926_2), ((HB.out.cell (World.block_lt_of_cell? w _ hw926_3)).trans hw926_3), ((HB.out.cell (World.block_lt_of_cell? w _ hw926_4)).trans hw926_4), ((HB.out.cell (World.block_lt_of_cell? w _ hw927_0)).trans hw927_0), ((HB.out.cell (World.block_lt_of_cell? w _ hw927_1)).trans hw927_1), ((HB.out.cell (World.block_lt_of_cell? w _ hw927_2)).trans hw927_2), ((HB.out.cell (World.block_lt_of_cell? w _ hw927_3)).trans hw927_3), ((HB.out.cell (World.block_lt_of_cell? w _ hw927_4)).trans hw927_4)⟩ (fun hHeld => ?_); refine with_tabW laws_eqPsalmS.tab6 laws_eqPsalmS.bits6 (fun HT_ HW_ => ?_)
    generalize wr.drew = w11 at HB HR926_0 HR926_3 HR926_4 HR927_0 HR927_3 HR927_4 hx926_0 hx926_1 hx926_2 hx926_3 hx926_4 hx927_0 hx927_1 hx927_2 hx927_3 hx927_4 hHeld ⊢
    refine pure_ (i := 0) (N := some 17) (v := ?_) (a' := ?_) #[true, false, false, false, false, false, false, false, false, false] rfl rfl (any_of HT_.out (by kernel_rfl)) (fun _ _ _ h => h) (Or.inl ⟨by rfl, ?_⟩) ?_ ?_
    rotate_left
    ·intro w'
     go_simp
     with_reducible rfl
    rotate_left
    ·simp only [Act.put, List.setIfInBounds_toArray, List.set_cons_zero, List.set_cons_succ, i64_w, i32_w]
     rfl
    refine pure_ (i := 1) (N := some 18) (v := ?_) (a' := ?_) #[true, true, false, false, false, false, false, false, false, false] rfl rfl (any_of HT_.out (by kernel_rfl)) (fun _ _ _ h => h) (Or.inl ⟨by rfl, ?_⟩) ?_ ?_
    rotate_left
    ·intro w'
     go_simp
     with_reducible rfl
    rotate_left
    ·simp only [Act.put, List.setIfInBounds_toArray, List.set_cons_zero, List.set_cons_succ, i64_w, i32_w]
     rfl
    refine pure_ (i := 2) (N := some 19) (v := ?_) (a' := ?_) #[true, true, true, false, false, false, false, false, false, false] rfl rfl (any_of HT_.out (by kernel_rfl)) (fun _ _ _ h => h) (Or.inl ⟨by rfl, ?_⟩) ?_ ?_
    rotate_left
    ·intro w'
     go_simp
     with_reducible rfl
    rotate_left
    ·simp only [Act.put, List.setIfInBounds_toArray, List.set_cons_zero, List.set_cons_succ, i64_w, i32_w]
     rfl
    refine pure_ (i := 4) (N := some 21) (v := ?_) (a' := ?_) #[true, true, true, false, true, false, false, false, false, false] rfl rfl (any_of HT_.out (by kernel_rfl)) (fun _ _ _ h => h) (Or.inl ⟨by rfl, ?_⟩) ?_ ?_
    rotate_left
    ·intro w'
     go_simp
     with_reducible rfl
    rotate_left
    ·simp only [Act.put, List.setIfInBounds_toArray, List.set_cons_zero, List.set_cons_succ, i64_w, i32_w]
     rfl
    refine pure_ (i := 5) (N := some 22) (v := ?_) (a' := ?_) #[true, true, true, false, true, true, false, false, false, false] rfl rfl (any_of HT_.out (by kernel_rfl)) (fun _ _ _ h => h) (Or.inl ⟨by rfl, ?_⟩) ?_ ?_
    rotate_left
    ·intro w'
     go_simp
     with_reducible rfl
    rotate_left
    ·simp only [Act.put, List.setIfInBounds_toArray, List.set_cons_zero, List.set_cons_succ, i64_w, i32_w]
     rfl
    refine pure_ (i := 6) (N := some 23) (v := ?_) (a' := ?_) #[true, true, true, false, true, true, true, false, false, false] rfl rfl (any_of HT_.out (by kernel_rfl)) (fun _ _ _ h => h) (Or.inl ⟨by rfl, ?_⟩) ?_ ?_
    rotate_left
    ·intro w'
     go_simp
     with_reducible rfl
    rotate_left
    ·simp only [Act.put, List.setIfInBounds_toArray, List.set_cons_zero, List.set_cons_succ, i64_w, i32_w]
     rfl
    refine take_ (i := 3) (N := some 20) (v := ?_) (a' := ?_) #[true, true, true, true, true, true, true, false, false, false] rfl rfl (take_ofW HT_.out HW_.out (by kernel_rfl)) (fun _ _ _ h => h) (Or.inl ⟨by rfl, ?_⟩) hHeld ?_ ?_
    rotate_left
    ·rintro w' ⟨s0, s1, s2, s3, s4, s5, s6, s7, s8, s9⟩
     go_simp
     with_reducible rfl
    rotate_left
    ·simp only [Act.put, List.setIfInBounds_toArray, List.set_cons_zero, List.set_cons_succ, i64_w, i32_w]
     rfl
    refine take_ (i := 7) (N := some 24) (v := ?_) (a' := ?_) #[true, true, true, true, true, true, true, true, false, false] rfl rfl (take_ofW HT_.out HW_.out (by kernel_rfl)) (fun _ _ _ h => h) (Or.inl ⟨by rfl, ?_⟩) hHeld ?_ ?_
    rotate_left
    ·rintro w' ⟨s0, s1, s2, s3, s4, s5, s6, s7, s8, s9⟩
     go_simp
     with_reducible rfl
    rotate_left
    ·simp only [Act.put, List.setIfInBounds_toArray, List.set_cons_zero, List.set_cons_succ, i64_w, i32_w]
     rfl
    refine one_ (i := 8) (N := some 25) #[true, true, true, true, true, true, true, true, true, false] rfl rfl (one_of HT_.out (by kernel_rfl)) (by decide) (fun K hK => ?_)
    refine goes_ Tryd.func26 (by kernel_rfl) rfl #[.agg #[.slice A926_0 ((rd_T27 l0 x5_1).f0).length c926_0, .int .i64 ((rd_T27 l0 x5_1).f1.f0), .bool ((rd_T27 l0 x5_1).f1.f1), .slice A926_3 ((rd_T27 l0 x5_1).f2).length c926_3, .slice A926_4 ((rd_T27 l0 x5_1).f3).length c926_4], .agg #[.slice A927_0 ((rd_T27 l1 x5_1).f0).length c927_0, .int .i64 ((rd_T27 l1 x5_1).f1.f0), .bool ((rd_T27 l1 x5_1).f1.f1), .slice A927_3 ((rd_T27 l1 x5_1).f2).length c927_3, .slice A927_4 ((rd_T27 l1 x5_1).f3).length c927_4]] (by rfl) rfl rfl (by (try simp only [List.map_toArray, List.map_cons, List.map_nil]); first | done | rfl | (simp only [List.length_drop, List.length_take]; rfl)) ?_
    with_reducible refine (laws_eqPsalm.calls k1 _ _ ((rd_T27 l0 x5_1).f0) ((rd_T27 l0 x5_1).f1.f0) ((rd_T27 l0 x5_1).f1.f1) _ _ ((rd_T27 l0 x5_1).f2) _ _ ((rd_T27 l0 x5_1).f3) _ _ ((rd_T27 l1 x5_1).f0) ((rd_T27 l1 x5_1).f1.f0) ((rd_T27 l1 x5_1).f1.f1) _ _ ((rd_T27 l1 x5_1).f2) _ _ ((rd_T27 l1 x5_1).f3) false _ ?side1 ?side2 ?side3 ?side4 ?side5 ?side6 ?side7 ?side8 ?side9 ?side10 ?side11 ?side12 A7.out).mono ?_
    (case side1 => repeat (first | exact (Kd.C_below HR926_0.out HB.out) | (with_reducible refine Kd.C_alloc ?_ _) | (with_reducible refine Kd.C_drewN ?_ _) | (with_reducible refine Kd.C_drew ?_)))
    (case side2 => exact HC926_0.out)
    (case side3 => repeat (first | exact (Kd.C_below HR926_3.out HB.out) | (with_reducible refine Kd.C_alloc ?_ _) | (with_reducible refine Kd.C_drewN ?_ _) | (with_reducible refine Kd.C_drew ?_)))
    (case side4 => exact HC926_3.out)
    (case side5 => repeat (first | exact (Kd.C_below HR926_4.out HB.out) | (with_reducible refine Kd.C_alloc ?_ _) | (with_reducible refine Kd.C_drewN ?_ _) | (with_reducible refine Kd.C_drew ?_)))
    (case side6 => exact HC926_4.out)
    (case side7 => repeat (first | exact (Kd.C_below HR927_0.out HB.out) | (with_reducible refine Kd.C_alloc ?_ _) | (with_reducible refine Kd.C_drewN ?_ _) | (with_reducible refine Kd.C_drew ?_)))
    (case side8 => exact HC927_0.out)
    (case side9 => repeat (first | exact (Kd.C_below HR927_3.out HB.out) | (with_reducible refine Kd.C_alloc ?_ _) | (with_reducible refine Kd.C_drewN ?_ _) | (with_reducible refine Kd.C_drew ?_)))
    (case side10 => exact HC927_3.out)
    (case side11 => repeat (first | exact (Kd.C_below HR927_4.out HB.out) | (with_reducible refine Kd.C_alloc ?_ _) | (with_reducible refine Kd.C_drewN ?_ _) | (with_reducible refine Kd.C_drew ?_)))
    (case side12 => exact HC927_4.out)
    rintro e w12 ⟨rfl, hb⟩
    refine ⟨_, rfl, ?_⟩
    have n0_ := Aside0.mk (below_step (by repeat (first | (with_reducible first | exact HB.out | apply below_alloc | apply pw_below_drewN | apply below_drew1) | exact HB.out)) hb)
    clear HB
    have HB := n0_
    clear n0_
    (try clear hb)
    (try clear hb2)
    (try clear hk)
    (try clear hi)
    refine hK.out _ _ ⟨((HB.out.cell (World.block_lt_of_cell? w _ hw926_0)).trans hw926_0), ((HB.out.cell (World.block_lt_of_cell? w _ hw926_1)).trans hw926_1), ((HB.out.cell (World.block_lt_of_cell? w _ hw926_2)).trans hw926_2), ((HB.out.cell (World.block_lt_of_cell? w _ hw926_3)).trans hw926_3), ((HB.out.cell (World.block_lt_of_cell? w _ hw926_4)).trans hw926_4), ((HB.out.cell (World.block_lt_of_cell? w _ hw927_0)).trans hw927_0), ((HB.out.cell (World.block_lt_of_cell? w _ hw927_1)).trans hw927_1), ((HB.out.cell (World.block_lt_of_cell? w _ hw927_2)).trans hw927_2), ((HB.out.cell (World.block_lt_of_cell? w _ hw927_3)).trans hw927_3), ((HB.out.cell (World.block_lt_of_cell? w _ hw927_4)).trans hw927_4)⟩ (fun hHeld => ?_)
    clear hK K
    refine norm_ (a' := ?_) ?_ ?_
    rotate_left
    ·show Act.put _ (some 25) _ = _
     simp only [Act.put, List.setIfInBounds_toArray, List.set_cons_zero, List.set_cons_succ, i64_w, i32_w]
     rfl
    refine pure_ (i := 9) (N := some 26) (v := ?_) (a' := ?_) #[true, true, true, true, true, true, true, true, true, true] rfl rfl (any_of HT_.out (by kernel_rfl)) (fun _ _ _ h => h) (Or.inl ⟨by rfl, ?_⟩) ?_ ?_
    rotate_left
    ·intro w'
     go_simp
     with_reducible rfl
    rotate_left
    ·simp only [Act.put, List.setIfInBounds_toArray, List.set_cons_zero, List.set_cons_succ, i64_w, i32_w]
     rfl
    refine done_ (done_of HT_.out (by kernel_rfl)) ?_
    try go_wp2
    go_ret
    exact ⟨by first | rfl | (simp [errW_none, errW_some] <;> rfl) | (simp [*, errW_none, errW_some] <;> rfl), by repeat (first | (with_reducible first | exact HB.out | apply below_alloc | apply pw_below_drewN | apply below_drew1) | exact HB.out)⟩
   subst c8
   have H1 : (laws_eqPsalmS.l0 k1 l0 l1 (wrap64 (x5_1 + 1))) = some r := by rw [if_pos rfl] at H; exact H
   clear H
   have H := H1
   clear H1
   have H' := Aside0.mk H
   clear H
   try go_wp2
   have n0_ := Aside0.mk (below_drew1 HB.out)
   clear HB
   have HB := n0_
   clear n0_
   have p926 : 0 ≤ (x5_1 : Int) := of_decide_eq_true (by first | (with_reducible assumption) | assumption)
   have q926 : x5_1 < (l0.length : Int) := of_decide_eq_true (by first | (with_reducible assumption) | assumption)
   obtain ⟨ad926, A926_0, c926_0, A926_3, c926_3, A926_4, c926_4, e926, hx926_0, hx926_1, hx926_2, hx926_3, hx926_4, hl926_0, hi926_0, hl926_3, hi926_3, hl926_4, hi926_4⟩ := at_T27 HR0.out x5_1 p926 q926
   have hw926_4 := hx926_4
   have hw926_3 := hx926_3
   have hw926_2 := hx926_2
   have hw926_1 := hx926_1
   have hw926_0 := hx926_0
   cases e926
   replace hx926_0 := (HB.out.cell (World.block_lt_of_cell? w _ hx926_0)).trans hx926_0
   replace hx926_1 := (HB.out.cell (World.block_lt_of_cell? w _ hx926_1)).trans hx926_1
   replace hx926_2 := (HB.out.cell (World.block_lt_of_cell? w _ hx926_2)).trans hx926_2
   replace hx926_3 := (HB.out.cell (World.block_lt_of_cell? w _ hx926_3)).trans hx926_3
   replace hx926_4 := (HB.out.cell (World.block_lt_of_cell? w _ hx926_4)).trans hx926_4
   have HR926_0 := Aside0.mk hi926_0
   have HC926_0 := Aside0.mk hl926_0
   clear hi926_0 hl926_0
   have HR926_3 := Aside0.mk hi926_3
   have HC926_3 := Aside0.mk hl926_3
   clear hi926_3 hl926_3
   have HR926_4 := Aside0.mk hi926_4
   have HC926_4 := Aside0.mk hl926_4
   clear hi926_4 hl926_4
   replace p926 := eq_true p926
   replace q926 := eq_true q926
   have p927 : 0 ≤ (x5_1 : Int) := of_decide_eq_true (by first | (with_reducible assumption) | assumption)
   have q927 : x5_1 < (l1.length : Int) := of_decide_eq_true (by first | (with_reducible assumption) | assumption)
   obtain ⟨ad927, A927_0, c927_0, A927_3, c927_3, A927_4, c927_4, e927, hx927_0, hx927_1, hx927_2, hx927_3, hx927_4, hl927_0, hi927_0, hl927_3, hi927_3, hl927_4, hi927_4⟩ := at_T27 HR1.out x5_1 p927 q927
   have hw927_4 := hx927_4
   have hw927_3 := hx927_3
   have hw927_2 := hx927_2
   have hw927_1 := hx927_1
   have hw927_0 := hx927_0
   cases e927
   replace hx927_0 := (HB.out.cell (World.block_lt_of_cell? w _ hx927_0)).trans hx927_0
   replace hx927_1 := (HB.out.cell (World.block_lt_of_cell? w _ hx927_1)).trans hx927_1
   replace hx927_2 := (HB.out.cell (World.block_lt_of_cell? w _ hx927_2)).trans hx927_2
   replace hx927_3 := (HB.out.cell (World.block_lt_of_cell? w _ hx927_3)).trans hx927_3
   replace hx927_4 := (HB.out.cell (World.block_lt_of_cell? w _ hx927_4)).trans hx927_4
   have HR927_0 := Aside0.mk hi927_0
   have HC927_0 := Aside0.mk hl927_0
   clear hi927_0 hl927_0
   have HR927_3 := Aside0.mk hi927_3
   have HC927_3 := Aside0.mk hl927_3
   clear hi927_3 hl927_3
   have HR927_4 := Aside0.mk hi927_4
   have HC927_4 := Aside0.mk hl927_4
   clear hi927_4 hl927_4
   replace p927 := eq_true p927
   replace q927 := eq_true q927
   refine start_ (n := 10) (S := fun w' => w'.cell? (ad926.add ((x5_1).toNat * 5)) = some (.slice A926_0 ((rd_T27 l0 x5_1).f0).length c926_0) ∧ w'.cell? ⟨(ad926.add ((x5_1).toNat * 5)).block, (ad926.add ((x5_1).toNat * 5)).off + 1, none⟩ = some (.int .i64 ((rd_T27 l0 x5_1).f1.f0)) ∧ w'.cell? ⟨(ad926.add ((x5_1).toNat * 5)).block, (ad926.add ((x5_1).toNat * 5)).off + 2, none⟩ = some (.bool ((rd_T27 l0 x5_1).f1.f1)) ∧ w'.cell? ⟨(ad926.add ((x5_1).toNat * 5)).block, (ad926.add ((x5_1).toNat * 5)).off + 3, none⟩ = some (.slice A926_3 ((rd_T27 l0 x5_1).f2).length c926_3) ∧ w'.cell? ⟨(ad926.add ((x5_1).toNat * 5)).block, (ad926.add ((x5_1).toNat * 5)).off + 4, none⟩ = some (.slice A926_4 ((rd_T27 l0 x5_1).f3).length c926_4) ∧ w'.cell? (ad927.add ((x5_1).toNat * 5)) = some (.slice A927_0 ((rd_T27 l1 x5_1).f0).length c927_0) ∧ w'.cell? ⟨(ad927.add ((x5_1).toNat * 5)).block, (ad927.add ((x5_1).toNat * 5)).off + 1, none⟩ = some (.int .i64 ((rd_T27 l1 x5_1).f1.f0)) ∧ w'.cell? ⟨(ad927.add ((x5_1).toNat * 5)).block, (ad927.add ((x5_1).toNat * 5)).off + 2, none⟩ = some (.bool ((rd_T27 l1 x5_1).f1.f1)) ∧ w'.cell? ⟨(ad927.add ((x5_1).toNat * 5)).block, (ad927.add ((x5_1).toNat * 5)).off + 3, none⟩ = some (.slice A927_3 ((rd_T27 l1 x5_1).f2).length c927_3) ∧ w'.cell? ⟨(ad927.add ((x5_1).toNat * 5)).block, (ad927.add ((x5_1).toNat * 5)).off + 4, none⟩ = some (.slice A927_4 ((rd_T27 l1 x5_1).f3).length c927_4)) (ds := []) #[false, false, false, false, false, false, false, false, false, false] (by kernel_rfl) rfl rfl ⟨((HB.out.cell (World.block_lt_of_cell? w _ hw926_0)).trans hw926_0), ((HB.out.cell (World.block_lt_of_cell? w _ hw926_1)).trans hw926_1), ((HB.out.cell (World.block_lt_of_cell? w _ hw926_2)).trans hw926_2), ((HB.out.cell (World.block_lt_of_cell? w _ hw926_3)).trans hw926_3), ((HB.out.cell (World.block_lt_of_cell? w _ hw926_4)).trans hw926_4), ((HB.out.cell (World.block_lt_of_cell? w _ hw927_0)).trans hw927_0), ((HB.out.cell (World.block_lt_of_cell? w _ hw927_1)).trans hw927_1), ((HB.out.cell (World.block_lt_of_cell? w _ hw927_2)).trans hw927_2), ((HB.out.cell (World.block_lt_of_cell? w _ hw927_3)).trans hw927_3), ((HB.out.cell (World.block_lt_of_cell? w _ hw927_4)).trans hw927_4)⟩ (fun hHeld => ?_); refine with_tabW laws_eqPsalmS.tab6 laws_eqPsalmS.bits6 (fun HT_ HW_ => ?_)
   generalize wr.drew = w9 at HB HR926_0 HR926_3 HR926_4 HR927_0 HR927_3 HR927_4 hx926_0 hx926_1 hx926_2 hx926_3 hx926_4 hx927_0 hx927_1 hx927_2 hx927_3 hx927_4 hHeld ⊢
   refine pure_ (i := 0) (N := some 17) (v := ?_) (a' := ?_) #[true, false, false, false, false, false, false, false, false, false] rfl rfl (any_of HT_.out (by kernel_rfl)) (fun _ _ _ h => h) (Or.inl ⟨by rfl, ?_⟩) ?_ ?_
   rotate_left
   ·intro w'
    go_simp
    with_reducible rfl
   rotate_left
   ·simp only [Act.put, List.setIfInBounds_toArray, List.set_cons_zero, List.set_cons_succ, i64_w, i32_w]
    rfl
   refine pure_ (i := 1) (N := some 18) (v := ?_) (a' := ?_) #[true, true, false, false, false, false, false, false, false, false] rfl rfl (any_of HT_.out (by kernel_rfl)) (fun _ _ _ h => h) (Or.inl ⟨by rfl, ?_⟩) ?_ ?_
   rotate_left
   ·intro w'
    go_simp
    with_reducible rfl
   rotate_left
   ·simp only [Act.put, List.setIfInBounds_toArray, List.set_cons_zero, List.set_cons_succ, i64_w, i32_w]
    rfl
   refine pure_ (i := 2) (N := some 19) (v := ?_) (a' := ?_) #[true, true, true, false, false, false, false, false, false, false] rfl rfl (any_of HT_.out (by kernel_rfl)) (fun _ _ _ h => h) (Or.inl ⟨by rfl, ?_⟩) ?_ ?_
   rotate_left
   ·intro w'
    go_simp
    with_reducible rfl
   rotate_left
   ·simp only [Act.put, List.setIfInBounds_toArray, List.set_cons_zero, List.set_cons_succ, i64_w, i32_w]
    rfl
   refine pure_ (i := 4) (N := some 21) (v := ?_) (a' := ?_) #[true, true, true, false, true, false, false, false, false, false] rfl rfl (any_of HT_.out (by kernel_rfl)) (fun _ _ _ h => h) (Or.inl ⟨by rfl, ?_⟩) ?_ ?_
   rotate_left
   ·intro w'
    go_simp
    with_reducible rfl
   rotate_left
   ·simp only [Act.put, List.setIfInBounds_toArray, List.set_cons_zero, List.set_cons_succ, i64_w, i32_w]
    rfl
   refine pure_ (i := 5) (N := some 22) (v := ?_) (a' := ?_) #[true, true, true, false, true, true, false, false, false, false] rfl rfl (any_of HT_.out (by kernel_rfl)) (fun _ _ _ h => h) (Or.inl ⟨by rfl, ?_⟩) ?_ ?_
   rotate_left
   ·intro w'
    go_simp
    with_reducible rfl
   rotate_left
   ·simp only [Act.put, List.setIfInBounds_toArray, List.set_cons_zero, List.set_cons_succ, i64_w, i32_w]
    rfl
   refine pure_ (i := 6) (N := some 23) (v := ?_) (a' := ?_) #[true, true, true, false, true, true, true, false, false, false] rfl rfl (any_of HT_.out (by kernel_rfl)) (fun _ _ _ h => h) (Or.inl ⟨by rfl, ?_⟩) ?_ ?_
   rotate_left
   ·intro w'
    go_simp
    with_reducible rfl
   rotate_left
   ·simp only [Act.put, List.setIfInBounds_toArray, List.set_cons_zero, List.set_cons_succ, i64_w, i32_w]
    rfl
   refine take_ (i := 3) (N := some 20) (v := ?_) (a' := ?_) #[true, true, true, true, true, true, true, false, false, false] rfl rfl (take_ofW HT_.out HW_.out (by kernel_rfl)) (fun _ _ _ h => h) (Or.inl ⟨by rfl, ?_⟩) hHeld ?_ ?_
   rotate_left
   ·rintro w' ⟨s0, s1, s2, s3, s4, s5, s6, s7, s8, s9⟩
    go_simp
    with_reducible rfl
   rotate_left
   ·simp only [Act.put, List.setIfInBounds_toArray, List.set_cons_zero, List.set_cons_succ, i64_w, i32_w]
    rfl
   refine take_ (i := 7) (N := some 24) (v := ?_) (a' := ?_) #[true, true, true, true, true, true, true, true, false, false] rfl rfl (take_ofW HT_.out HW_.out (by kernel_rfl)) (fun _ _ _ h => h) (Or.inl ⟨by rfl, ?_⟩) hHeld ?_ ?_
   rotate_left
   ·rintro w' ⟨s0, s1, s2, s3, s4, s5, s6, s7, s8, s9⟩
    go_simp
    with_reducible rfl
   rotate_left
   ·simp only [Act.put, List.setIfInBounds_toArray, List.set_cons_zero, List.set_cons_succ, i64_w, i32_w]
    rfl
   refine one_ (i := 8) (N := some 25) #[true, true, true, true, true, true, true, true, true, false] rfl rfl (one_of HT_.out (by kernel_rfl)) (by decide) (fun K hK => ?_)
   refine goes_ Tryd.func26 (by kernel_rfl) rfl #[.agg #[.slice A926_0 ((rd_T27 l0 x5_1).f0).length c926_0, .int .i64 ((rd_T27 l0 x5_1).f1.f0), .bool ((rd_T27 l0 x5_1).f1.f1), .slice A926_3 ((rd_T27 l0 x5_1).f2).length c926_3, .slice A926_4 ((rd_T27 l0 x5_1).f3).length c926_4], .agg #[.slice A927_0 ((rd_T27 l1 x5_1).f0).length c927_0, .int .i64 ((rd_T27 l1 x5_1).f1.f0), .bool ((rd_T27 l1 x5_1).f1.f1), .slice A927_3 ((rd_T27 l1 x5_1).f2).length c927_3, .slice A927_4 ((rd_T27 l1 x5_1).f3).length c927_4]] (by rfl) rfl rfl (by (try simp only [List.map_toArray, List.map_cons, List.map_nil]); first | done | rfl | (simp only [List.length_drop, List.length_take]; rfl)) ?_
   with_reducible refine (laws_eqPsalm.calls k1 _ _ ((rd_T27 l0 x5_1).f0) ((rd_T27 l0 x5_1).f1.f0) ((rd_T27 l0 x5_1).f1.f1) _ _ ((rd_T27 l0 x5_1).f2) _ _ ((rd_T27 l0 x5_1).f3) _ _ ((rd_T27 l1 x5_1).f0) ((rd_T27 l1 x5_1).f1.f0) ((rd_T27 l1 x5_1).f1.f1) _ _ ((rd_T27 l1 x5_1).f2) _ _ ((rd_T27 l1 x5_1).f3) true _ ?side1 ?side2 ?side3 ?side4 ?side5 ?side6 ?side7 ?side8 ?side9 ?side10 ?side11 ?side12 A7.out).mono ?_
   (case side1 => repeat (first | exact (Kd.C_below HR926_0.out HB.out) | (with_reducible refine Kd.C_alloc ?_ _) | (with_reducible refine Kd.C_drewN ?_ _) | (with_reducible refine Kd.C_drew ?_)))
   (case side2 => exact HC926_0.out)
   (case side3 => repeat (first | exact (Kd.C_below HR926_3.out HB.out) | (with_reducible refine Kd.C_alloc ?_ _) | (with_reducible refine Kd.C_drewN ?_ _) | (with_reducible refine Kd.C_drew ?_)))
   (case side4 => exact HC926_3.out)
   (case side5 => repeat (first | exact (Kd.C_below HR926_4.out HB.out) | (with_reducible refine Kd.C_alloc ?_ _) | (with_reducible refine Kd.C_drewN ?_ _) | (with_reducible refine Kd.C_drew ?_)))
   (case side6 => exact HC926_4.out)
   (case side7 => repeat (first | exact (Kd.C_below HR927_0.out HB.out) | (with_reducible refine Kd.C_alloc ?_ _) | (with_reducible refine Kd.C_drewN ?_ _) | (with_reducible refine Kd.C_drew ?_)))
   (case side8 => exact HC927_0.out)
   (case side9 => repeat (first | exact (Kd.C_below HR927_3.out HB.out) | (with_reducible refine Kd.C_alloc ?_ _) | (with_reducible refine Kd.C_drewN ?_ _) | (with_reducible refine Kd.C_drew ?_)))
   (case side10 => exact HC927_3.out)
   (case side11 => repeat (first | exact (Kd.C_below HR927_4.out HB.out) | (with_reducible refine Kd.C_alloc ?_ _) | (with_reducible refine Kd.C_drewN ?_ _) | (with_reducible refine Kd.C_drew ?_)))
   (case side12 => exact HC927_4.out)
   rintro e w10 ⟨rfl, hb⟩
   refine ⟨_, rfl, ?_⟩
   have n0_ := Aside0.mk (below_step (by repeat (first | (with_reducible first | exact HB.out | apply below_alloc | apply pw_below_drewN | apply below_drew1) | exact HB.out)) hb)
   clear HB
   have HB := n0_
   clear n0_
   (try clear hb)
   (try clear hb2)
   (try clear hk)
   (try clear hi)
   refine hK.out _ _ ⟨((HB.out.cell (World.block_lt_of_cell? w _ hw926_0)).trans hw926_0), ((HB.out.cell (World.block_lt_of_cell? w _ hw926_1)).trans hw926_1), ((HB.out.cell (World.block_lt_of_cell? w _ hw926_2)).trans hw926_2), ((HB.out.cell (World.block_lt_of_cell? w _ hw926_3)).trans hw926_3), ((HB.out.cell (World.block_lt_of_cell? w _ hw926_4)).trans hw926_4), ((HB.out.cell (World.block_lt_of_cell? w _ hw927_0)).trans hw927_0), ((HB.out.cell (World.block_lt_of_cell? w _ hw927_1)).trans hw927_1), ((HB.out.cell (World.block_lt_of_cell? w _ hw927_2)).trans hw927_2), ((HB.out.cell (World.block_lt_of_cell? w _ hw927_3)).trans hw927_3), ((HB.out.cell (World.block_lt_of_cell? w _ hw927_4)).trans hw927_4)⟩ (fun hHeld => ?_)
   clear hK K
   refine norm_ (a' := ?_) ?_ ?_
   rotate_left
   ·show Act.put _ (some 25) _ = _
    simp only [Act.put, List.setIfInBounds_toArray, List.set_cons_zero, List.set_cons_succ, i64_w, i32_w]
    rfl
   refine pure_ (i := 9) (N := some 26) (v := ?_) (a' := ?_) #[true, true, true, true, true, true, true, true, true, true] rfl rfl (any_of HT_.out (by kernel_rfl)) (fun _ _ _ h => h) (Or.inl ⟨by rfl, ?_⟩) ?_ ?_
   rotate_left
   ·intro w'
    go_simp
    with_reducible rfl
   rotate_left
   ·simp only [Act.put, List.setIfInBounds_toArray, List.set_cons_zero, List.set_cons_succ, i64_w, i32_w]
    rfl
   refine done_ (done_of HT_.out (by kernel_rfl)) ?_
   try go_wp2
   go_roundg k1
   case measure => have := HK1.out; omega
   case rel => exact ⟨(wrap64 (x5_1 + 1)), (by first | rfl | (simp; done) | (simp [*]; done)), H', ⟨by have := HK1.out; omega⟩, ⟨by repeat (first | (with_reducible first | exact HB.out | apply below_alloc | apply pw_below_drewN | apply below_drew1) | exact HB.out)⟩⟩
end Go.Proofs.YtdgmkfbmeaalpaaDoor.E
end
