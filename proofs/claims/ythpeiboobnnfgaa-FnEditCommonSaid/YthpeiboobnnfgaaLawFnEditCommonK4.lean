/- Proved: for all arguments the given program's laws.FnEditCommon returns true, and its arguments read afterwards as they read before (the given constant Rows.FnEditCommonSaid).
Conditions: none ahead of the given statement. -/
import Derived.Test.YthpeiboobnnfgaaLawFnEditCommonK3
section
namespace Go.Proofs.Ythpeiboobnnfgaa.E
open Go.RowKit Go.Proofs.YthpeiboobnnfgaaW.PrintWords Go.Proofs.YthpeiboobnnfgaaW.PrintLast Go.Proofs.YthpeiboobnnfgaaW.PrintMore
attribute [local go_sem] max2_int min2_int max_two min_two max_three min_three max_four min_four
set_option linter.unusedVariables false
set_option linter.unusedSimpArgs false
attribute [local go_sem] en63_mk1 en63_mk2 en63_mk3 en63_mk4
attribute [local go_sem] str_leq_ str_gtr_ str_geq_
def impl_MelodyBack.l0 : Nat → List (S36) → List (S36) → List (S36) → Int → Int → Option ((List (S36)) × Bool)
 | 0, _, _, _, _, _ => none
 | k + 1, x0, x4, x13, x14, x15 => if x15 < x14 then (if 0 ≤ x15 then (if x15 < (x13.length : Int) then (if 0 ≤ (wrap64 ((wrap64 ((x0.length : Int) - 1)) - x15)) then (if (wrap64 ((wrap64 ((x0.length : Int) - 1)) - x15)) < (x4.length : Int) then (impl_MelodyBack.l0 k x0 (x4.set ((wrap64 ((wrap64 ((x0.length : Int) - 1)) - x15)) : Int).toNat (⟨(rd_T36 x13 x15).f0, (rd_T36 x13 x15).f1⟩ : S36)) x13 x14 (wrap64 (x15 + 1))) else (none)) else (none)) else (none)) else (none)) else (some (x4, true))
def impl_MelodyBack.f (k : Nat) (l0 : List (S36)) : Option ((List (S36)) × Bool) := (impl_MelodyValid.f k l0).bind fun t585 => (if t585 = true then (if 0 ≤ (l0.length : Int) then (if ((l0.length : Int) : Int).toNat ≤ 17592186044416 then (impl_MelodyBack.l0 k l0 (List.replicate ((l0.length : Int) : Int).toNat z36) l0 (l0.length : Int) 0) else (none)) else (none)) else (some (([] : List (S36)), false)))
set_option maxHeartbeats 8000000 in
set_option maxRecDepth 100000 in
theorem impl_MelodyBack.calls (k : Nat) (A0 : Option Addr) (c0 : Nat) (l0 : List (S36)) (r1 : List (S36)) (r2 : Bool) (w : World) (hr0 : Kd.C k36 w A0 l0.length l0) (hc0 : l0.length ≤ c0) (h : impl_MelodyBack.f k l0 = some (r1, r2)) :
  Calls Try.prog 26 #[.slice A0 l0.length c0] w fun e w' => ∃ v0_ : Value, e = .returned (.tuple #[v0_, .bool r2]) ∧ Kd.R k36 36 w' w.heap.size (fun _ => True) v0_ r1 ∧ Below w.heap.size w w' := by
 have hu36 := Try.underlying36
 have HR0 := Aside0.mk hr0
 have HC0 := Aside0.mk hc0
 clear hr0 hc0
 have HB := Aside0.mk (Below.refl w.heap.size w)
 have H : ((impl_MelodyValid.f k l0).bind fun t585 => (if t585 = true then (if 0 ≤ (l0.length : Int) then (if ((l0.length : Int) : Int).toNat ≤ 17592186044416 then (impl_MelodyBack.l0 k l0 (List.replicate ((l0.length : Int) : Int).toNat z36) l0 (l0.length : Int) 0) else (none)) else (none)) else (some (([] : List (S36)), false)))) = some (r1, r2) := h
 clear h
 replace H := Option.bind_eq_some_iff.mp H
 obtain ⟨t585, A20, H⟩ := H
 replace H : (if t585 = true then (if 0 ≤ (l0.length : Int) then (if ((l0.length : Int) : Int).toNat ≤ 17592186044416 then (impl_MelodyBack.l0 k l0 (List.replicate ((l0.length : Int) : Int).toNat z36) l0 (l0.length : Int) 0) else (none)) else (none)) else (some (([] : List (S36)), false))) = some (r1, r2) := H
 have A2 := Aside0.mk A20
 clear A20
 by_cases c3 : t585 = true
 rotate_left
 ·replace c3 := Bool.eq_false_iff.mpr c3
  subst c3
  have H1 : (some (([] : List (S36)), false)) = some (r1, r2) := by rw [if_neg (show ¬ (false = true) by decide)] at H; exact H
  clear H
  have H := H1
  clear H1
  simp only [Option.some.injEq, Prod.mk.injEq] at H
  obtain ⟨rfl, rfl⟩ := H
  go_enter Try.func26, Try.ntmps26
  go_wp2_with (first | ((with_reducible refine gate_callee (f := 34) rfl ?_); refine goesL_ (some 8) rfl rfl Try.func34 (by kernel_rfl) rfl #[.slice A0 l0.length c0] rfl (by (try simp only [List.map_toArray, List.map_cons, List.map_nil]); first | done | rfl | (simp only [List.length_drop, List.length_take]; rfl)) ?_; (with_reducible refine (impl_MelodyValid.calls k _ _ l0 false _ ?side1 ?side2 A2.out).mono ?_); (case side1 => repeat (first | exact HR0.out | (with_reducible refine Kd.C_alloc ?_ _) | (with_reducible refine Kd.C_drewN ?_ _) | (with_reducible refine Kd.C_drew ?_))); (case side2 => exact HC0.out); rintro e w22 ⟨rfl, hb⟩; refine ⟨_, rfl, ?_⟩; have n0_ := Aside0.mk (below_step (by repeat (first | (with_reducible first | exact HB.out | apply below_alloc | apply pw_below_drewN | apply below_drew1) | exact HB.out)) hb); clear HB; have HB := n0_; clear n0_; (try clear hb); (try clear hb2); (try clear hk); (try clear hi)))
  go_ret2
  exact ⟨_, by first | rfl | (simp [errW_none, errW_some] <;> rfl) | (simp [*, errW_none, errW_some] <;> rfl), by first | exact Kd.R_nil _ _ _ _ _ | exact Kd.N_nil _ _ _ _ _ | exact Kd.V_nil _ _ _ _ _ | exact Kd.Q_nil _ _ _ _ _ | exact Kd.S_nil _ _ _ _ _, by repeat (first | (with_reducible first | exact HB.out | apply below_alloc | apply pw_below_drewN | apply below_drew1) | exact HB.out)⟩
 subst c3
 have H1 : (if 0 ≤ (l0.length : Int) then (if ((l0.length : Int) : Int).toNat ≤ 17592186044416 then (impl_MelodyBack.l0 k l0 (List.replicate ((l0.length : Int) : Int).toNat z36) l0 (l0.length : Int) 0) else (none)) else (none)) = some (r1, r2) := by rw [if_pos rfl] at H; exact H
 clear H
 have H := H1
 clear H1
 by_cases c4 : 0 ≤ (l0.length : Int)
 rotate_left
 ·rw [if_neg c4] at H
  exact absurd H (by simp)
 rw [if_pos c4] at H
 have c4b0 := eq_true c4
 have c4b1 : decide (0 ≤ (l0.length : Int)) = true := decide_eq_true c4
 clear c4
 by_cases c5 : ((l0.length : Int) : Int).toNat ≤ 17592186044416
 rotate_left
 ·rw [if_neg c5] at H
  exact absurd H (by simp)
 rw [if_pos c5] at H
 have c5b0 := eq_true c5
 have c5b1 : decide (((l0.length : Int) : Int).toNat ≤ 17592186044416) = true := decide_eq_true c5
 clear c5
 obtain ⟨y586, hy586⟩ : ∃ y_ : List (S36), y_ = (List.replicate ((l0.length : Int) : Int).toNat z36) := ⟨_, rfl⟩
 replace H : (impl_MelodyBack.l0 k l0 y586 l0 (l0.length : Int) 0) = some (r1, r2) := by first | (rw [hy586]; with_reducible exact H) | (have H2_ := (Option.bind_some _ _).symm.trans H; rw [hy586]; with_reducible exact H2_) | (have H2_ := (Option.bind_some _ _).symm.trans H; with_reducible exact H2_) | with_reducible exact H | (rw [hy586]; exact H) | exact H
 have Ny586 := Aside0.mk hy586
 clear hy586
 have H' := Aside0.mk H
 clear H
 go_enter Try.func26, Try.ntmps26
 go_wp2_with (first | ((with_reducible refine gate_callee (f := 34) rfl ?_); refine goesL_ (some 8) rfl rfl Try.func34 (by kernel_rfl) rfl #[.slice A0 l0.length c0] rfl (by (try simp only [List.map_toArray, List.map_cons, List.map_nil]); first | done | rfl | (simp only [List.length_drop, List.length_take]; rfl)) ?_; (with_reducible refine (impl_MelodyValid.calls k _ _ l0 true _ ?side1 ?side2 A2.out).mono ?_); (case side1 => repeat (first | exact HR0.out | (with_reducible refine Kd.C_alloc ?_ _) | (with_reducible refine Kd.C_drewN ?_ _) | (with_reducible refine Kd.C_drew ?_))); (case side2 => exact HC0.out); rintro e w6 ⟨rfl, hb⟩; refine ⟨_, rfl, ?_⟩; have n0_ := Aside0.mk (below_step (by repeat (first | (with_reducible first | exact HB.out | apply below_alloc | apply pw_below_drewN | apply below_drew1) | exact HB.out)) hb); clear HB; have HB := n0_; clear n0_; (try clear hb); (try clear hb2); (try clear hk); (try clear hi)) | ((with_reducible refine gate_dst (N := 12) rfl ?_); refine Kd.R_make k36 _ 36 rfl (N := 12) rfl 25 _ _ rfl (l0.length : Int) rfl rfl Try.underlying25 (.agg #[(.int .i64 0), (.bool false)]) 16 info36 rfl (by decide) (by omega) z36 (ok := fun _ => True) (okp := fun _ => True) (k36_mkM _ _ _ z36 ) (fun _ hk => hk) trivial (of_decide_eq_true (by first | (with_reducible assumption) | assumption)) (Nat.le_trans (Nat.mul_le_mul_right _ (of_decide_eq_true (by first | (with_reducible assumption) | assumption) : (l0.length : Int).toNat ≤ 17592186044416)) (by omega)) (Below.refl _ _) (Nat.le_refl _) ?_; intro v587 w7 ho8 hb hg_ hnew_; clear hg_ hnew_; (first | rw [← Ny586.out] at ho8 | (simp only [Int.reduceToNat] at ho8; rw [← Ny586.out] at ho8)); have n0_ := Aside0.mk (Kd.R_lower ho8 (below_size (by repeat (first | (with_reducible first | exact HB.out | apply below_alloc | apply pw_below_drewN | apply below_drew1) | exact HB.out)))); have n1_ := Aside0.mk (below_step (by repeat (first | (with_reducible first | exact HB.out | apply below_alloc | apply pw_below_drewN | apply below_drew1) | exact HB.out)) hb); clear HB; have HO588 := n0_; have HB := n1_; clear n0_ n1_; clear hb ho8))
 go_loopg [15] k (fun kq v15 w' => ∃ (x4_1 : List (S36)) (x15_1 : Int), v15 = .int .i64 x15_1 ∧ Aside0 (impl_MelodyBack.l0 kq l0 x4_1 l0 (l0.length : Int) x15_1 = some (r1, r2)) ∧ Aside0 (kq ≤ k) ∧ Aside0 (Kd.R k36 36 w' w.heap.size (fun _ => True) v587 x4_1) ∧ Aside0 (Below w.heap.size w w'))
 case atStart => exact ⟨(y586), (0), (by first | rfl | (simp; done) | (simp [*]; done)), H', ⟨Nat.le_refl _⟩, ⟨by (with_reducible repeat (first | apply Kd.R_alloc | apply Kd.R_drewN | apply Kd.R_drew)); exact HO588.out⟩, ⟨by repeat (first | (with_reducible first | exact HB.out | apply below_alloc | apply pw_below_drewN | apply below_drew1) | exact HB.out)⟩⟩
 case round =>
  clear H'
  try clear c2
  try clear p2
  try clear c3
  try clear c4
  try clear c4b0
  try clear c4b1
  try clear c5
  try clear c5b0
  try clear c5b1
  obtain ⟨x4_1, x15_1, rfl, HA, HK1, HO_4, HB⟩ := hrel
  cases gk with
  | zero => exact absurd HA.out (by simp [impl_MelodyBack.l0])
  | succ k1 =>
   have H := HA.out
   clear HA
   simp only [impl_MelodyBack.l0] at H
   by_cases c9 : x15_1 < (l0.length : Int)
   rotate_left
   ·rw [if_neg c9] at H
    have c9b0 : decide (x15_1 < (l0.length : Int)) = false := decide_eq_false c9
    clear c9
    simp only [Option.some.injEq, Prod.mk.injEq] at H
    obtain ⟨rfl, rfl⟩ := H
    go_wp2
    go_ret2
    exact ⟨_, by first | rfl | (simp [errW_none, errW_some] <;> rfl) | (simp [*, errW_none, errW_some] <;> rfl), by (with_reducible repeat (first | apply Kd.R_alloc | apply Kd.R_drewN | apply Kd.R_drew)); exact HO_4.out, by repeat (first | (with_reducible first | exact HB.out | apply below_alloc | apply pw_below_drewN | apply below_drew1) | exact HB.out)⟩
   rw [if_pos c9] at H
   have c9b0 : decide (x15_1 < (l0.length : Int)) = true := decide_eq_true c9
   clear c9
   by_cases c10 : 0 ≤ x15_1
   rotate_left
   ·rw [if_neg c10] at H
    exact absurd H (by simp)
   rw [if_pos c10] at H
   have c10b0 : decide (0 ≤ x15_1) = true := decide_eq_true c10
   clear c10
   by_cases c11 : x15_1 < (l0.length : Int)
   rotate_left
   ·rw [if_neg c11] at H
    exact absurd H (by simp)
   rw [if_pos c11] at H
   have c11b0 : decide (x15_1 < (l0.length : Int)) = true := decide_eq_true c11
   clear c11
   obtain ⟨ji12, hji12⟩ : ∃ j_ : Int, (wrap64 ((wrap64 ((l0.length : Int) - 1)) - x15_1)) = j_ := ⟨_, rfl⟩
   replace H : (if 0 ≤ (ji12) then (if (ji12) < (x4_1.length : Int) then (impl_MelodyBack.l0 k1 l0 (x4_1.set ((ji12) : Int).toNat (⟨(rd_T36 l0 x15_1).f0, (rd_T36 l0 x15_1).f1⟩ : S36)) l0 (l0.length : Int) (wrap64 (x15_1 + 1))) else (none)) else (none)) = some (r1, r2) := by first | (rw [hji12] at H; exact H) | (simp only [hji12] at H ⊢; exact H)
   have hji12w : (IntKind.i64.wrap ((wrap64 ((l0.length : Int) - 1)) - x15_1)) = ji12 := (i64_w _).trans hji12
   by_cases c13 : 0 ≤ (ji12)
   rotate_left
   ·rw [if_neg c13] at H
    exact absurd H (by simp)
   rw [if_pos c13] at H
   have c13b0 : decide (0 ≤ (ji12)) = true := decide_eq_true c13
   clear c13
   by_cases c14 : (ji12) < (x4_1.length : Int)
   rotate_left
   ·rw [if_neg c14] at H
    exact absurd H (by simp)
   rw [if_pos c14] at H
   have c14b0 : decide ((ji12) < (x4_1.length : Int)) = true := decide_eq_true c14
   clear c14
   obtain ⟨y591, hy591⟩ : ∃ y_ : List (S36), y_ = (x4_1.set ((ji12) : Int).toNat (⟨(rd_T36 l0 x15_1).f0, (rd_T36 l0 x15_1).f1⟩ : S36)) := ⟨_, rfl⟩
   replace H : (impl_MelodyBack.l0 k1 l0 y591 l0 (l0.length : Int) (wrap64 (x15_1 + 1))) = some (r1, r2) := by first | (rw [hy591]; with_reducible exact H) | (have H2_ := (Option.bind_some _ _).symm.trans H; rw [hy591]; with_reducible exact H2_) | (have H2_ := (Option.bind_some _ _).symm.trans H; with_reducible exact H2_) | with_reducible exact H | (rw [hy591]; exact H) | exact H
   have Ny591 := Aside0.mk hy591
   clear hy591
   have H' := Aside0.mk H
   clear H
   have p589 : 0 ≤ (x15_1 : Int) := of_decide_eq_true (by first | (with_reducible assumption) | assumption)
   have q589 : x15_1 < (l0.length : Int) := of_decide_eq_true (by first | (with_reducible assumption) | assumption)
   obtain ⟨ad589, e589, hx589_0, hx589_1⟩ := at_T36 HR0.out x15_1 p589 q589
   cases e589
   replace hx589_0 := (HB.out.cell (World.block_lt_of_cell? w _ hx589_0)).trans hx589_0
   replace hx589_1 := (HB.out.cell (World.block_lt_of_cell? w _ hx589_1)).trans hx589_1
   replace p589 := eq_true p589
   replace q589 := eq_true q589
   go_wp2_with (first | ((with_reducible refine gate_dst (N := 6) rfl ?_); refine box_event ?hg (N := 6) ?hd (cs := #[.int .i64 0, .bool false]) (t := 36) ?hr ?_; (case hd => rfl); (case hg => rfl); (case hr => first | (go_simp; done) | (go_simp; rfl)); intro gb590 hg w16 hbox hb; have n0_ := Aside0.mk (Kd.R_below (Kd.R_elderB (by (with_reducible repeat (first | apply Kd.R_alloc | apply Kd.R_drewN | apply Kd.R_drew)); exact HO_4.out) gb590 (Nat.le_of_eq hg.symm)) hb); have n1_ := Aside0.mk (below_step (by repeat (first | (with_reducible first | exact HB.out | apply below_alloc | apply pw_below_drewN | apply below_drew1) | exact HB.out)) hb); have n2_ := Aside0.mk (hbox); have n3_ := Aside0.mk ((by rw [hg]; exact (below_size (by repeat (first | (with_reducible first | exact HB.out | apply below_alloc | apply pw_below_drewN | apply below_drew1) | exact HB.out))) : w.heap.size ≤ gb590)); have n4_ := Aside0.mk ((by rw [hg]; exact (below_size (by repeat (first | (with_reducible first | exact HB.out | apply below_alloc | apply pw_below_drewN | apply below_drew1) | exact HB.out))) : w.heap.size ≤ gb590)); clear HO_4; clear HB; have HO_4 := n0_; have HB := n1_; have BK590 := n2_; have GW590 := n3_; have GE590 := n4_; clear n0_ n1_ n2_ n3_ n4_; clear hb hbox hg; have hcz17_0 : w16.cell? ⟨gb590, 0, none⟩ = some (.int .i64 0) := (blk_cell BK590.out 0).trans rfl; have hcz17_1 : w16.cell? ⟨gb590, 1, none⟩ = some (.bool false) := (blk_cell BK590.out 1).trans rfl; have hfz17_0 := blk_frozen BK590.out 0; have hfz17_1 := blk_frozen BK590.out 1) | ((with_reducible refine gate_store (t := 36) (p := 6) rfl ?_); refine store_event (t := 36) (p := 6) (v := ?vo_w18) (w1 := ((w16.setCell ⟨gb590, 0, none⟩ (.int .i64 ((rd_T36 l0 x15_1).f0))).setCell ⟨gb590, 1, none⟩ (.bool ((rd_T36 l0 x15_1).f1)))) ?hg ?ho ?hn ?hr ?_; (case ho => rfl); (case hg => rfl); (case hn => rfl); (case hr => first | (go_simp; done) | (go_simp; rfl)); intro w18 hw; have n0_ : Aside0 (Kd.R k36 36 w18 w.heap.size (fun k_ => k_ ≠ gb590) v587 x4_1) := ⟨(by rw [hw]; exact (by (with_reducible repeat (first | apply Kd.R_alloc | apply Kd.R_drewN | apply Kd.R_drew)); exact Kd.R_mono (Kd.R_far (p := ⟨gb590, 1, none⟩) (Kd.R_far (p := ⟨gb590, 0, none⟩) (Kd.R_mono HO_4.out (fun k_ hk => (⟨hk, hk.2⟩ : _ ∧ k_ ≠ gb590))) (fun _ hk => hk.2) (.int .i64 ((rd_T36 l0 x15_1).f0))) (fun _ hk => hk.2) (.bool ((rd_T36 l0 x15_1).f1))) (fun _ hk => hk.1.2)))⟩; have n1_ : Aside0 (w18.heap[gb590]? = some (.cells #[.int .i64 ((rd_T36 l0 x15_1).f0), .bool ((rd_T36 l0 x15_1).f1)] 36 (0, 0))) := ⟨(by rw [hw]; exact (by (with_reducible repeat (first | refine blk_drewN ?_ _ | refine blk_drew ?_ | refine blk_alloc ?_ _)); refine blk_put (cs := #[.int .i64 ((rd_T36 l0 x15_1).f0), .bool false]) ?_ 1 _ rfl; (with_reducible repeat (first | refine blk_drewN ?_ _ | refine blk_drew ?_ | refine blk_alloc ?_ _)); refine blk_put (cs := #[.int .i64 0, .bool false]) ?_ 0 _ rfl; (with_reducible repeat (first | refine blk_drewN ?_ _ | refine blk_drew ?_ | refine blk_alloc ?_ _)); exact BK590.out))⟩; have n2_ : Aside0 (Below w.heap.size w w18) := ⟨(by rw [hw]; exact (by repeat (first | (with_reducible first | exact HB.out | apply below_alloc | apply pw_below_drewN | apply below_drew1 | refine below_set ?_ GE590.out) | exact HB.out)))⟩; clear hw; clear HO_4; clear BK590; clear HB; have HO_4 := n0_; have BK590 := n1_; have HB := n2_; clear n0_ n1_ n2_; have hcz19_0 : w18.cell? ⟨gb590, 0, none⟩ = some (.int .i64 ((rd_T36 l0 x15_1).f0)) := (blk_cell BK590.out 0).trans rfl; have hcz19_1 : w18.cell? ⟨gb590, 1, none⟩ = some (.bool ((rd_T36 l0 x15_1).f1)) := (blk_cell BK590.out 1).trans rfl; have hfz19_0 := blk_frozen BK590.out 0; have hfz19_1 := blk_frozen BK590.out 1; have p15 : 0 ≤ ((ji12) : Int) := of_decide_eq_true (by first | (with_reducible assumption) | assumption); have q15 : ((ji12) : Int) < ((x4_1.length : Int) : Int) := of_decide_eq_true (by first | (with_reducible assumption) | assumption); obtain ⟨go15, co15, eo15, gb15, gl15, cl15, HG15⟩ := Kd.R_form HO_4.out (by omega); (first | cases eo15 | (injection eo15 with ea_ en_ ec_; (first | subst ea_ | (injection ea_ with ea_; subst ea_)); subst ec_; clear en_)); have GB15 := Aside0.mk gb15; have GG15 := Aside0.mk HG15; clear gb15 gl15 HG15; obtain ⟨ce15, hcl15, hM15, hcc15, hfr15⟩ := Kd.R_elem HO_4.out z36 ((ji12) : Int) p15 q15; obtain rfl := k36_openM hM15; have hx15_0 : w18.cell? ⟨go15, ((ji12) : Int).toNat * 2, none⟩ = some (.int .i64 ((rd_T36 x4_1 (ji12)).f0)) := hcc15 0 _ rfl; have hx15_1 : w18.cell? ⟨go15, ((ji12) : Int).toNat * 2 + 1, none⟩ = some (.bool ((rd_T36 x4_1 (ji12)).f1)) := hcc15 1 _ rfl; have hf15_0 : w18.frozen? ⟨go15, ((ji12) : Int).toNat * 2, none⟩ = false := hfr15 0; have hf15_1 : w18.frozen? ⟨go15, ((ji12) : Int).toNat * 2 + 1, none⟩ = false := hfr15 1; (try clear hM15); clear hcl15 hcc15 hfr15; replace p15 := eq_true p15; replace q15 := eq_true q15; have HX20 := Aside0.mk (show Kd.R k36 36 w18 w.heap.size (fun k_ => k_ ≠ gb590) (.slice (some ⟨go15, 0, none⟩) x4_1.length co15) x4_1 from (by (with_reducible repeat (first | apply Kd.R_alloc | apply Kd.R_drewN | apply Kd.R_drew)); exact HO_4.out)); obtain ⟨ce20, hcl20, hM20, hcc20, hfr20⟩ := Kd.R_elem HX20.out z36 ((ji12) : Int) (of_decide_eq_true (by first | (with_reducible assumption) | assumption)) (by have h_ : ((ji12) : Int) < ((x4_1.length : Int) : Int) := of_decide_eq_true (by first | (with_reducible assumption) | assumption); first | exact h_ | (have e_ := (Kd.R_reads' HO_4.out).1; omega) | simpa using h_); obtain rfl := k36_openM hM20; have HP20 := Kd.R_seg HX20.out ((ji12) : Int) (of_decide_eq_true (by first | (with_reducible assumption) | assumption)) (by have h_ : ((ji12) : Int) < ((x4_1.length : Int) : Int) := of_decide_eq_true (by first | (with_reducible assumption) | assumption); first | exact h_ | (have e_ := (Kd.R_reads' HO_4.out).1; omega) | simpa using h_) (seg := [.int .i64 ((rd_T36 l0 x15_1).f0), .bool ((rd_T36 l0 x15_1).f1)]) (j := 0) hcl20 hcc20 (show 2 ≤ 2 from by decide) (x' := (⟨(rd_T36 l0 x15_1).f0, (rd_T36 l0 x15_1).f1⟩ : S36)) (k36_mkM _ _ _ (⟨(rd_T36 l0 x15_1).f0, (rd_T36 l0 x15_1).f1⟩ : S36) ) (fun _ hk => hk); have hx20_0 := hcc20 0 _ rfl; (try simp only [show (k36).sz = 2 from rfl, Nat.mul_one, Nat.add_zero] at hx20_0); have hf20_0 := hfr20 0; (try simp only [show (k36).sz = 2 from rfl, Nat.mul_one, Nat.add_zero] at hf20_0); have hx20_1 := hcc20 1 _ rfl; (try simp only [show (k36).sz = 2 from rfl, Nat.mul_one, Nat.add_zero] at hx20_1); have hf20_1 := hfr20 1; (try simp only [show (k36).sz = 2 from rfl, Nat.mul_one, Nat.add_zero] at hf20_1); (try clear hM20); clear hcl20 hcc20 hfr20) | ((with_reducible refine gate_store (t := 36) (p := 27) rfl ?_); refine store_event (t := 36) (p := 27) (v := ?vo_w21) (w1 := ((w18.setCell ⟨go15, ((ji12) : Int).toNat * 2, none⟩ (.int .i64 ((rd_T36 l0 x15_1).f0))).setCell ⟨go15, ((ji12) : Int).toNat * 2 + 1, none⟩ (.bool ((rd_T36 l0 x15_1).f1)))) ?hg ?ho ?hn ?hr ?_; (case ho => rfl); (case hg => rfl); (case hn => rfl); (case hr => first | (go_simp; done) | (go_simp; rfl)); intro w21 hw; have hg : w18.grownBy w21 (some go15) := (by rw [hw]; exact HP20.2); have hp_ : Kd.R k36 36 w21 w.heap.size (fun k_ => k_ ≠ gb590) (.slice (some ⟨go15, 0, none⟩) x4_1.length co15) y591 := (by rw [hw, Ny591.out]; exact HP20.1); clear HP20; have n0_ := Aside0.mk (hp_); have n1_ := Aside0.mk (blk_grown (g := gb590) (o := .cells #[.int .i64 ((rd_T36 l0 x15_1).f0), .bool ((rd_T36 l0 x15_1).f1)] 36 (0, 0)) (by (with_reducible repeat (first | refine blk_drewN ?_ _ | refine blk_drew ?_ | refine blk_alloc ?_ _)); exact BK590.out) hg (Kd.R_away HO_4.out (fun _ hk => hk))); have n2_ := Aside0.mk ((by rw [hw]; exact below_set (below_set (HB.out) GB15.out) GB15.out : Below w.heap.size w w21)); clear HO_4; clear BK590; clear HB; have HO_4 := n0_; have BK590 := n1_; have HB := n2_; clear n0_ n1_ n2_; clear hg hw hp_))
   go_roundg k1
   case measure => have := HK1.out; omega
   case rel => exact ⟨(y591), (wrap64 (x15_1 + 1)), (by first | rfl | (simp; done) | (simp [*]; done)), H', ⟨by have := HK1.out; omega⟩, ⟨by (with_reducible repeat (first | apply Kd.R_alloc | apply Kd.R_drewN | apply Kd.R_drew)); exact Kd.R_mono HO_4.out (fun _ hk => trivial)⟩, ⟨by repeat (first | (with_reducible first | exact HB.out | apply below_alloc | apply pw_below_drewN | apply below_drew1 | refine below_set ?_ GE590.out) | exact HB.out)⟩⟩
end Go.Proofs.Ythpeiboobnnfgaa.E
end
section
namespace Go.Proofs.Ythpeiboobnnfgaa.E
open Go.RowKit Go.Proofs.YthpeiboobnnfgaaW.PrintWords Go.Proofs.YthpeiboobnnfgaaW.PrintLast Go.Proofs.YthpeiboobnnfgaaW.PrintMore
attribute [local go_sem] max2_int min2_int max_two min_two max_three min_three max_four min_four
set_option linter.unusedVariables false
set_option linter.unusedSimpArgs false
attribute [local go_sem] en63_mk1 en63_mk2 en63_mk3 en63_mk4
attribute [local go_sem] str_leq_ str_gtr_ str_geq_
def laws_FnEditCommon.j0 : Nat → List (S36) → List (S36) → Int → Int → Bool → Option (Bool)
 | 0, _, _, _, _, _ => none
 | k + 1, x3, x4, x5, x6, x31 => if x31 = true then (some (x5 == x6)) else ((impl_MelodyBack.f k x3).bind fun bt600 => ((impl_MelodyBack.f k x4).bind fun bt604 => (if bt600.2 = true then (if bt604.2 = true then ((impl_EditCommon.f k x4 x3).bind fun t608 => (if t608 = x5 then ((impl_EditCommon.f k bt600.1 bt604.1).bind fun t609 => (if t609 = x5 then (if x5 ≤ (mn (x3.length : Int) (x4.length : Int)) then ((impl_EditCost.f k x3 x4).bind fun t610 => (if t610 ≤ (wrap64 ((wrap64 (2 * (wrap64 ((x3.length : Int) - x5)))) + (wrap64 (2 * (wrap64 ((x4.length : Int) - x5)))))) then ((impl_EditCommon.f k x3 x3).bind fun t611 => (some (t611 == (x3.length : Int)))) else (some false))) else (some false)) else (some false))) else (some false))) else (some false)) else (some false))))
def laws_FnEditCommon.f (k : Nat) (l0 : List Int) : Option (Bool) := if (l0.length : Int) > 1048576 then (some true) else ((spec_DrawEditCommon.f k l0).bind fun bt592 => ((impl_EditCommon.f k bt592.1 bt592.2).bind fun t598 => ((spec_EditCommon.f k bt592.1 bt592.2).bind fun t599 => (if t598 = t599 then (laws_FnEditCommon.j0 k bt592.1 bt592.2 t598 t599 (decide (t598 < 0))) else (laws_FnEditCommon.j0 k bt592.1 bt592.2 t598 t599 true)))))
set_option maxHeartbeats 8000000 in
set_option maxRecDepth 100000 in
theorem laws_FnEditCommon.calls (k : Nat) (A0 : Option Addr) (c0 : Nat) (l0 : List Int) (r : Bool) (w : World) (hr0 : Kd.C (Kd.int .u8) w A0 l0.length l0) (hc0 : l0.length ≤ c0) (h : laws_FnEditCommon.f k l0 = some r) :
  Calls Try.prog 8 #[.slice A0 l0.length c0] w fun e w' => e = .returned (.bool r) ∧ Below w.heap.size w w' := by
 have HR0 := Aside0.mk hr0
 have HC0 := Aside0.mk hc0
 clear hr0 hc0
 have HB := Aside0.mk (Below.refl w.heap.size w)
 have H : (if (l0.length : Int) > 1048576 then (some true) else ((spec_DrawEditCommon.f k l0).bind fun bt592 => ((impl_EditCommon.f k bt592.1 bt592.2).bind fun t598 => ((spec_EditCommon.f k bt592.1 bt592.2).bind fun t599 => (if t598 = t599 then (laws_FnEditCommon.j0 k bt592.1 bt592.2 t598 t599 (decide (t598 < 0))) else (laws_FnEditCommon.j0 k bt592.1 bt592.2 t598 t599 true)))))) = some r := h
 clear h
 by_cases c2 : (l0.length : Int) > 1048576
 ·rw [if_pos c2] at H
  have c2b0 : decide (1048576 < (l0.length : Int)) = true := decide_eq_true c2
  have c2b1 : decide (1048576 < l0.length) = true := decide_eq_true (by omega)
  clear c2
  obtain rfl := Option.some.inj H
  go_enter Try.func8, Try.ntmps8
  go_wp2
  go_ret
  exact ⟨by first | rfl | (simp [errW_none, errW_some] <;> rfl) | (simp [*, errW_none, errW_some] <;> rfl), by repeat (first | (with_reducible first | exact HB.out | apply below_alloc | apply pw_below_drewN | apply below_drew1) | exact HB.out)⟩
 rw [if_neg c2] at H
 have c2b0 : decide (1048576 < (l0.length : Int)) = false := decide_eq_false c2
 have c2b1 : decide (1048576 < l0.length) = false := decide_eq_false (by omega)
 clear c2
 replace H := Option.bind_eq_some_iff.mp H
 obtain ⟨⟨t592, t593⟩, A30, H⟩ := H
 replace H : ((impl_EditCommon.f k t592 t593).bind fun t598 => ((spec_EditCommon.f k t592 t593).bind fun t599 => (if t598 = t599 then (laws_FnEditCommon.j0 k t592 t593 t598 t599 (decide (t598 < 0))) else (laws_FnEditCommon.j0 k t592 t593 t598 t599 true)))) = some r := H
 have A3 := Aside0.mk A30
 clear A30
 replace H := Option.bind_eq_some_iff.mp H
 obtain ⟨t598, A40, H⟩ := H
 replace H : ((spec_EditCommon.f k t592 t593).bind fun t599 => (if t598 = t599 then (laws_FnEditCommon.j0 k t592 t593 t598 t599 (decide (t598 < 0))) else (laws_FnEditCommon.j0 k t592 t593 t598 t599 true))) = some r := H
 have A4 := Aside0.mk A40
 clear A40
 replace H := Option.bind_eq_some_iff.mp H
 obtain ⟨t599, A50, H⟩ := H
 replace H : (if t598 = t599 then (laws_FnEditCommon.j0 k t592 t593 t598 t599 (decide (t598 < 0))) else (laws_FnEditCommon.j0 k t592 t593 t598 t599 true)) = some r := H
 have A5 := Aside0.mk A50
 clear A50
 have HC6 := Aside0.mk H
 clear H
 go_enter Try.func8, Try.ntmps8
 go_upto_region 6 with (first | ((with_reducible refine gate_callee (f := 25) rfl ?_); refine goesL_ (some 16) rfl rfl Try.func25 (by kernel_rfl) rfl #[.slice A0 l0.length c0] rfl (by (try simp only [List.map_toArray, List.map_cons, List.map_nil]); first | done | rfl | (simp only [List.length_drop, List.length_take]; rfl)) ?_; (with_reducible refine (spec_DrawEditCommon.calls k _ _ l0 t592 t593 _ ?side1 ?side2 A3.out).mono ?_); (case side1 => repeat (first | exact HR0.out | (with_reducible refine Kd.C_alloc ?_ _) | (with_reducible refine Kd.C_drewN ?_ _) | (with_reducible refine Kd.C_drew ?_))); (case side2 => exact HC0.out); rintro e w7 ⟨v594, v596, rfl, ho0, ho1, hb⟩; refine ⟨_, rfl, ?_⟩; have n0_ := Aside0.mk (Kd.R_lower ho0 (below_size (by repeat (first | (with_reducible first | exact HB.out | apply below_alloc | apply pw_below_drewN | apply below_drew1) | exact HB.out)))); have n1_ := Aside0.mk (Kd.R_lower ho1 (below_size (by repeat (first | (with_reducible first | exact HB.out | apply below_alloc | apply pw_below_drewN | apply below_drew1) | exact HB.out)))); have n2_ := Aside0.mk (below_step (by repeat (first | (with_reducible first | exact HB.out | apply below_alloc | apply pw_below_drewN | apply below_drew1) | exact HB.out)) hb); clear HB; have HO595 := n0_; have HO597 := n1_; have HB := n2_; clear n0_ n1_ n2_; (try clear hb); (try clear hb2); (try clear hk); (try clear hi); (try clear ho0); (try clear ho1); obtain ⟨Ao8, co8, eo8⟩ := Kd.R_slice HO595.out; subst eo8; obtain ⟨Ao9, co9, eo9⟩ := Kd.R_slice HO597.out; subst eo9) | ((with_reducible refine gate_callee (f := 16) rfl ?_); refine goesL_ (some 21) rfl rfl Try.func16 (by kernel_rfl) rfl #[.slice Ao8 t592.length co8, .slice Ao9 t593.length co9] rfl (by (try simp only [List.map_toArray, List.map_cons, List.map_nil]); first | done | rfl | (simp only [List.length_drop, List.length_take]; rfl)) ?_; (with_reducible refine (impl_EditCommon.calls k _ _ t592 _ _ t593 t598 _ ?side1 ?side2 ?side3 ?side4 A4.out).mono ?_); (case side1 => repeat (first | exact (Kd.R_reads' HO595.out).2.2 | (with_reducible refine Kd.C_alloc ?_ _) | (with_reducible refine Kd.C_drewN ?_ _) | (with_reducible refine Kd.C_drew ?_))); (case side2 => exact (Kd.R_reads' HO595.out).2.1); (case side3 => repeat (first | exact (Kd.R_reads' HO597.out).2.2 | (with_reducible refine Kd.C_alloc ?_ _) | (with_reducible refine Kd.C_drewN ?_ _) | (with_reducible refine Kd.C_drew ?_))); (case side4 => exact (Kd.R_reads' HO597.out).2.1); rintro e w10 ⟨rfl, hb⟩; refine ⟨_, rfl, ?_⟩; have n0_ := Aside0.mk (Kd.R_below (by (with_reducible repeat (first | apply Kd.R_alloc | apply Kd.R_drewN | apply Kd.R_drew)); exact HO595.out) hb); have n1_ := Aside0.mk (Kd.R_below (by (with_reducible repeat (first | apply Kd.R_alloc | apply Kd.R_drewN | apply Kd.R_drew)); exact HO597.out) hb); have n2_ := Aside0.mk (below_step (by repeat (first | (with_reducible first | exact HB.out | apply below_alloc | apply pw_below_drewN | apply below_drew1) | exact HB.out)) hb); clear HO595; clear HO597; clear HB; have HO595 := n0_; have HO597 := n1_; have HB := n2_; clear n0_ n1_ n2_; (try clear hb); (try clear hb2); (try clear hk); (try clear hi)) | ((with_reducible refine gate_callee (f := 14) rfl ?_); refine goesL_ (some 24) rfl rfl Try.func14 (by kernel_rfl) rfl #[.slice Ao8 t592.length co8, .slice Ao9 t593.length co9] rfl (by (try simp only [List.map_toArray, List.map_cons, List.map_nil]); first | done | rfl | (simp only [List.length_drop, List.length_take]; rfl)) ?_; (with_reducible refine (spec_EditCommon.calls k _ _ t592 _ _ t593 t599 _ ?side1 ?side2 ?side3 ?side4 A5.out).mono ?_); (case side1 => repeat (first | exact (Kd.R_reads' HO595.out).2.2 | (with_reducible refine Kd.C_alloc ?_ _) | (with_reducible refine Kd.C_drewN ?_ _) | (with_reducible refine Kd.C_drew ?_))); (case side2 => exact (Kd.R_reads' HO595.out).2.1); (case side3 => repeat (first | exact (Kd.R_reads' HO597.out).2.2 | (with_reducible refine Kd.C_alloc ?_ _) | (with_reducible refine Kd.C_drewN ?_ _) | (with_reducible refine Kd.C_drew ?_))); (case side4 => exact (Kd.R_reads' HO597.out).2.1); rintro e w11 ⟨rfl, hb⟩; refine ⟨_, rfl, ?_⟩; have n0_ := Aside0.mk (Kd.R_below (by (with_reducible repeat (first | apply Kd.R_alloc | apply Kd.R_drewN | apply Kd.R_drew)); exact HO595.out) hb); have n1_ := Aside0.mk (Kd.R_below (by (with_reducible repeat (first | apply Kd.R_alloc | apply Kd.R_drewN | apply Kd.R_drew)); exact HO597.out) hb); have n2_ := Aside0.mk (below_step (by repeat (first | (with_reducible first | exact HB.out | apply below_alloc | apply pw_below_drewN | apply below_drew1) | exact HB.out)) hb); clear HO595; clear HO597; clear HB; have HO595 := n0_; have HO597 := n1_; have HB := n2_; clear n0_ n1_ n2_; (try clear hb); (try clear hb2); (try clear hk); (try clear hi)))
 (try simp only [Act.put, List.setIfInBounds_toArray, List.set_cons_zero, List.set_cons_succ])
 go_cut [31] (fun v31 wc => ∃ (kq : Nat) (x31_5 : Bool), v31 = .bool x31_5 ∧ Aside0 (laws_FnEditCommon.j0 kq t592 t593 t598 t599 x31_5 = some r) ∧ Aside0 (kq ≤ k) ∧ Aside0 (Kd.R k36 36 wc w.heap.size (fun k_ => some k_ ≠ ((.slice Ao9 t593.length co9) : Value).ownBlock) (.slice Ao8 t592.length co8) t592) ∧ Aside0 (Kd.R k36 36 wc w.heap.size (fun k_ => some k_ ≠ ((.slice Ao8 t592.length co8) : Value).ownBlock) (.slice Ao9 t593.length co9) t593) ∧ Aside0 (Below w.heap.size w wc))
 case first =>
  have H := HC6.out
  clear HC6
  by_cases c12 : t598 = t599
  rotate_left
  ·rw [if_neg c12] at H
   have c12b0 : (t598 == t599) = false := beq_eq_false_iff_ne.mpr c12
   have c12b1 : (t598 != t599) = true := bne_iff_ne.mpr c12
   (first | rw [c12b0] | (simp only [i64_w, i32_w]; rw [c12b0]) | skip)
   have H' := Aside0.mk H
   clear H
   go_wp2
   go_meet
   case rel => exact ⟨_, (true), (by first | rfl | (simp; done) | (simp [*]; done)), H', ⟨by first | omega | exact Nat.le_refl _⟩, ⟨by (with_reducible repeat (first | apply Kd.R_alloc | apply Kd.R_drewN | apply Kd.R_drew)); exact HO595.out⟩, ⟨by (with_reducible repeat (first | apply Kd.R_alloc | apply Kd.R_drewN | apply Kd.R_drew)); exact HO597.out⟩, ⟨by repeat (first | (with_reducible first | exact HB.out | apply below_alloc | apply pw_below_drewN | apply below_drew1) | exact HB.out)⟩⟩
  rw [if_pos c12] at H
  have c12b0 : (t598 == t599) = true := beq_iff_eq.mpr c12
  have c12b1 : (t598 != t599) = false := bne_eq_false_iff_eq.mpr c12
  clear c12
  (first | rw [c12b0] | (simp only [i64_w, i32_w]; rw [c12b0]) | skip)
  have H' := Aside0.mk H
  clear H
  go_wp2
  go_meet
  case rel => exact ⟨_, (decide (t598 < 0)), (by first | rfl | (simp; done) | (simp [*]; done)), H', ⟨by first | omega | exact Nat.le_refl _⟩, ⟨by (with_reducible repeat (first | apply Kd.R_alloc | apply Kd.R_drewN | apply Kd.R_drew)); exact HO595.out⟩, ⟨by (with_reducible repeat (first | apply Kd.R_alloc | apply Kd.R_drewN | apply Kd.R_drew)); exact HO597.out⟩, ⟨by repeat (first | (with_reducible first | exact HB.out | apply below_alloc | apply pw_below_drewN | apply below_drew1) | exact HB.out)⟩⟩
 case rest =>
  clear HC6
  try clear c1
  try clear c2
  try clear c2b0
  try clear c2b1
  try clear p2
  try clear c8
  try clear c12
  try clear c12b0
  try clear c12b1
  obtain ⟨kq, x31_5, rfl, HA, HJ5, HO_3, HO_4, HB⟩ := hcut
  cases kq with
  | zero => exact absurd HA.out (by simp [laws_FnEditCommon.j0])
  | succ kj5 =>
   have H := HA.out
   clear HA
   simp only [laws_FnEditCommon.j0] at H
   by_cases c13 : x31_5 = true
   ·subst c13
    have H1 : (some (t598 == t599)) = some r := by rw [if_pos rfl] at H; exact H
    clear H
    have H := H1
    clear H1
    obtain rfl := Option.some.inj H
    go_wp2
    go_ret
    exact ⟨by first | rfl | (simp [errW_none, errW_some] <;> rfl) | (simp [*, errW_none, errW_some] <;> rfl), by repeat (first | (with_reducible first | exact HB.out | apply below_alloc | apply pw_below_drewN | apply below_drew1) | exact HB.out)⟩
   replace c13 := Bool.eq_false_iff.mpr c13
   subst c13
   have H1 : ((impl_MelodyBack.f kj5 t592).bind fun bt600 => ((impl_MelodyBack.f kj5 t593).bind fun bt604 => (if bt600.2 = true then (if bt604.2 = true then ((impl_EditCommon.f kj5 t593 t592).bind fun t608 => (if t608 = t598 then ((impl_EditCommon.f kj5 bt600.1 bt604.1).bind fun t609 => (if t609 = t598 then (if t598 ≤ (mn (t592.length : Int) (t593.length : Int)) then ((impl_EditCost.f kj5 t592 t593).bind fun t610 => (if t610 ≤ (wrap64 ((wrap64 (2 * (wrap64 ((t592.length : Int) - t598)))) + (wrap64 (2 * (wrap64 ((t593.length : Int) - t598)))))) then ((impl_EditCommon.f kj5 t592 t592).bind fun t611 => (some (t611 == (t592.length : Int)))) else (some false))) else (some false)) else (some false))) else (some false))) else (some false)) else (some false)))) = some r := by rw [if_neg (show ¬ (false = true) by decide)] at H; exact H
   clear H
   have H := H1
   clear H1
   replace H := Option.bind_eq_some_iff.mp H
   obtain ⟨⟨t600, t601⟩, A140, H⟩ := H
   replace H : ((impl_MelodyBack.f kj5 t593).bind fun bt604 => (if t601 = true then (if bt604.2 = true then ((impl_EditCommon.f kj5 t593 t592).bind fun t608 => (if t608 = t598 then ((impl_EditCommon.f kj5 t600 bt604.1).bind fun t609 => (if t609 = t598 then (if t598 ≤ (mn (t592.length : Int) (t593.length : Int)) then ((impl_EditCost.f kj5 t592 t593).bind fun t610 => (if t610 ≤ (wrap64 ((wrap64 (2 * (wrap64 ((t592.length : Int) - t598)))) + (wrap64 (2 * (wrap64 ((t593.length : Int) - t598)))))) then ((impl_EditCommon.f kj5 t592 t592).bind fun t611 => (some (t611 == (t592.length : Int)))) else (some false))) else (some false)) else (some false))) else (some false))) else (some false)) else (some false))) = some r := H
   have A14 := Aside0.mk A140
   clear A140
   replace H := Option.bind_eq_some_iff.mp H
   obtain ⟨⟨t604, t605⟩, A150, H⟩ := H
   replace H : (if t601 = true then (if t605 = true then ((impl_EditCommon.f kj5 t593 t592).bind fun t608 => (if t608 = t598 then ((impl_EditCommon.f kj5 t600 t604).bind fun t609 => (if t609 = t598 then (if t598 ≤ (mn (t592.length : Int) (t593.length : Int)) then ((impl_EditCost.f kj5 t592 t593).bind fun t610 => (if t610 ≤ (wrap64 ((wrap64 (2 * (wrap64 ((t592.length : Int) - t598)))) + (wrap64 (2 * (wrap64 ((t593.length : Int) - t598)))))) then ((impl_EditCommon.f kj5 t592 t592).bind fun t611 => (some (t611 == (t592.length : Int)))) else (some false))) else (some false)) else (some false))) else (some false))) else (some false)) else (some false)) = some r := H
   have A15 := Aside0.mk A150
   clear A150
   by_cases c16 : t601 = true
   rotate_left
   ·replace c16 := Bool.eq_false_iff.mpr c16
    subst c16
    have H1 : (some false) = some r := by rw [if_neg (show ¬ (false = true) by decide)] at H; exact H
    clear H
    have H := H1
    clear H1
    obtain rfl := Option.some.inj H
    go_wp2_with (first | ((with_reducible refine gate_callee (f := 26) rfl ?_); refine goesL_ (some 37) rfl rfl Try.func26 (by kernel_rfl) rfl #[.slice Ao8 t592.length co8] rfl (by (try simp only [List.map_toArray, List.map_cons, List.map_nil]); first | done | rfl | (simp only [List.length_drop, List.length_take]; rfl)) ?_; (with_reducible refine (impl_MelodyBack.calls kj5 _ _ t592 t600 false _ ?side1 ?side2 A14.out).mono ?_); (case side1 => repeat (first | exact (Kd.R_reads' HO_3.out).2.2 | (with_reducible refine Kd.C_alloc ?_ _) | (with_reducible refine Kd.C_drewN ?_ _) | (with_reducible refine Kd.C_drew ?_))); (case side2 => exact (Kd.R_reads' HO_3.out).2.1); rintro e w59 ⟨v602, rfl, ho0, hb⟩; refine ⟨_, rfl, ?_⟩; have n0_ := Aside0.mk (Kd.R_elder' (by (with_reducible repeat (first | apply Kd.R_alloc | apply Kd.R_drewN | apply Kd.R_drew)); exact HO_3.out) (Kd.R_base ho0) hb); have n1_ := Aside0.mk (Kd.R_elder' (by (with_reducible repeat (first | apply Kd.R_alloc | apply Kd.R_drewN | apply Kd.R_drew)); exact HO_4.out) (Kd.R_base ho0) hb); have n2_ := Aside0.mk (Kd.R_lower (Kd.R_new' (Kd.R_new' ho0 (Kd.R_lt (by (with_reducible repeat (first | apply Kd.R_alloc | apply Kd.R_drewN | apply Kd.R_drew)); exact HO_3.out))) (Kd.R_lt (by (with_reducible repeat (first | apply Kd.R_alloc | apply Kd.R_drewN | apply Kd.R_drew)); exact HO_4.out))) (below_size (by repeat (first | (with_reducible first | exact HB.out | apply below_alloc | apply pw_below_drewN | apply below_drew1) | exact HB.out)))); have n3_ := Aside0.mk (below_step (by repeat (first | (with_reducible first | exact HB.out | apply below_alloc | apply pw_below_drewN | apply below_drew1) | exact HB.out)) hb); clear HO_3; clear HO_4; clear HB; have HO_3 := n0_; have HO_4 := n1_; have HO603 := n2_; have HB := n3_; clear n0_ n1_ n2_ n3_; (try clear hb); (try clear hb2); (try clear hk); (try clear hi); (try clear ho0)) | ((with_reducible refine gate_callee (f := 26) rfl ?_); refine goesL_ (some 42) rfl rfl Try.func26 (by kernel_rfl) rfl #[.slice Ao9 t593.length co9] rfl (by (try simp only [List.map_toArray, List.map_cons, List.map_nil]); first | done | rfl | (simp only [List.length_drop, List.length_take]; rfl)) ?_; (with_reducible refine (impl_MelodyBack.calls kj5 _ _ t593 t604 t605 _ ?side1 ?side2 A15.out).mono ?_); (case side1 => repeat (first | exact (Kd.R_reads' HO_4.out).2.2 | (with_reducible refine Kd.C_alloc ?_ _) | (with_reducible refine Kd.C_drewN ?_ _) | (with_reducible refine Kd.C_drew ?_))); (case side2 => exact (Kd.R_reads' HO_4.out).2.1); rintro e w60 ⟨v606, rfl, ho0, hb⟩; refine ⟨_, rfl, ?_⟩; have n0_ := Aside0.mk (Kd.R_elder' (by (with_reducible repeat (first | apply Kd.R_alloc | apply Kd.R_drewN | apply Kd.R_drew)); exact HO_3.out) (Kd.R_base ho0) hb); have n1_ := Aside0.mk (Kd.R_elder' (by (with_reducible repeat (first | apply Kd.R_alloc | apply Kd.R_drewN | apply Kd.R_drew)); exact HO_4.out) (Kd.R_base ho0) hb); have n2_ := Aside0.mk (Kd.R_elder' (by (with_reducible repeat (first | apply Kd.R_alloc | apply Kd.R_drewN | apply Kd.R_drew)); exact HO603.out) (Kd.R_base ho0) hb); have n3_ := Aside0.mk (Kd.R_lower (Kd.R_new' (Kd.R_new' (Kd.R_new' ho0 (Kd.R_lt (by (with_reducible repeat (first | apply Kd.R_alloc | apply Kd.R_drewN | apply Kd.R_drew)); exact HO_3.out))) (Kd.R_lt (by (with_reducible repeat (first | apply Kd.R_alloc | apply Kd.R_drewN | apply Kd.R_drew)); exact HO_4.out))) (Kd.R_lt (by (with_reducible repeat (first | apply Kd.R_alloc | apply Kd.R_drewN | apply Kd.R_drew)); exact HO603.out))) (below_size (by repeat (first | (with_reducible first | exact HB.out | apply below_alloc | apply pw_below_drewN | apply below_drew1) | exact HB.out)))); have n4_ := Aside0.mk (below_step (by repeat (first | (with_reducible first | exact HB.out | apply below_alloc | apply pw_below_drewN | apply below_drew1) | exact HB.out)) hb); clear HO_3; clear HO_4; clear HO603; clear HB; have HO_3 := n0_; have HO_4 := n1_; have HO603 := n2_; have HO607 := n3_; have HB := n4_; clear n0_ n1_ n2_ n3_ n4_; (try clear hb); (try clear hb2); (try clear hk); (try clear hi); (try clear ho0)))
    go_ret
    exact ⟨by first | rfl | (simp [errW_none, errW_some] <;> rfl) | (simp [*, errW_none, errW_some] <;> rfl), by repeat (first | (with_reducible first | exact HB.out | apply below_alloc | apply pw_below_drewN | apply below_drew1) | exact HB.out)⟩
   subst c16
   have H1 : (if t605 = true then ((impl_EditCommon.f kj5 t593 t592).bind fun t608 => (if t608 = t598 then ((impl_EditCommon.f kj5 t600 t604).bind fun t609 => (if t609 = t598 then (if t598 ≤ (mn (t592.length : Int) (t593.length : Int)) then ((impl_EditCost.f kj5 t592 t593).bind fun t610 => (if t610 ≤ (wrap64 ((wrap64 (2 * (wrap64 ((t592.length : Int) - t598)))) + (wrap64 (2 * (wrap64 ((t593.length : Int) - t598)))))) then ((impl_EditCommon.f kj5 t592 t592).bind fun t611 => (some (t611 == (t592.length : Int)))) else (some false))) else (some false)) else (some false))) else (some false))) else (some false)) = some r := by rw [if_pos rfl] at H; exact H
   clear H
   have H := H1
   clear H1
   by_cases c17 : t605 = true
   rotate_left
   ·replace c17 := Bool.eq_false_iff.mpr c17
    subst c17
    have H1 : (some false) = some r := by rw [if_neg (show ¬ (false = true) by decide)] at H; exact H
    clear H
    have H := H1
    clear H1
    obtain rfl := Option.some.inj H
    go_wp2_with (first | ((with_reducible refine gate_callee (f := 26) rfl ?_); refine goesL_ (some 37) rfl rfl Try.func26 (by kernel_rfl) rfl #[.slice Ao8 t592.length co8] rfl (by (try simp only [List.map_toArray, List.map_cons, List.map_nil]); first | done | rfl | (simp only [List.length_drop, List.length_take]; rfl)) ?_; (with_reducible refine (impl_MelodyBack.calls kj5 _ _ t592 t600 true _ ?side1 ?side2 A14.out).mono ?_); (case side1 => repeat (first | exact (Kd.R_reads' HO_3.out).2.2 | (with_reducible refine Kd.C_alloc ?_ _) | (with_reducible refine Kd.C_drewN ?_ _) | (with_reducible refine Kd.C_drew ?_))); (case side2 => exact (Kd.R_reads' HO_3.out).2.1); rintro e w57 ⟨v602, rfl, ho0, hb⟩; refine ⟨_, rfl, ?_⟩; have n0_ := Aside0.mk (Kd.R_elder' (by (with_reducible repeat (first | apply Kd.R_alloc | apply Kd.R_drewN | apply Kd.R_drew)); exact HO_3.out) (Kd.R_base ho0) hb); have n1_ := Aside0.mk (Kd.R_elder' (by (with_reducible repeat (first | apply Kd.R_alloc | apply Kd.R_drewN | apply Kd.R_drew)); exact HO_4.out) (Kd.R_base ho0) hb); have n2_ := Aside0.mk (Kd.R_lower (Kd.R_new' (Kd.R_new' ho0 (Kd.R_lt (by (with_reducible repeat (first | apply Kd.R_alloc | apply Kd.R_drewN | apply Kd.R_drew)); exact HO_3.out))) (Kd.R_lt (by (with_reducible repeat (first | apply Kd.R_alloc | apply Kd.R_drewN | apply Kd.R_drew)); exact HO_4.out))) (below_size (by repeat (first | (with_reducible first | exact HB.out | apply below_alloc | apply pw_below_drewN | apply below_drew1) | exact HB.out)))); have n3_ := Aside0.mk (below_step (by repeat (first | (with_reducible first | exact HB.out | apply below_alloc | apply pw_below_drewN | apply below_drew1) | exact HB.out)) hb); clear HO_3; clear HO_4; clear HB; have HO_3 := n0_; have HO_4 := n1_; have HO603 := n2_; have HB := n3_; clear n0_ n1_ n2_ n3_; (try clear hb); (try clear hb2); (try clear hk); (try clear hi); (try clear ho0)) | ((with_reducible refine gate_callee (f := 26) rfl ?_); refine goesL_ (some 42) rfl rfl Try.func26 (by kernel_rfl) rfl #[.slice Ao9 t593.length co9] rfl (by (try simp only [List.map_toArray, List.map_cons, List.map_nil]); first | done | rfl | (simp only [List.length_drop, List.length_take]; rfl)) ?_; (with_reducible refine (impl_MelodyBack.calls kj5 _ _ t593 t604 false _ ?side1 ?side2 A15.out).mono ?_); (case side1 => repeat (first | exact (Kd.R_reads' HO_4.out).2.2 | (with_reducible refine Kd.C_alloc ?_ _) | (with_reducible refine Kd.C_drewN ?_ _) | (with_reducible refine Kd.C_drew ?_))); (case side2 => exact (Kd.R_reads' HO_4.out).2.1); rintro e w58 ⟨v606, rfl, ho0, hb⟩; refine ⟨_, rfl, ?_⟩; have n0_ := Aside0.mk (Kd.R_elder' (by (with_reducible repeat (first | apply Kd.R_alloc | apply Kd.R_drewN | apply Kd.R_drew)); exact HO_3.out) (Kd.R_base ho0) hb); have n1_ := Aside0.mk (Kd.R_elder' (by (with_reducible repeat (first | apply Kd.R_alloc | apply Kd.R_drewN | apply Kd.R_drew)); exact HO_4.out) (Kd.R_base ho0) hb); have n2_ := Aside0.mk (Kd.R_elder' (by (with_reducible repeat (first | apply Kd.R_alloc | apply Kd.R_drewN | apply Kd.R_drew)); exact HO603.out) (Kd.R_base ho0) hb); have n3_ := Aside0.mk (Kd.R_lower (Kd.R_new' (Kd.R_new' (Kd.R_new' ho0 (Kd.R_lt (by (with_reducible repeat (first | apply Kd.R_alloc | apply Kd.R_drewN | apply Kd.R_drew)); exact HO_3.out))) (Kd.R_lt (by (with_reducible repeat (first | apply Kd.R_alloc | apply Kd.R_drewN | apply Kd.R_drew)); exact HO_4.out))) (Kd.R_lt (by (with_reducible repeat (first | apply Kd.R_alloc | apply Kd.R_drewN | apply Kd.R_drew)); exact HO603.out))) (below_size (by repeat (first | (with_reducible first | exact HB.out | apply below_alloc | apply pw_below_drewN | apply below_drew1) | exact HB.out)))); have n4_ := Aside0.mk (below_step (by repeat (first | (with_reducible first | exact HB.out | apply below_alloc | apply pw_below_drewN | apply below_drew1) | exact HB.out)) hb); clear HO_3; clear HO_4; clear HO603; clear HB; have HO_3 := n0_; have HO_4 := n1_; have HO603 := n2_; have HO607 := n3_; have HB := n4_; clear n0_ n1_ n2_ n3_ n4_; (try clear hb); (try clear hb2); (try clear hk); (try clear hi); (try clear ho0)))
    go_ret
    exact ⟨by first | rfl | (simp [errW_none, errW_some] <;> rfl) | (simp [*, errW_none, errW_some] <;> rfl), by repeat (first | (with_reducible first | exact HB.out | apply below_alloc | apply pw_below_drewN | apply below_drew1) | exact HB.out)⟩
   subst c17
   have H1 : ((impl_EditCommon.f kj5 t593 t592).bind fun t608 => (if t608 = t598 then ((impl_EditCommon.f kj5 t600 t604).bind fun t609 => (if t609 = t598 then (if t598 ≤ (mn (t592.length : Int) (t593.length : Int)) then ((impl_EditCost.f kj5 t592 t593).bind fun t610 => (if t610 ≤ (wrap64 ((wrap64 (2 * (wrap64 ((t592.length : Int) - t598)))) + (wrap64 (2 * (wrap64 ((t593.length : Int) - t598)))))) then ((impl_EditCommon.f kj5 t592 t592).bind fun t611 => (some (t611 == (t592.length : Int)))) else (some false))) else (some false)) else (some false))) else (some false))) = some r := by rw [if_pos rfl] at H; exact H
   clear H
   have H := H1
   clear H1
   replace H := Option.bind_eq_some_iff.mp H
   obtain ⟨t608, A180, H⟩ := H
   replace H : (if t608 = t598 then ((impl_EditCommon.f kj5 t600 t604).bind fun t609 => (if t609 = t598 then (if t598 ≤ (mn (t592.length : Int) (t593.length : Int)) then ((impl_EditCost.f kj5 t592 t593).bind fun t610 => (if t610 ≤ (wrap64 ((wrap64 (2 * (wrap64 ((t592.length : Int) - t598)))) + (wrap64 (2 * (wrap64 ((t593.length : Int) - t598)))))) then ((impl_EditCommon.f kj5 t592 t592).bind fun t611 => (some (t611 == (t592.length : Int)))) else (some false))) else (some false)) else (some false))) else (some false)) = some r := H
   have A18 := Aside0.mk A180
   clear A180
   by_cases c19 : t608 = t598
   rotate_left
   ·rw [if_neg c19] at H
    have c19b0 : (t608 == t598) = false := beq_eq_false_iff_ne.mpr c19
    have c19b1 : (t608 != t598) = true := bne_iff_ne.mpr c19
    obtain rfl := Option.some.inj H
    go_wp2_with (first | ((with_reducible refine gate_callee (f := 26) rfl ?_); refine goesL_ (some 37) rfl rfl Try.func26 (by kernel_rfl) rfl #[.slice Ao8 t592.length co8] rfl (by (try simp only [List.map_toArray, List.map_cons, List.map_nil]); first | done | rfl | (simp only [List.length_drop, List.length_take]; rfl)) ?_; (with_reducible refine (impl_MelodyBack.calls kj5 _ _ t592 t600 true _ ?side1 ?side2 A14.out).mono ?_); (case side1 => repeat (first | exact (Kd.R_reads' HO_3.out).2.2 | (with_reducible refine Kd.C_alloc ?_ _) | (with_reducible refine Kd.C_drewN ?_ _) | (with_reducible refine Kd.C_drew ?_))); (case side2 => exact (Kd.R_reads' HO_3.out).2.1); rintro e w54 ⟨v602, rfl, ho0, hb⟩; refine ⟨_, rfl, ?_⟩; have n0_ := Aside0.mk (Kd.R_elder' (by (with_reducible repeat (first | apply Kd.R_alloc | apply Kd.R_drewN | apply Kd.R_drew)); exact HO_3.out) (Kd.R_base ho0) hb); have n1_ := Aside0.mk (Kd.R_elder' (by (with_reducible repeat (first | apply Kd.R_alloc | apply Kd.R_drewN | apply Kd.R_drew)); exact HO_4.out) (Kd.R_base ho0) hb); have n2_ := Aside0.mk (Kd.R_lower (Kd.R_new' (Kd.R_new' ho0 (Kd.R_lt (by (with_reducible repeat (first | apply Kd.R_alloc | apply Kd.R_drewN | apply Kd.R_drew)); exact HO_3.out))) (Kd.R_lt (by (with_reducible repeat (first | apply Kd.R_alloc | apply Kd.R_drewN | apply Kd.R_drew)); exact HO_4.out))) (below_size (by repeat (first | (with_reducible first | exact HB.out | apply below_alloc | apply pw_below_drewN | apply below_drew1) | exact HB.out)))); have n3_ := Aside0.mk (below_step (by repeat (first | (with_reducible first | exact HB.out | apply below_alloc | apply pw_below_drewN | apply below_drew1) | exact HB.out)) hb); clear HO_3; clear HO_4; clear HB; have HO_3 := n0_; have HO_4 := n1_; have HO603 := n2_; have HB := n3_; clear n0_ n1_ n2_ n3_; (try clear hb); (try clear hb2); (try clear hk); (try clear hi); (try clear ho0)) | ((with_reducible refine gate_callee (f := 26) rfl ?_); refine goesL_ (some 42) rfl rfl Try.func26 (by kernel_rfl) rfl #[.slice Ao9 t593.length co9] rfl (by (try simp only [List.map_toArray, List.map_cons, List.map_nil]); first | done | rfl | (simp only [List.length_drop, List.length_take]; rfl)) ?_; (with_reducible refine (impl_MelodyBack.calls kj5 _ _ t593 t604 true _ ?side1 ?side2 A15.out).mono ?_); (case side1 => repeat (first | exact (Kd.R_reads' HO_4.out).2.2 | (with_reducible refine Kd.C_alloc ?_ _) | (with_reducible refine Kd.C_drewN ?_ _) | (with_reducible refine Kd.C_drew ?_))); (case side2 => exact (Kd.R_reads' HO_4.out).2.1); rintro e w55 ⟨v606, rfl, ho0, hb⟩; refine ⟨_, rfl, ?_⟩; have n0_ := Aside0.mk (Kd.R_elder' (by (with_reducible repeat (first | apply Kd.R_alloc | apply Kd.R_drewN | apply Kd.R_drew)); exact HO_3.out) (Kd.R_base ho0) hb); have n1_ := Aside0.mk (Kd.R_elder' (by (with_reducible repeat (first | apply Kd.R_alloc | apply Kd.R_drewN | apply Kd.R_drew)); exact HO_4.out) (Kd.R_base ho0) hb); have n2_ := Aside0.mk (Kd.R_elder' (by (with_reducible repeat (first | apply Kd.R_alloc | apply Kd.R_drewN | apply Kd.R_drew)); exact HO603.out) (Kd.R_base ho0) hb); have n3_ := Aside0.mk (Kd.R_lower (Kd.R_new' (Kd.R_new' (Kd.R_new' ho0 (Kd.R_lt (by (with_reducible repeat (first | apply Kd.R_alloc | apply Kd.R_drewN | apply Kd.R_drew)); exact HO_3.out))) (Kd.R_lt (by (with_reducible repeat (first | apply Kd.R_alloc | apply Kd.R_drewN | apply Kd.R_drew)); exact HO_4.out))) (Kd.R_lt (by (with_reducible repeat (first | apply Kd.R_alloc | apply Kd.R_drewN | apply Kd.R_drew)); exact HO603.out))) (below_size (by repeat (first | (with_reducible first | exact HB.out | apply below_alloc | apply pw_below_drewN | apply below_drew1) | exact HB.out)))); have n4_ := Aside0.mk (below_step (by repeat (first | (with_reducible first | exact HB.out | apply below_alloc | apply pw_below_drewN | apply below_drew1) | exact HB.out)) hb); clear HO_3; clear HO_4; clear HO603; clear HB; have HO_3 := n0_; have HO_4 := n1_; have HO603 := n2_; have HO607 := n3_; have HB := n4_; clear n0_ n1_ n2_ n3_ n4_; (try clear hb); (try clear hb2); (try clear hk); (try clear hi); (try clear ho0)) | (go_at_call 16; (with_reducible refine (impl_EditCommon.calls kj5 _ _ t593 _ _ t592 t608 _ ?side1 ?side2 ?side3 ?side4 A18.out).mono ?_); (case side1 => repeat (first | exact (Kd.R_reads' HO_4.out).2.2 | (with_reducible refine Kd.C_alloc ?_ _) | (with_reducible refine Kd.C_drewN ?_ _) | (with_reducible refine Kd.C_drew ?_))); (case side2 => exact (Kd.R_reads' HO_4.out).2.1); (case side3 => repeat (first | exact (Kd.R_reads' HO_3.out).2.2 | (with_reducible refine Kd.C_alloc ?_ _) | (with_reducible refine Kd.C_drewN ?_ _) | (with_reducible refine Kd.C_drew ?_))); (case side4 => exact (Kd.R_reads' HO_3.out).2.1); rintro e w56 ⟨rfl, hb⟩; have n0_ := Aside0.mk (Kd.R_below (by (with_reducible repeat (first | apply Kd.R_alloc | apply Kd.R_drewN | apply Kd.R_drew)); exact HO_3.out) hb); have n1_ := Aside0.mk (Kd.R_below (by (with_reducible repeat (first | apply Kd.R_alloc | apply Kd.R_drewN | apply Kd.R_drew)); exact HO_4.out) hb); have n2_ := Aside0.mk (Kd.R_below (by (with_reducible repeat (first | apply Kd.R_alloc | apply Kd.R_drewN | apply Kd.R_drew)); exact HO603.out) hb); have n3_ := Aside0.mk (Kd.R_below (by (with_reducible repeat (first | apply Kd.R_alloc | apply Kd.R_drewN | apply Kd.R_drew)); exact HO607.out) hb); have n4_ := Aside0.mk (below_step (by repeat (first | (with_reducible first | exact HB.out | apply below_alloc | apply pw_below_drewN | apply below_drew1) | exact HB.out)) hb); clear HO_3; clear HO_4; clear HO603; clear HO607; clear HB; have HO_3 := n0_; have HO_4 := n1_; have HO603 := n2_; have HO607 := n3_; have HB := n4_; clear n0_ n1_ n2_ n3_ n4_; (try clear hb); (try clear hb2); (try clear hk); (try clear hi)))
    go_ret
    exact ⟨by first | rfl | (simp [errW_none, errW_some] <;> rfl) | (simp [*, errW_none, errW_some] <;> rfl), by repeat (first | (with_reducible first | exact HB.out | apply below_alloc | apply pw_below_drewN | apply below_drew1) | exact HB.out)⟩
   rw [if_pos c19] at H
   have c19b0 : (t608 == t598) = true := beq_iff_eq.mpr c19
   have c19b1 : (t608 != t598) = false := bne_eq_false_iff_eq.mpr c19
   clear c19
   replace H := Option.bind_eq_some_iff.mp H
   obtain ⟨t609, A200, H⟩ := H
   replace H : (if t609 = t598 then (if t598 ≤ (mn (t592.length : Int) (t593.length : Int)) then ((impl_EditCost.f kj5 t592 t593).bind fun t610 => (if t610 ≤ (wrap64 ((wrap64 (2 * (wrap64 ((t592.length : Int) - t598)))) + (wrap64 (2 * (wrap64 ((t593.length : Int) - t598)))))) then ((impl_EditCommon.f kj5 t592 t592).bind fun t611 => (some (t611 == (t592.length : Int)))) else (some false))) else (some false)) else (some false)) = some r := H
   have A20 := Aside0.mk A200
   clear A200
   by_cases c21 : t609 = t598
   rotate_left
   ·rw [if_neg c21] at H
    have c21b0 : (t609 == t598) = false := beq_eq_false_iff_ne.mpr c21
    have c21b1 : (t609 != t598) = true := bne_iff_ne.mpr c21
    obtain rfl := Option.some.inj H
    go_wp2_with (first | ((with_reducible refine gate_callee (f := 26) rfl ?_); refine goesL_ (some 37) rfl rfl Try.func26 (by kernel_rfl) rfl #[.slice Ao8 t592.length co8] rfl (by (try simp only [List.map_toArray, List.map_cons, List.map_nil]); first | done | rfl | (simp only [List.length_drop, List.length_take]; rfl)) ?_; (with_reducible refine (impl_MelodyBack.calls kj5 _ _ t592 t600 true _ ?side1 ?side2 A14.out).mono ?_); (case side1 => repeat (first | exact (Kd.R_reads' HO_3.out).2.2 | (with_reducible refine Kd.C_alloc ?_ _) | (with_reducible refine Kd.C_drewN ?_ _) | (with_reducible refine Kd.C_drew ?_))); (case side2 => exact (Kd.R_reads' HO_3.out).2.1); rintro e w48 ⟨v602, rfl, ho0, hb⟩; refine ⟨_, rfl, ?_⟩; have n0_ := Aside0.mk (Kd.R_elder' (by (with_reducible repeat (first | apply Kd.R_alloc | apply Kd.R_drewN | apply Kd.R_drew)); exact HO_3.out) (Kd.R_base ho0) hb); have n1_ := Aside0.mk (Kd.R_elder' (by (with_reducible repeat (first | apply Kd.R_alloc | apply Kd.R_drewN | apply Kd.R_drew)); exact HO_4.out) (Kd.R_base ho0) hb); have n2_ := Aside0.mk (Kd.R_lower (Kd.R_new' (Kd.R_new' ho0 (Kd.R_lt (by (with_reducible repeat (first | apply Kd.R_alloc | apply Kd.R_drewN | apply Kd.R_drew)); exact HO_3.out))) (Kd.R_lt (by (with_reducible repeat (first | apply Kd.R_alloc | apply Kd.R_drewN | apply Kd.R_drew)); exact HO_4.out))) (below_size (by repeat (first | (with_reducible first | exact HB.out | apply below_alloc | apply pw_below_drewN | apply below_drew1) | exact HB.out)))); have n3_ := Aside0.mk (below_step (by repeat (first | (with_reducible first | exact HB.out | apply below_alloc | apply pw_below_drewN | apply below_drew1) | exact HB.out)) hb); clear HO_3; clear HO_4; clear HB; have HO_3 := n0_; have HO_4 := n1_; have HO603 := n2_; have HB := n3_; clear n0_ n1_ n2_ n3_; (try clear hb); (try clear hb2); (try clear hk); (try clear hi); (try clear ho0)) | ((with_reducible refine gate_callee (f := 26) rfl ?_); refine goesL_ (some 42) rfl rfl Try.func26 (by kernel_rfl) rfl #[.slice Ao9 t593.length co9] rfl (by (try simp only [List.map_toArray, List.map_cons, List.map_nil]); first | done | rfl | (simp only [List.length_drop, List.length_take]; rfl)) ?_; (with_reducible refine (impl_MelodyBack.calls kj5 _ _ t593 t604 true _ ?side1 ?side2 A15.out).mono ?_); (case side1 => repeat (first | exact (Kd.R_reads' HO_4.out).2.2 | (with_reducible refine Kd.C_alloc ?_ _) | (with_reducible refine Kd.C_drewN ?_ _) | (with_reducible refine Kd.C_drew ?_))); (case side2 => exact (Kd.R_reads' HO_4.out).2.1); rintro e w49 ⟨v606, rfl, ho0, hb⟩; refine ⟨_, rfl, ?_⟩; have n0_ := Aside0.mk (Kd.R_elder' (by (with_reducible repeat (first | apply Kd.R_alloc | apply Kd.R_drewN | apply Kd.R_drew)); exact HO_3.out) (Kd.R_base ho0) hb); have n1_ := Aside0.mk (Kd.R_elder' (by (with_reducible repeat (first | apply Kd.R_alloc | apply Kd.R_drewN | apply Kd.R_drew)); exact HO_4.out) (Kd.R_base ho0) hb); have n2_ := Aside0.mk (Kd.R_elder' (by (with_reducible repeat (first | apply Kd.R_alloc | apply Kd.R_drewN | apply Kd.R_drew)); exact HO603.out) (Kd.R_base ho0) hb); have n3_ := Aside0.mk (Kd.R_lower (Kd.R_new' (Kd.R_new' (Kd.R_new' ho0 (Kd.R_lt (by (with_reducible repeat (first | apply Kd.R_alloc | apply Kd.R_drewN | apply Kd.R_drew)); exact HO_3.out))) (Kd.R_lt (by (with_reducible repeat (first | apply Kd.R_alloc | apply Kd.R_drewN | apply Kd.R_drew)); exact HO_4.out))) (Kd.R_lt (by (with_reducible repeat (first | apply Kd.R_alloc | apply Kd.R_drewN | apply Kd.R_drew)); exact HO603.out))) (below_size (by repeat (first | (with_reducible first | exact HB.out | apply below_alloc | apply pw_below_drewN | apply below_drew1) | exact HB.out)))); have n4_ := Aside0.mk (below_step (by repeat (first | (with_reducible first | exact HB.out | apply below_alloc | apply pw_below_drewN | apply below_drew1) | exact HB.out)) hb); clear HO_3; clear HO_4; clear HO603; clear HB; have HO_3 := n0_; have HO_4 := n1_; have HO603 := n2_; have HO607 := n3_; have HB := n4_; clear n0_ n1_ n2_ n3_ n4_; (try clear hb); (try clear hb2); (try clear hk); (try clear hi); (try clear ho0)) | (go_at_call 16; (with_reducible refine (impl_EditCommon.calls kj5 _ _ t593 _ _ t592 t608 _ ?side1 ?side2 ?side3 ?side4 A18.out).mono ?_); (case side1 => repeat (first | exact (Kd.R_reads' HO_4.out).2.2 | (with_reducible refine Kd.C_alloc ?_ _) | (with_reducible refine Kd.C_drewN ?_ _) | (with_reducible refine Kd.C_drew ?_))); (case side2 => exact (Kd.R_reads' HO_4.out).2.1); (case side3 => repeat (first | exact (Kd.R_reads' HO_3.out).2.2 | (with_reducible refine Kd.C_alloc ?_ _) | (with_reducible refine Kd.C_drewN ?_ _) | (with_reducible refine Kd.C_drew ?_))); (case side4 => exact (Kd.R_reads' HO_3.out).2.1); rintro e w50 ⟨rfl, hb⟩; have n0_ := Aside0.mk (Kd.R_below (by (with_reducible repeat (first | apply Kd.R_alloc | apply Kd.R_drewN | apply Kd.R_drew)); exact HO_3.out) hb); have n1_ := Aside0.mk (Kd.R_below (by (with_reducible repeat (first | apply Kd.R_alloc | apply Kd.R_drewN | apply Kd.R_drew)); exact HO_4.out) hb); have n2_ := Aside0.mk (Kd.R_below (by (with_reducible repeat (first | apply Kd.R_alloc | apply Kd.R_drewN | apply Kd.R_drew)); exact HO603.out) hb); have n3_ := Aside0.mk (Kd.R_below (by (with_reducible repeat (first | apply Kd.R_alloc | apply Kd.R_drewN | apply Kd.R_drew)); exact HO607.out) hb); have n4_ := Aside0.mk (below_step (by repeat (first | (with_reducible first | exact HB.out | apply below_alloc | apply pw_below_drewN | apply below_drew1) | exact HB.out)) hb); clear HO_3; clear HO_4; clear HO603; clear HO607; clear HB; have HO_3 := n0_; have HO_4 := n1_; have HO603 := n2_; have HO607 := n3_; have HB := n4_; clear n0_ n1_ n2_ n3_ n4_; (try clear hb); (try clear hb2); (try clear hk); (try clear hi); obtain ⟨Ao51, co51, eo51⟩ := Kd.R_slice HO603.out; subst eo51; obtain ⟨Ao52, co52, eo52⟩ := Kd.R_slice HO607.out; subst eo52) | (go_at_call 16; (with_reducible refine (impl_EditCommon.calls kj5 _ _ t600 _ _ t604 t609 _ ?side1 ?side2 ?side3 ?side4 A20.out).mono ?_); (case side1 => repeat (first | exact (Kd.R_reads' HO603.out).2.2 | (with_reducible refine Kd.C_alloc ?_ _) | (with_reducible refine Kd.C_drewN ?_ _) | (with_reducible refine Kd.C_drew ?_))); (case side2 => exact (Kd.R_reads' HO603.out).2.1); (case side3 => repeat (first | exact (Kd.R_reads' HO607.out).2.2 | (with_reducible refine Kd.C_alloc ?_ _) | (with_reducible refine Kd.C_drewN ?_ _) | (with_reducible refine Kd.C_drew ?_))); (case side4 => exact (Kd.R_reads' HO607.out).2.1); rintro e w53 ⟨rfl, hb⟩; have n0_ := Aside0.mk (Kd.R_below (by (with_reducible repeat (first | apply Kd.R_alloc | apply Kd.R_drewN | apply Kd.R_drew)); exact HO_3.out) hb); have n1_ := Aside0.mk (Kd.R_below (by (with_reducible repeat (first | apply Kd.R_alloc | apply Kd.R_drewN | apply Kd.R_drew)); exact HO_4.out) hb); have n2_ := Aside0.mk (Kd.R_below (by (with_reducible repeat (first | apply Kd.R_alloc | apply Kd.R_drewN | apply Kd.R_drew)); exact HO603.out) hb); have n3_ := Aside0.mk (Kd.R_below (by (with_reducible repeat (first | apply Kd.R_alloc | apply Kd.R_drewN | apply Kd.R_drew)); exact HO607.out) hb); have n4_ := Aside0.mk (below_step (by repeat (first | (with_reducible first | exact HB.out | apply below_alloc | apply pw_below_drewN | apply below_drew1) | exact HB.out)) hb); clear HO_3; clear HO_4; clear HO603; clear HO607; clear HB; have HO_3 := n0_; have HO_4 := n1_; have HO603 := n2_; have HO607 := n3_; have HB := n4_; clear n0_ n1_ n2_ n3_ n4_; (try clear hb); (try clear hb2); (try clear hk); (try clear hi)))
    go_ret
    exact ⟨by first | rfl | (simp [errW_none, errW_some] <;> rfl) | (simp [*, errW_none, errW_some] <;> rfl), by repeat (first | (with_reducible first | exact HB.out | apply below_alloc | apply pw_below_drewN | apply below_drew1) | exact HB.out)⟩
   rw [if_pos c21] at H
   have c21b0 : (t609 == t598) = true := beq_iff_eq.mpr c21
   have c21b1 : (t609 != t598) = false := bne_eq_false_iff_eq.mpr c21
   clear c21
   obtain ⟨ji22, hji22⟩ : ∃ j_ : Int, (mn (t592.length : Int) (t593.length : Int)) = j_ := ⟨_, rfl⟩
   replace H : (if t598 ≤ (ji22) then ((impl_EditCost.f kj5 t592 t593).bind fun t610 => (if t610 ≤ (wrap64 ((wrap64 (2 * (wrap64 ((t592.length : Int) - t598)))) + (wrap64 (2 * (wrap64 ((t593.length : Int) - t598)))))) then ((impl_EditCommon.f kj5 t592 t592).bind fun t611 => (some (t611 == (t592.length : Int)))) else (some false))) else (some false)) = some r := by first | (rw [hji22] at H; exact H) | (simp only [hji22] at H ⊢; exact H)
   (try rw [hji22] at A14)
   (try rw [hji22] at A15)
   (try rw [hji22] at A18)
   (try rw [hji22] at A20)
   have hji22_ : (if (t593.length : Int) < (t592.length : Int) then (t593.length : Int) else (t592.length : Int)) = ji22 := hji22
   have hji22n : (if t593.length < t592.length then (t593.length : Int) else (t592.length : Int)) = ji22 := by have h_ := hji22_; simp only [Int.ofNat_lt] at h_; exact h_
   by_cases c23 : t598 ≤ (ji22)
   rotate_left
   ·rw [if_neg c23] at H
    have c23b0 : decide (t598 ≤ (ji22)) = false := decide_eq_false c23
    clear c23
    obtain rfl := Option.some.inj H
    go_wp2_with (first | ((with_reducible refine gate_callee (f := 26) rfl ?_); refine goesL_ (some 37) rfl rfl Try.func26 (by kernel_rfl) rfl #[.slice Ao8 t592.length co8] rfl (by (try simp only [List.map_toArray, List.map_cons, List.map_nil]); first | done | rfl | (simp only [List.length_drop, List.length_take]; rfl)) ?_; (with_reducible refine (impl_MelodyBack.calls kj5 _ _ t592 t600 true _ ?side1 ?side2 A14.out).mono ?_); (case side1 => repeat (first | exact (Kd.R_reads' HO_3.out).2.2 | (with_reducible refine Kd.C_alloc ?_ _) | (with_reducible refine Kd.C_drewN ?_ _) | (with_reducible refine Kd.C_drew ?_))); (case side2 => exact (Kd.R_reads' HO_3.out).2.1); rintro e w42 ⟨v602, rfl, ho0, hb⟩; refine ⟨_, rfl, ?_⟩; have n0_ := Aside0.mk (Kd.R_elder' (by (with_reducible repeat (first | apply Kd.R_alloc | apply Kd.R_drewN | apply Kd.R_drew)); exact HO_3.out) (Kd.R_base ho0) hb); have n1_ := Aside0.mk (Kd.R_elder' (by (with_reducible repeat (first | apply Kd.R_alloc | apply Kd.R_drewN | apply Kd.R_drew)); exact HO_4.out) (Kd.R_base ho0) hb); have n2_ := Aside0.mk (Kd.R_lower (Kd.R_new' (Kd.R_new' ho0 (Kd.R_lt (by (with_reducible repeat (first | apply Kd.R_alloc | apply Kd.R_drewN | apply Kd.R_drew)); exact HO_3.out))) (Kd.R_lt (by (with_reducible repeat (first | apply Kd.R_alloc | apply Kd.R_drewN | apply Kd.R_drew)); exact HO_4.out))) (below_size (by repeat (first | (with_reducible first | exact HB.out | apply below_alloc | apply pw_below_drewN | apply below_drew1) | exact HB.out)))); have n3_ := Aside0.mk (below_step (by repeat (first | (with_reducible first | exact HB.out | apply below_alloc | apply pw_below_drewN | apply below_drew1) | exact HB.out)) hb); clear HO_3; clear HO_4; clear HB; have HO_3 := n0_; have HO_4 := n1_; have HO603 := n2_; have HB := n3_; clear n0_ n1_ n2_ n3_; (try clear hb); (try clear hb2); (try clear hk); (try clear hi); (try clear ho0)) | ((with_reducible refine gate_callee (f := 26) rfl ?_); refine goesL_ (some 42) rfl rfl Try.func26 (by kernel_rfl) rfl #[.slice Ao9 t593.length co9] rfl (by (try simp only [List.map_toArray, List.map_cons, List.map_nil]); first | done | rfl | (simp only [List.length_drop, List.length_take]; rfl)) ?_; (with_reducible refine (impl_MelodyBack.calls kj5 _ _ t593 t604 true _ ?side1 ?side2 A15.out).mono ?_); (case side1 => repeat (first | exact (Kd.R_reads' HO_4.out).2.2 | (with_reducible refine Kd.C_alloc ?_ _) | (with_reducible refine Kd.C_drewN ?_ _) | (with_reducible refine Kd.C_drew ?_))); (case side2 => exact (Kd.R_reads' HO_4.out).2.1); rintro e w43 ⟨v606, rfl, ho0, hb⟩; refine ⟨_, rfl, ?_⟩; have n0_ := Aside0.mk (Kd.R_elder' (by (with_reducible repeat (first | apply Kd.R_alloc | apply Kd.R_drewN | apply Kd.R_drew)); exact HO_3.out) (Kd.R_base ho0) hb); have n1_ := Aside0.mk (Kd.R_elder' (by (with_reducible repeat (first | apply Kd.R_alloc | apply Kd.R_drewN | apply Kd.R_drew)); exact HO_4.out) (Kd.R_base ho0) hb); have n2_ := Aside0.mk (Kd.R_elder' (by (with_reducible repeat (first | apply Kd.R_alloc | apply Kd.R_drewN | apply Kd.R_drew)); exact HO603.out) (Kd.R_base ho0) hb); have n3_ := Aside0.mk (Kd.R_lower (Kd.R_new' (Kd.R_new' (Kd.R_new' ho0 (Kd.R_lt (by (with_reducible repeat (first | apply Kd.R_alloc | apply Kd.R_drewN | apply Kd.R_drew)); exact HO_3.out))) (Kd.R_lt (by (with_reducible repeat (first | apply Kd.R_alloc | apply Kd.R_drewN | apply Kd.R_drew)); exact HO_4.out))) (Kd.R_lt (by (with_reducible repeat (first | apply Kd.R_alloc | apply Kd.R_drewN | apply Kd.R_drew)); exact HO603.out))) (below_size (by repeat (first | (with_reducible first | exact HB.out | apply below_alloc | apply pw_below_drewN | apply below_drew1) | exact HB.out)))); have n4_ := Aside0.mk (below_step (by repeat (first | (with_reducible first | exact HB.out | apply below_alloc | apply pw_below_drewN | apply below_drew1) | exact HB.out)) hb); clear HO_3; clear HO_4; clear HO603; clear HB; have HO_3 := n0_; have HO_4 := n1_; have HO603 := n2_; have HO607 := n3_; have HB := n4_; clear n0_ n1_ n2_ n3_ n4_; (try clear hb); (try clear hb2); (try clear hk); (try clear hi); (try clear ho0)) | (go_at_call 16; (with_reducible refine (impl_EditCommon.calls kj5 _ _ t593 _ _ t592 t608 _ ?side1 ?side2 ?side3 ?side4 A18.out).mono ?_); (case side1 => repeat (first | exact (Kd.R_reads' HO_4.out).2.2 | (with_reducible refine Kd.C_alloc ?_ _) | (with_reducible refine Kd.C_drewN ?_ _) | (with_reducible refine Kd.C_drew ?_))); (case side2 => exact (Kd.R_reads' HO_4.out).2.1); (case side3 => repeat (first | exact (Kd.R_reads' HO_3.out).2.2 | (with_reducible refine Kd.C_alloc ?_ _) | (with_reducible refine Kd.C_drewN ?_ _) | (with_reducible refine Kd.C_drew ?_))); (case side4 => exact (Kd.R_reads' HO_3.out).2.1); rintro e w44 ⟨rfl, hb⟩; have n0_ := Aside0.mk (Kd.R_below (by (with_reducible repeat (first | apply Kd.R_alloc | apply Kd.R_drewN | apply Kd.R_drew)); exact HO_3.out) hb); have n1_ := Aside0.mk (Kd.R_below (by (with_reducible repeat (first | apply Kd.R_alloc | apply Kd.R_drewN | apply Kd.R_drew)); exact HO_4.out) hb); have n2_ := Aside0.mk (Kd.R_below (by (with_reducible repeat (first | apply Kd.R_alloc | apply Kd.R_drewN | apply Kd.R_drew)); exact HO603.out) hb); have n3_ := Aside0.mk (Kd.R_below (by (with_reducible repeat (first | apply Kd.R_alloc | apply Kd.R_drewN | apply Kd.R_drew)); exact HO607.out) hb); have n4_ := Aside0.mk (below_step (by repeat (first | (with_reducible first | exact HB.out | apply below_alloc | apply pw_below_drewN | apply below_drew1) | exact HB.out)) hb); clear HO_3; clear HO_4; clear HO603; clear HO607; clear HB; have HO_3 := n0_; have HO_4 := n1_; have HO603 := n2_; have HO607 := n3_; have HB := n4_; clear n0_ n1_ n2_ n3_ n4_; (try clear hb); (try clear hb2); (try clear hk); (try clear hi); obtain ⟨Ao45, co45, eo45⟩ := Kd.R_slice HO603.out; subst eo45; obtain ⟨Ao46, co46, eo46⟩ := Kd.R_slice HO607.out; subst eo46) | (go_at_call 16; (with_reducible refine (impl_EditCommon.calls kj5 _ _ t600 _ _ t604 t609 _ ?side1 ?side2 ?side3 ?side4 A20.out).mono ?_); (case side1 => repeat (first | exact (Kd.R_reads' HO603.out).2.2 | (with_reducible refine Kd.C_alloc ?_ _) | (with_reducible refine Kd.C_drewN ?_ _) | (with_reducible refine Kd.C_drew ?_))); (case side2 => exact (Kd.R_reads' HO603.out).2.1); (case side3 => repeat (first | exact (Kd.R_reads' HO607.out).2.2 | (with_reducible refine Kd.C_alloc ?_ _) | (with_reducible refine Kd.C_drewN ?_ _) | (with_reducible refine Kd.C_drew ?_))); (case side4 => exact (Kd.R_reads' HO607.out).2.1); rintro e w47 ⟨rfl, hb⟩; have n0_ := Aside0.mk (Kd.R_below (by (with_reducible repeat (first | apply Kd.R_alloc | apply Kd.R_drewN | apply Kd.R_drew)); exact HO_3.out) hb); have n1_ := Aside0.mk (Kd.R_below (by (with_reducible repeat (first | apply Kd.R_alloc | apply Kd.R_drewN | apply Kd.R_drew)); exact HO_4.out) hb); have n2_ := Aside0.mk (Kd.R_below (by (with_reducible repeat (first | apply Kd.R_alloc | apply Kd.R_drewN | apply Kd.R_drew)); exact HO603.out) hb); have n3_ := Aside0.mk (Kd.R_below (by (with_reducible repeat (first | apply Kd.R_alloc | apply Kd.R_drewN | apply Kd.R_drew)); exact HO607.out) hb); have n4_ := Aside0.mk (below_step (by repeat (first | (with_reducible first | exact HB.out | apply below_alloc | apply pw_below_drewN | apply below_drew1) | exact HB.out)) hb); clear HO_3; clear HO_4; clear HO603; clear HO607; clear HB; have HO_3 := n0_; have HO_4 := n1_; have HO603 := n2_; have HO607 := n3_; have HB := n4_; clear n0_ n1_ n2_ n3_ n4_; (try clear hb); (try clear hb2); (try clear hk); (try clear hi)))
    go_ret
    exact ⟨by first | rfl | (simp [errW_none, errW_some] <;> rfl) | (simp only [← hji22]; first | rfl | (simp [errW_none, errW_some] <;> rfl)) | (simp [*, errW_none, errW_some] <;> rfl), by repeat (first | (with_reducible first | exact HB.out | apply below_alloc | apply pw_below_drewN | apply below_drew1) | exact HB.out)⟩
   rw [if_pos c23] at H
   have c23b0 : decide (t598 ≤ (ji22)) = true := decide_eq_true c23
   clear c23
   replace H := Option.bind_eq_some_iff.mp H
   obtain ⟨t610, A240, H⟩ := H
   replace H : (if t610 ≤ (wrap64 ((wrap64 (2 * (wrap64 ((t592.length : Int) - t598)))) + (wrap64 (2 * (wrap64 ((t593.length : Int) - t598)))))) then ((impl_EditCommon.f kj5 t592 t592).bind fun t611 => (some (t611 == (t592.length : Int)))) else (some false)) = some r := H
   have A24 := Aside0.mk A240
   clear A240
   by_cases c25 : t610 ≤ (wrap64 ((wrap64 (2 * (wrap64 ((t592.length : Int) - t598)))) + (wrap64 (2 * (wrap64 ((t593.length : Int) - t598))))))
   rotate_left
   ·rw [if_neg c25] at H
    have c25b0 : decide (t610 ≤ (wrap64 ((wrap64 (2 * (wrap64 ((t592.length : Int) - t598)))) + (wrap64 (2 * (wrap64 ((t593.length : Int) - t598))))))) = false := decide_eq_false c25
    clear c25
    obtain rfl := Option.some.inj H
    go_wp2_with (first | ((with_reducible refine gate_callee (f := 26) rfl ?_); refine goesL_ (some 37) rfl rfl Try.func26 (by kernel_rfl) rfl #[.slice Ao8 t592.length co8] rfl (by (try simp only [List.map_toArray, List.map_cons, List.map_nil]); first | done | rfl | (simp only [List.length_drop, List.length_take]; rfl)) ?_; (with_reducible refine (impl_MelodyBack.calls kj5 _ _ t592 t600 true _ ?side1 ?side2 A14.out).mono ?_); (case side1 => repeat (first | exact (Kd.R_reads' HO_3.out).2.2 | (with_reducible refine Kd.C_alloc ?_ _) | (with_reducible refine Kd.C_drewN ?_ _) | (with_reducible refine Kd.C_drew ?_))); (case side2 => exact (Kd.R_reads' HO_3.out).2.1); rintro e w35 ⟨v602, rfl, ho0, hb⟩; refine ⟨_, rfl, ?_⟩; have n0_ := Aside0.mk (Kd.R_elder' (by (with_reducible repeat (first | apply Kd.R_alloc | apply Kd.R_drewN | apply Kd.R_drew)); exact HO_3.out) (Kd.R_base ho0) hb); have n1_ := Aside0.mk (Kd.R_elder' (by (with_reducible repeat (first | apply Kd.R_alloc | apply Kd.R_drewN | apply Kd.R_drew)); exact HO_4.out) (Kd.R_base ho0) hb); have n2_ := Aside0.mk (Kd.R_lower (Kd.R_new' (Kd.R_new' ho0 (Kd.R_lt (by (with_reducible repeat (first | apply Kd.R_alloc | apply Kd.R_drewN | apply Kd.R_drew)); exact HO_3.out))) (Kd.R_lt (by (with_reducible repeat (first | apply Kd.R_alloc | apply Kd.R_drewN | apply Kd.R_drew)); exact HO_4.out))) (below_size (by repeat (first | (with_reducible first | exact HB.out | apply below_alloc | apply pw_below_drewN | apply below_drew1) | exact HB.out)))); have n3_ := Aside0.mk (below_step (by repeat (first | (with_reducible first | exact HB.out | apply below_alloc | apply pw_below_drewN | apply below_drew1) | exact HB.out)) hb); clear HO_3; clear HO_4; clear HB; have HO_3 := n0_; have HO_4 := n1_; have HO603 := n2_; have HB := n3_; clear n0_ n1_ n2_ n3_; (try clear hb); (try clear hb2); (try clear hk); (try clear hi); (try clear ho0)) | ((with_reducible refine gate_callee (f := 26) rfl ?_); refine goesL_ (some 42) rfl rfl Try.func26 (by kernel_rfl) rfl #[.slice Ao9 t593.length co9] rfl (by (try simp only [List.map_toArray, List.map_cons, List.map_nil]); first | done | rfl | (simp only [List.length_drop, List.length_take]; rfl)) ?_; (with_reducible refine (impl_MelodyBack.calls kj5 _ _ t593 t604 true _ ?side1 ?side2 A15.out).mono ?_); (case side1 => repeat (first | exact (Kd.R_reads' HO_4.out).2.2 | (with_reducible refine Kd.C_alloc ?_ _) | (with_reducible refine Kd.C_drewN ?_ _) | (with_reducible refine Kd.C_drew ?_))); (case side2 => exact (Kd.R_reads' HO_4.out).2.1); rintro e w36 ⟨v606, rfl, ho0, hb⟩; refine ⟨_, rfl, ?_⟩; have n0_ := Aside0.mk (Kd.R_elder' (by (with_reducible repeat (first | apply Kd.R_alloc | apply Kd.R_drewN | apply Kd.R_drew)); exact HO_3.out) (Kd.R_base ho0) hb); have n1_ := Aside0.mk (Kd.R_elder' (by (with_reducible repeat (first | apply Kd.R_alloc | apply Kd.R_drewN | apply Kd.R_drew)); exact HO_4.out) (Kd.R_base ho0) hb); have n2_ := Aside0.mk (Kd.R_elder' (by (with_reducible repeat (first | apply Kd.R_alloc | apply Kd.R_drewN | apply Kd.R_drew)); exact HO603.out) (Kd.R_base ho0) hb); have n3_ := Aside0.mk (Kd.R_lower (Kd.R_new' (Kd.R_new' (Kd.R_new' ho0 (Kd.R_lt (by (with_reducible repeat (first | apply Kd.R_alloc | apply Kd.R_drewN | apply Kd.R_drew)); exact HO_3.out))) (Kd.R_lt (by (with_reducible repeat (first | apply Kd.R_alloc | apply Kd.R_drewN | apply Kd.R_drew)); exact HO_4.out))) (Kd.R_lt (by (with_reducible repeat (first | apply Kd.R_alloc | apply Kd.R_drewN | apply Kd.R_drew)); exact HO603.out))) (below_size (by repeat (first | (with_reducible first | exact HB.out | apply below_alloc | apply pw_below_drewN | apply below_drew1) | exact HB.out)))); have n4_ := Aside0.mk (below_step (by repeat (first | (with_reducible first | exact HB.out | apply below_alloc | apply pw_below_drewN | apply below_drew1) | exact HB.out)) hb); clear HO_3; clear HO_4; clear HO603; clear HB; have HO_3 := n0_; have HO_4 := n1_; have HO603 := n2_; have HO607 := n3_; have HB := n4_; clear n0_ n1_ n2_ n3_ n4_; (try clear hb); (try clear hb2); (try clear hk); (try clear hi); (try clear ho0)) | (go_at_call 16; (with_reducible refine (impl_EditCommon.calls kj5 _ _ t593 _ _ t592 t608 _ ?side1 ?side2 ?side3 ?side4 A18.out).mono ?_); (case side1 => repeat (first | exact (Kd.R_reads' HO_4.out).2.2 | (with_reducible refine Kd.C_alloc ?_ _) | (with_reducible refine Kd.C_drewN ?_ _) | (with_reducible refine Kd.C_drew ?_))); (case side2 => exact (Kd.R_reads' HO_4.out).2.1); (case side3 => repeat (first | exact (Kd.R_reads' HO_3.out).2.2 | (with_reducible refine Kd.C_alloc ?_ _) | (with_reducible refine Kd.C_drewN ?_ _) | (with_reducible refine Kd.C_drew ?_))); (case side4 => exact (Kd.R_reads' HO_3.out).2.1); rintro e w37 ⟨rfl, hb⟩; have n0_ := Aside0.mk (Kd.R_below (by (with_reducible repeat (first | apply Kd.R_alloc | apply Kd.R_drewN | apply Kd.R_drew)); exact HO_3.out) hb); have n1_ := Aside0.mk (Kd.R_below (by (with_reducible repeat (first | apply Kd.R_alloc | apply Kd.R_drewN | apply Kd.R_drew)); exact HO_4.out) hb); have n2_ := Aside0.mk (Kd.R_below (by (with_reducible repeat (first | apply Kd.R_alloc | apply Kd.R_drewN | apply Kd.R_drew)); exact HO603.out) hb); have n3_ := Aside0.mk (Kd.R_below (by (with_reducible repeat (first | apply Kd.R_alloc | apply Kd.R_drewN | apply Kd.R_drew)); exact HO607.out) hb); have n4_ := Aside0.mk (below_step (by repeat (first | (with_reducible first | exact HB.out | apply below_alloc | apply pw_below_drewN | apply below_drew1) | exact HB.out)) hb); clear HO_3; clear HO_4; clear HO603; clear HO607; clear HB; have HO_3 := n0_; have HO_4 := n1_; have HO603 := n2_; have HO607 := n3_; have HB := n4_; clear n0_ n1_ n2_ n3_ n4_; (try clear hb); (try clear hb2); (try clear hk); (try clear hi); obtain ⟨Ao38, co38, eo38⟩ := Kd.R_slice HO603.out; subst eo38; obtain ⟨Ao39, co39, eo39⟩ := Kd.R_slice HO607.out; subst eo39) | (go_at_call 16; (with_reducible refine (impl_EditCommon.calls kj5 _ _ t600 _ _ t604 t609 _ ?side1 ?side2 ?side3 ?side4 A20.out).mono ?_); (case side1 => repeat (first | exact (Kd.R_reads' HO603.out).2.2 | (with_reducible refine Kd.C_alloc ?_ _) | (with_reducible refine Kd.C_drewN ?_ _) | (with_reducible refine Kd.C_drew ?_))); (case side2 => exact (Kd.R_reads' HO603.out).2.1); (case side3 => repeat (first | exact (Kd.R_reads' HO607.out).2.2 | (with_reducible refine Kd.C_alloc ?_ _) | (with_reducible refine Kd.C_drewN ?_ _) | (with_reducible refine Kd.C_drew ?_))); (case side4 => exact (Kd.R_reads' HO607.out).2.1); rintro e w40 ⟨rfl, hb⟩; have n0_ := Aside0.mk (Kd.R_below (by (with_reducible repeat (first | apply Kd.R_alloc | apply Kd.R_drewN | apply Kd.R_drew)); exact HO_3.out) hb); have n1_ := Aside0.mk (Kd.R_below (by (with_reducible repeat (first | apply Kd.R_alloc | apply Kd.R_drewN | apply Kd.R_drew)); exact HO_4.out) hb); have n2_ := Aside0.mk (Kd.R_below (by (with_reducible repeat (first | apply Kd.R_alloc | apply Kd.R_drewN | apply Kd.R_drew)); exact HO603.out) hb); have n3_ := Aside0.mk (Kd.R_below (by (with_reducible repeat (first | apply Kd.R_alloc | apply Kd.R_drewN | apply Kd.R_drew)); exact HO607.out) hb); have n4_ := Aside0.mk (below_step (by repeat (first | (with_reducible first | exact HB.out | apply below_alloc | apply pw_below_drewN | apply below_drew1) | exact HB.out)) hb); clear HO_3; clear HO_4; clear HO603; clear HO607; clear HB; have HO_3 := n0_; have HO_4 := n1_; have HO603 := n2_; have HO607 := n3_; have HB := n4_; clear n0_ n1_ n2_ n3_ n4_; (try clear hb); (try clear hb2); (try clear hk); (try clear hi)) | (go_at_call 19; (with_reducible refine (impl_EditCost.calls kj5 _ _ t592 _ _ t593 t610 _ ?side1 ?side2 ?side3 ?side4 A24.out).mono ?_); (case side1 => repeat (first | exact (Kd.R_reads' HO_3.out).2.2 | (with_reducible refine Kd.C_alloc ?_ _) | (with_reducible refine Kd.C_drewN ?_ _) | (with_reducible refine Kd.C_drew ?_))); (case side2 => exact (Kd.R_reads' HO_3.out).2.1); (case side3 => repeat (first | exact (Kd.R_reads' HO_4.out).2.2 | (with_reducible refine Kd.C_alloc ?_ _) | (with_reducible refine Kd.C_drewN ?_ _) | (with_reducible refine Kd.C_drew ?_))); (case side4 => exact (Kd.R_reads' HO_4.out).2.1); rintro e w41 ⟨rfl, hb⟩; have n0_ := Aside0.mk (Kd.R_below (by (with_reducible repeat (first | apply Kd.R_alloc | apply Kd.R_drewN | apply Kd.R_drew)); exact HO_3.out) hb); have n1_ := Aside0.mk (Kd.R_below (by (with_reducible repeat (first | apply Kd.R_alloc | apply Kd.R_drewN | apply Kd.R_drew)); exact HO_4.out) hb); have n2_ := Aside0.mk (Kd.R_below (by (with_reducible repeat (first | apply Kd.R_alloc | apply Kd.R_drewN | apply Kd.R_drew)); exact HO603.out) hb); have n3_ := Aside0.mk (Kd.R_below (by (with_reducible repeat (first | apply Kd.R_alloc | apply Kd.R_drewN | apply Kd.R_drew)); exact HO607.out) hb); have n4_ := Aside0.mk (below_step (by repeat (first | (with_reducible first | exact HB.out | apply below_alloc | apply pw_below_drewN | apply below_drew1) | exact HB.out)) hb); clear HO_3; clear HO_4; clear HO603; clear HO607; clear HB; have HO_3 := n0_; have HO_4 := n1_; have HO603 := n2_; have HO607 := n3_; have HB := n4_; clear n0_ n1_ n2_ n3_ n4_; (try clear hb); (try clear hb2); (try clear hk); (try clear hi)))
    go_ret
    exact ⟨by first | rfl | (simp [errW_none, errW_some] <;> rfl) | (simp only [← hji22]; first | rfl | (simp [errW_none, errW_some] <;> rfl)) | (simp [*, errW_none, errW_some] <;> rfl), by repeat (first | (with_reducible first | exact HB.out | apply below_alloc | apply pw_below_drewN | apply below_drew1) | exact HB.out)⟩
   rw [if_pos c25] at H
   have c25b0 : decide (t610 ≤ (wrap64 ((wrap64 (2 * (wrap64 ((t592.length : Int) - t598)))) + (wrap64 (2 * (wrap64 ((t593.length : Int) - t598))))))) = true := decide_eq_true c25
   clear c25
   replace H := Option.bind_eq_some_iff.mp H
   obtain ⟨t611, A260, H⟩ := H
   replace H : (some (t611 == (t592.length : Int))) = some r := H
   have A26 := Aside0.mk A260
   clear A260
   obtain rfl := Option.some.inj H
   go_wp2_with (first | ((with_reducible refine gate_callee (f := 26) rfl ?_); refine goesL_ (some 37) rfl rfl Try.func26 (by kernel_rfl) rfl #[.slice Ao8 t592.length co8] rfl (by (try simp only [List.map_toArray, List.map_cons, List.map_nil]); first | done | rfl | (simp only [List.length_drop, List.length_take]; rfl)) ?_; (with_reducible refine (impl_MelodyBack.calls kj5 _ _ t592 t600 true _ ?side1 ?side2 A14.out).mono ?_); (case side1 => repeat (first | exact (Kd.R_reads' HO_3.out).2.2 | (with_reducible refine Kd.C_alloc ?_ _) | (with_reducible refine Kd.C_drewN ?_ _) | (with_reducible refine Kd.C_drew ?_))); (case side2 => exact (Kd.R_reads' HO_3.out).2.1); rintro e w27 ⟨v602, rfl, ho0, hb⟩; refine ⟨_, rfl, ?_⟩; have n0_ := Aside0.mk (Kd.R_elder' (by (with_reducible repeat (first | apply Kd.R_alloc | apply Kd.R_drewN | apply Kd.R_drew)); exact HO_3.out) (Kd.R_base ho0) hb); have n1_ := Aside0.mk (Kd.R_elder' (by (with_reducible repeat (first | apply Kd.R_alloc | apply Kd.R_drewN | apply Kd.R_drew)); exact HO_4.out) (Kd.R_base ho0) hb); have n2_ := Aside0.mk (Kd.R_lower (Kd.R_new' (Kd.R_new' ho0 (Kd.R_lt (by (with_reducible repeat (first | apply Kd.R_alloc | apply Kd.R_drewN | apply Kd.R_drew)); exact HO_3.out))) (Kd.R_lt (by (with_reducible repeat (first | apply Kd.R_alloc | apply Kd.R_drewN | apply Kd.R_drew)); exact HO_4.out))) (below_size (by repeat (first | (with_reducible first | exact HB.out | apply below_alloc | apply pw_below_drewN | apply below_drew1) | exact HB.out)))); have n3_ := Aside0.mk (below_step (by repeat (first | (with_reducible first | exact HB.out | apply below_alloc | apply pw_below_drewN | apply below_drew1) | exact HB.out)) hb); clear HO_3; clear HO_4; clear HB; have HO_3 := n0_; have HO_4 := n1_; have HO603 := n2_; have HB := n3_; clear n0_ n1_ n2_ n3_; (try clear hb); (try clear hb2); (try clear hk); (try clear hi); (try clear ho0)) | ((with_reducible refine gate_callee (f := 26) rfl ?_); refine goesL_ (some 42) rfl rfl Try.func26 (by kernel_rfl) rfl #[.slice Ao9 t593.length co9] rfl (by (try simp only [List.map_toArray, List.map_cons, List.map_nil]); first | done | rfl | (simp only [List.length_drop, List.length_take]; rfl)) ?_; (with_reducible refine (impl_MelodyBack.calls kj5 _ _ t593 t604 true _ ?side1 ?side2 A15.out).mono ?_); (case side1 => repeat (first | exact (Kd.R_reads' HO_4.out).2.2 | (with_reducible refine Kd.C_alloc ?_ _) | (with_reducible refine Kd.C_drewN ?_ _) | (with_reducible refine Kd.C_drew ?_))); (case side2 => exact (Kd.R_reads' HO_4.out).2.1); rintro e w28 ⟨v606, rfl, ho0, hb⟩; refine ⟨_, rfl, ?_⟩; have n0_ := Aside0.mk (Kd.R_elder' (by (with_reducible repeat (first | apply Kd.R_alloc | apply Kd.R_drewN | apply Kd.R_drew)); exact HO_3.out) (Kd.R_base ho0) hb); have n1_ := Aside0.mk (Kd.R_elder' (by (with_reducible repeat (first | apply Kd.R_alloc | apply Kd.R_drewN | apply Kd.R_drew)); exact HO_4.out) (Kd.R_base ho0) hb); have n2_ := Aside0.mk (Kd.R_elder' (by (with_reducible repeat (first | apply Kd.R_alloc | apply Kd.R_drewN | apply Kd.R_drew)); exact HO603.out) (Kd.R_base ho0) hb); have n3_ := Aside0.mk (Kd.R_lower (Kd.R_new' (Kd.R_new' (Kd.R_new' ho0 (Kd.R_lt (by (with_reducible repeat (first | apply Kd.R_alloc | apply Kd.R_drewN | apply Kd.R_drew)); exact HO_3.out))) (Kd.R_lt (by (with_reducible repeat (first | apply Kd.R_alloc | apply Kd.R_drewN | apply Kd.R_drew)); exact HO_4.out))) (Kd.R_lt (by (with_reducible repeat (first | apply Kd.R_alloc | apply Kd.R_drewN | apply Kd.R_drew)); exact HO603.out))) (below_size (by repeat (first | (with_reducible first | exact HB.out | apply below_alloc | apply pw_below_drewN | apply below_drew1) | exact HB.out)))); have n4_ := Aside0.mk (below_step (by repeat (first | (with_reducible first | exact HB.out | apply below_alloc | apply pw_below_drewN | apply below_drew1) | exact HB.out)) hb); clear HO_3; clear HO_4; clear HO603; clear HB; have HO_3 := n0_; have HO_4 := n1_; have HO603 := n2_; have HO607 := n3_; have HB := n4_; clear n0_ n1_ n2_ n3_ n4_; (try clear hb); (try clear hb2); (try clear hk); (try clear hi); (try clear ho0)) | (go_at_call 16; (with_reducible refine (impl_EditCommon.calls kj5 _ _ t593 _ _ t592 t608 _ ?side1 ?side2 ?side3 ?side4 A18.out).mono ?_); (case side1 => repeat (first | exact (Kd.R_reads' HO_4.out).2.2 | (with_reducible refine Kd.C_alloc ?_ _) | (with_reducible refine Kd.C_drewN ?_ _) | (with_reducible refine Kd.C_drew ?_))); (case side2 => exact (Kd.R_reads' HO_4.out).2.1); (case side3 => repeat (first | exact (Kd.R_reads' HO_3.out).2.2 | (with_reducible refine Kd.C_alloc ?_ _) | (with_reducible refine Kd.C_drewN ?_ _) | (with_reducible refine Kd.C_drew ?_))); (case side4 => exact (Kd.R_reads' HO_3.out).2.1); rintro e w29 ⟨rfl, hb⟩; have n0_ := Aside0.mk (Kd.R_below (by (with_reducible repeat (first | apply Kd.R_alloc | apply Kd.R_drewN | apply Kd.R_drew)); exact HO_3.out) hb); have n1_ := Aside0.mk (Kd.R_below (by (with_reducible repeat (first | apply Kd.R_alloc | apply Kd.R_drewN | apply Kd.R_drew)); exact HO_4.out) hb); have n2_ := Aside0.mk (Kd.R_below (by (with_reducible repeat (first | apply Kd.R_alloc | apply Kd.R_drewN | apply Kd.R_drew)); exact HO603.out) hb); have n3_ := Aside0.mk (Kd.R_below (by (with_reducible repeat (first | apply Kd.R_alloc | apply Kd.R_drewN | apply Kd.R_drew)); exact HO607.out) hb); have n4_ := Aside0.mk (below_step (by repeat (first | (with_reducible first | exact HB.out | apply below_alloc | apply pw_below_drewN | apply below_drew1) | exact HB.out)) hb); clear HO_3; clear HO_4; clear HO603; clear HO607; clear HB; have HO_3 := n0_; have HO_4 := n1_; have HO603 := n2_; have HO607 := n3_; have HB := n4_; clear n0_ n1_ n2_ n3_ n4_; (try clear hb); (try clear hb2); (try clear hk); (try clear hi); obtain ⟨Ao30, co30, eo30⟩ := Kd.R_slice HO603.out; subst eo30; obtain ⟨Ao31, co31, eo31⟩ := Kd.R_slice HO607.out; subst eo31) | (go_at_call 16; (with_reducible refine (impl_EditCommon.calls kj5 _ _ t600 _ _ t604 t609 _ ?side1 ?side2 ?side3 ?side4 A20.out).mono ?_); (case side1 => repeat (first | exact (Kd.R_reads' HO603.out).2.2 | (with_reducible refine Kd.C_alloc ?_ _) | (with_reducible refine Kd.C_drewN ?_ _) | (with_reducible refine Kd.C_drew ?_))); (case side2 => exact (Kd.R_reads' HO603.out).2.1); (case side3 => repeat (first | exact (Kd.R_reads' HO607.out).2.2 | (with_reducible refine Kd.C_alloc ?_ _) | (with_reducible refine Kd.C_drewN ?_ _) | (with_reducible refine Kd.C_drew ?_))); (case side4 => exact (Kd.R_reads' HO607.out).2.1); rintro e w32 ⟨rfl, hb⟩; have n0_ := Aside0.mk (Kd.R_below (by (with_reducible repeat (first | apply Kd.R_alloc | apply Kd.R_drewN | apply Kd.R_drew)); exact HO_3.out) hb); have n1_ := Aside0.mk (Kd.R_below (by (with_reducible repeat (first | apply Kd.R_alloc | apply Kd.R_drewN | apply Kd.R_drew)); exact HO_4.out) hb); have n2_ := Aside0.mk (Kd.R_below (by (with_reducible repeat (first | apply Kd.R_alloc | apply Kd.R_drewN | apply Kd.R_drew)); exact HO603.out) hb); have n3_ := Aside0.mk (Kd.R_below (by (with_reducible repeat (first | apply Kd.R_alloc | apply Kd.R_drewN | apply Kd.R_drew)); exact HO607.out) hb); have n4_ := Aside0.mk (below_step (by repeat (first | (with_reducible first | exact HB.out | apply below_alloc | apply pw_below_drewN | apply below_drew1) | exact HB.out)) hb); clear HO_3; clear HO_4; clear HO603; clear HO607; clear HB; have HO_3 := n0_; have HO_4 := n1_; have HO603 := n2_; have HO607 := n3_; have HB := n4_; clear n0_ n1_ n2_ n3_ n4_; (try clear hb); (try clear hb2); (try clear hk); (try clear hi)) | (go_at_call 19; (with_reducible refine (impl_EditCost.calls kj5 _ _ t592 _ _ t593 t610 _ ?side1 ?side2 ?side3 ?side4 A24.out).mono ?_); (case side1 => repeat (first | exact (Kd.R_reads' HO_3.out).2.2 | (with_reducible refine Kd.C_alloc ?_ _) | (with_reducible refine Kd.C_drewN ?_ _) | (with_reducible refine Kd.C_drew ?_))); (case side2 => exact (Kd.R_reads' HO_3.out).2.1); (case side3 => repeat (first | exact (Kd.R_reads' HO_4.out).2.2 | (with_reducible refine Kd.C_alloc ?_ _) | (with_reducible refine Kd.C_drewN ?_ _) | (with_reducible refine Kd.C_drew ?_))); (case side4 => exact (Kd.R_reads' HO_4.out).2.1); rintro e w33 ⟨rfl, hb⟩; have n0_ := Aside0.mk (Kd.R_below (by (with_reducible repeat (first | apply Kd.R_alloc | apply Kd.R_drewN | apply Kd.R_drew)); exact HO_3.out) hb); have n1_ := Aside0.mk (Kd.R_below (by (with_reducible repeat (first | apply Kd.R_alloc | apply Kd.R_drewN | apply Kd.R_drew)); exact HO_4.out) hb); have n2_ := Aside0.mk (Kd.R_below (by (with_reducible repeat (first | apply Kd.R_alloc | apply Kd.R_drewN | apply Kd.R_drew)); exact HO603.out) hb); have n3_ := Aside0.mk (Kd.R_below (by (with_reducible repeat (first | apply Kd.R_alloc | apply Kd.R_drewN | apply Kd.R_drew)); exact HO607.out) hb); have n4_ := Aside0.mk (below_step (by repeat (first | (with_reducible first | exact HB.out | apply below_alloc | apply pw_below_drewN | apply below_drew1) | exact HB.out)) hb); clear HO_3; clear HO_4; clear HO603; clear HO607; clear HB; have HO_3 := n0_; have HO_4 := n1_; have HO603 := n2_; have HO607 := n3_; have HB := n4_; clear n0_ n1_ n2_ n3_ n4_; (try clear hb); (try clear hb2); (try clear hk); (try clear hi)) | (go_at_call 16; (with_reducible refine (impl_EditCommon.calls kj5 _ _ t592 _ _ t592 t611 _ ?side1 ?side2 ?side3 ?side4 A26.out).mono ?_); (case side1 => repeat (first | exact (Kd.R_reads' HO_3.out).2.2 | (with_reducible refine Kd.C_alloc ?_ _) | (with_reducible refine Kd.C_drewN ?_ _) | (with_reducible refine Kd.C_drew ?_))); (case side2 => exact (Kd.R_reads' HO_3.out).2.1); (case side3 => repeat (first | exact (Kd.R_reads' HO_3.out).2.2 | (with_reducible refine Kd.C_alloc ?_ _) | (with_reducible refine Kd.C_drewN ?_ _) | (with_reducible refine Kd.C_drew ?_))); (case side4 => exact (Kd.R_reads' HO_3.out).2.1); rintro e w34 ⟨rfl, hb⟩; have n0_ := Aside0.mk (Kd.R_below (by (with_reducible repeat (first | apply Kd.R_alloc | apply Kd.R_drewN | apply Kd.R_drew)); exact HO_3.out) hb); have n1_ := Aside0.mk (Kd.R_below (by (with_reducible repeat (first | apply Kd.R_alloc | apply Kd.R_drewN | apply Kd.R_drew)); exact HO_4.out) hb); have n2_ := Aside0.mk (Kd.R_below (by (with_reducible repeat (first | apply Kd.R_alloc | apply Kd.R_drewN | apply Kd.R_drew)); exact HO603.out) hb); have n3_ := Aside0.mk (Kd.R_below (by (with_reducible repeat (first | apply Kd.R_alloc | apply Kd.R_drewN | apply Kd.R_drew)); exact HO607.out) hb); have n4_ := Aside0.mk (below_step (by repeat (first | (with_reducible first | exact HB.out | apply below_alloc | apply pw_below_drewN | apply below_drew1) | exact HB.out)) hb); clear HO_3; clear HO_4; clear HO603; clear HO607; clear HB; have HO_3 := n0_; have HO_4 := n1_; have HO603 := n2_; have HO607 := n3_; have HB := n4_; clear n0_ n1_ n2_ n3_ n4_; (try clear hb); (try clear hb2); (try clear hk); (try clear hi)))
   go_ret
   exact ⟨by first | rfl | (simp [errW_none, errW_some] <;> rfl) | (simp only [← hji22]; first | rfl | (simp [errW_none, errW_some] <;> rfl)) | (simp [*, errW_none, errW_some] <;> rfl), by repeat (first | (with_reducible first | exact HB.out | apply below_alloc | apply pw_below_drewN | apply below_drew1) | exact HB.out)⟩
def laws_FnEditCommon.Pure : Prop := ∀ (l0 : List Int), l0.length ≤ maxLen → l0.length * 1 ≤ 140737488351232 → (∀ x ∈ l0, (Lit.int .u8 x).wf = true) → ∃ k, laws_FnEditCommon.f k l0 = some true
theorem laws_FnEditCommon.walk (P : laws_FnEditCommon.Pure) (a0 : Option Addr) (len0 cap0 : Nat) (z0 : List Int) (w : World) (w0 : (a0 = none ∧ len0 = 0 ∧ cap0 = 0 ∧ z0 = []) ∨ ∃ x, a0 = some x ∧ len0 ≤ cap0 ∧ cap0 ≤ maxLen ∧ z0.length = cap0 ∧ (∀ i, i < z0.length → w.cell? (x.add i) = some (.int .u8 (z0.getD i 0))) ∧ ∀ n ∈ z0, (Lit.int .u8 n).wf = true) (y0 : len0 * 1 ≤ 140737488351232) :
  Calls Try.prog 8 #[.slice a0 len0 cap0] w fun e w' => e = .returned (.bool true) ∧ Below w.heap.size w w' := by
 obtain ⟨l0, rfl, hr0, hm0, hw0, hc0⟩ := ReadsInt.ofRowC w0
 obtain ⟨k, h⟩ := P l0 hm0 y0 hw0
 refine (laws_FnEditCommon.calls k _ _ l0 true w (Kd.C_of_reads (d := (0 : Int)) (h1 := fun _ => rfl) hr0) hc0 h).mono ?_
 rintro e w' ⟨rfl, hd⟩
 exact ⟨rfl, hd⟩
end Go.Proofs.Ythpeiboobnnfgaa.E
end
section
namespace Go.Proofs.Ythpeiboobnnfgaa.Pur
open Go.RowKit Go.Proofs.YthpeiboobnnfgaaW.PrintWords
def EvP {α : Type} (g : Nat → Option α) (P : α → Prop) : Prop := ∃ r, Ev g r ∧ P r
section
variable {α β : Type}
theorem EvP.bind {g : Nat → Option α} {f : Nat → α → Option β} {P : α → Prop} {Q : β → Prop} (h : EvP g P) (k : ∀ a, P a → EvP (fun n => f n a) Q) : EvP (fun n => (g n).bind (f n)) Q := by
  obtain ⟨a, ha, hp⟩ := h
  obtain ⟨b, hb, hq⟩ := k a hp
  exact ⟨b, Ev.bind ha hb, hq⟩
theorem EvP.ret {P : α → Prop} {r : α} (h : P r) : EvP (fun _ => some r) P := ⟨r, Ev.now r, h⟩
theorem EvP.con {o : Option α} {P : α → Prop} {r : α} (h : o = some r) (hp : P r) : EvP (fun _ => o) P := by subst h; exact .ret hp
theorem EvP.ite {c : Prop} [Decidable c] {f g : Nat → Option α} {P : α → Prop} (h : c → EvP f P) (k : ¬ c → EvP g P) : EvP (fun n => if c then f n else g n) P := by
  by_cases hc : c
  · obtain ⟨r, hr, hp⟩ := h hc
    exact ⟨r, Ev.congr (fun n => if_pos hc) hr, hp⟩
  · obtain ⟨r, hr, hp⟩ := k hc
    exact ⟨r, Ev.congr (fun n => if_neg hc) hr, hp⟩
theorem EvP.yes {c : Prop} [Decidable c] {f g : Nat → Option α} {P : α → Prop} (hc : c) (h : EvP f P) : EvP (fun n => if c then f n else g n) P := .ite (fun _ => h) (fun k => absurd hc k)
theorem EvP.no {c : Prop} [Decidable c] {f g : Nat → Option α} {P : α → Prop} (hc : ¬ c) (h : EvP g P) : EvP (fun n => if c then f n else g n) P := .ite (fun k => absurd k hc) (fun _ => h)
theorem EvP.step {g f : Nat → Option α} {P : α → Prop} (h : ∀ k, g (k + 1) = f k) (k : EvP f P) : EvP g P := by
  obtain ⟨r, hr, hp⟩ := k
  exact ⟨r, Ev.step h hr, hp⟩
theorem EvP.succ {g : Nat → Option α} {P : α → Prop} (k : EvP (fun n => g (n + 1)) P) : EvP g P := EvP.step (fun _ => rfl) k
theorem EvP.mono {g : Nat → Option α} {P Q : α → Prop} (h : EvP g P) (k : ∀ r, P r → Q r) : EvP g Q := by
  obtain ⟨r, hr, hp⟩ := h
  exact ⟨r, hr, k r hp⟩
theorem EvP.rounds {g : Nat → Option α} {r : α} (h : EvP g (· = r)) : ∃ k, g k = some r := by
  obtain ⟨_, hr, rfl⟩ := h
  exact hr.rounds
end
structure Hd (p : Prop) : Prop where mk :: (out : p)
theorem w64 {i : Int} (h0 : -9223372036854775808 ≤ i) (h1 : i ≤ 9223372036854775807) : wrap64 i = i := by unfold wrap64; omega
theorem tmod_pos {a : Int} (b : Int) (h : 0 ≤ a) : Int.tmod a b = a % b := Int.tmod_eq_emod_of_nonneg h
theorem tdiv_pos {a : Int} (b : Int) (h : 0 ≤ a) : Int.tdiv a b = a / b := Int.tdiv_eq_ediv_of_nonneg h
theorem toNat_nat (n : Nat) : ((n : Int)).toNat = n := rfl
end Go.Proofs.Ythpeiboobnnfgaa.Pur
end
section
namespace Go.Proofs.Ythpeiboobnnfgaa.Pur
open Go.RowKit Go.Proofs.YthpeiboobnnfgaaW.PrintWords Go.Proofs.YthpeiboobnnfgaaW.PrintMore Go.Proofs.Ythpeiboobnnfgaa.E
def okB (B : List Int) : Prop := B.length ≤ 2000 ∧ ∀ x ∈ B, 0 ≤ x ∧ x ≤ 255
theorem byte_range {x : Int} (h : (Lit.int .u8 x).wf = true) : 0 ≤ x ∧ x ≤ 255 := by
  simp [Lit.wf, IntKind.min, IntKind.max, IntKind.signed, IntKind.bits] at h
  omega
theorem okB_rd {B : List Int} (h : okB B) (i : Int) : 0 ≤ rd B i ∧ rd B i ≤ 255 := by
  unfold rd
  rw [List.getD_eq_getElem?_getD]
  cases e : B[i.toNat]? with
  | none => simp
  | some v => simpa using h.2 v (List.mem_of_getElem? e)
theorem open_code (l : List Int) (h : ∀ x ∈ l, (Lit.int .u8 x).wf = true) : EvP (fun _ => spec_l6Open.f l) (fun r => okB r.1 ∧ r.2 = 0) := by
  unfold spec_l6Open.f
  refine EvP.ite (fun h1 => EvP.yes (by omega) (EvP.ret ⟨⟨by simp; omega, fun x hx => byte_range (h x (List.mem_of_mem_take hx))⟩, rfl⟩)) (fun h1 => EvP.ret ⟨⟨by dsimp only; omega, fun x hx => byte_range (h x hx)⟩, rfl⟩)
theorem xor_nn {x y : Int} (hx : 0 ≤ x) (hx' : x < 4611686018427387904) (hy : 0 ≤ y) (hy' : y < 4611686018427387904) : 0 ≤ Go.bits .xor .i64 x y := by
  obtain ⟨a, rfl⟩ := Int.eq_ofNat_of_zero_le hx
  obtain ⟨b, rfl⟩ := Int.eq_ofNat_of_zero_le hy
  have ha : a < 2 ^ 62 := by omega
  have hb : b < 2 ^ 62 := by omega
  have hx : a ^^^ b < 2 ^ 62 := Nat.xor_lt_two_pow ha hb
  have ea : a % 2 ^ IntKind.i64.bits = a := Nat.mod_eq_of_lt (by simp [IntKind.bits]; omega)
  have eb : b % 2 ^ IntKind.i64.bits = b := Nat.mod_eq_of_lt (by simp [IntKind.bits]; omega)
  simp only [Go.bits, BitVec.ofInt_natCast, BitVec.toNat_xor, BitVec.toNat_ofNat, ea, eb]
  rw [IntKind.wrap_i64]
  omega
theorem mix_ok (E n : Int) (h0 : 0 ≤ E) (h1 : E < 4611686018427387904) (hn : 1 ≤ n) :
    0 ≤ Int.tmod (Go.bits .xor .i64 E (wrap64 (Int.tdiv E 64))) n ∧ Int.tmod (Go.bits .xor .i64 E (wrap64 (Int.tdiv E 64))) n < n := by
  have hd : Int.tdiv E 64 = E / 64 := tdiv_pos 64 h0
  have h2 := xor_nn h0 h1 (y := wrap64 (Int.tdiv E 64)) (by rw [hd, w64 (by omega) (by omega)]; omega) (by rw [hd, w64 (by omega) (by omega)]; omega)
  exact ⟨Int.tmod_nonneg n h2, Int.tmod_lt_of_pos _ (by omega)⟩
theorem mixE (r1 r2 p q : Int) (a1 : 0 ≤ r1 ∧ r1 ≤ 255) (a2 : 0 ≤ r2 ∧ r2 ≤ 255) (hp : 0 ≤ p ∧ p ≤ 1000000000) (hq : 0 ≤ q ∧ q ≤ 1000000000) :
    (wrap64 ((wrap64 ((wrap64 ((wrap64 ((wrap64 r1) * 131)) + (wrap64 ((wrap64 r2) * 1117)))) + (wrap64 (p * 29)))) + (wrap64 ((wrap64 q) * 53)))) = r1 * 131 + r2 * 1117 + p * 29 + q * 53 := by
  rw [w64 (i := r1) (by omega) (by omega), w64 (i := r2) (by omega) (by omega), w64 (i := q) (by omega) (by omega), w64 (i := r1 * 131) (by omega) (by omega), w64 (i := r2 * 1117) (by omega) (by omega), w64 (i := p * 29) (by omega) (by omega),
    w64 (i := q * 53) (by omega) (by omega), w64 (i := r1 * 131 + r2 * 1117) (by omega) (by omega), w64 (i := r1 * 131 + r2 * 1117 + p * 29) (by omega) (by omega), w64 (by omega) (by omega)]
theorem pick_ok {B : List Int} (hB : okB B) (p n : Int) (hp : 0 ≤ p ∧ p ≤ 100000000) (hn : 1 ≤ n ∧ n ≤ 1000000) : EvP (fun k => spec_l6Rd_pick.f k B p n) (fun r => 0 ≤ r.1 ∧ r.1 < n ∧ r.2 = p + 1) := by
  unfold spec_l6Rd_pick.f
  have e1 : wrap64 (p + 1) = p + 1 := w64 (by omega) (by omega)
  have e2 : wrap64 (p + 1 - 1) = p := by rw [w64 (by omega) (by omega)]; omega
  have hl := hB.1
  rw [e1]
  refine EvP.no (by omega) ?_
  refine EvP.succ ?_
  simp only [spec_l6Rd_pick.j0, e2]
  clear e1 e2
  refine EvP.ite (fun h0 => EvP.ret ⟨by omega, by dsimp only; omega, rfl⟩) (fun h0 => ?_)
  have hpos : 0 < (B.length : Int) := by
    rw [beq_iff_eq] at h0
    omega
  refine EvP.ite (fun h1 => ?_) (fun h1 => ?_)
  · have hr := okB_rd hB p
    refine EvP.yes (by omega) (EvP.no (by omega) (EvP.ret ⟨?_, ?_, rfl⟩))
    · rw [w64 (by omega) (by omega)]; exact Int.tmod_nonneg n hr.1
    · exact Int.tmod_lt_of_pos _ (by omega)
  · refine EvP.no (by omega) ?_
    have m1 : Int.tmod p (B.length : Int) = p % (B.length : Int) := tmod_pos _ hp.1
    have hm1 : 0 ≤ Int.tmod p (B.length : Int) ∧ Int.tmod p (B.length : Int) < (B.length : Int) := by rw [m1]; exact ⟨Int.emod_nonneg _ (by omega), Int.emod_lt_of_pos _ hpos⟩
    have e3 : wrap64 ((wrap64 (p * 7)) + 3) = p * 7 + 3 := by rw [w64 (i := p * 7) (by omega) (by omega), w64 (by omega) (by omega)]
    rw [e3]
    clear e3
    have hm2 : 0 ≤ Int.tmod (p * 7 + 3) (B.length : Int) ∧ Int.tmod (p * 7 + 3) (B.length : Int) < (B.length : Int) := by rw [tmod_pos _ (by omega)]; exact ⟨Int.emod_nonneg _ (by omega), Int.emod_lt_of_pos _ hpos⟩
    have hq : 0 ≤ Int.tdiv p (B.length : Int) ∧ Int.tdiv p (B.length : Int) ≤ 1000000000 := by
      rw [tdiv_pos _ hp.1]
      have := Int.ediv_le_self (B.length : Int) hp.1
      exact ⟨Int.ediv_nonneg hp.1 (by omega), by omega⟩
    have a1 := okB_rd hB (Int.tmod p (B.length : Int))
    have a2 := okB_rd hB (Int.tmod (p * 7 + 3) (B.length : Int))
    refine EvP.yes hm1.1 (EvP.yes hm1.2 (EvP.yes hm2.1 (EvP.yes hm2.2 (EvP.no (by omega) ?_))))
    rw [mixE _ _ p _ a1 a2 (by omega) hq]
    have := mix_ok (rd B (Int.tmod p (B.length : Int)) * 131 + rd B (Int.tmod (p * 7 + 3) (B.length : Int)) * 1117 + p * 29 + Int.tdiv p (B.length : Int) * 53) n (by omega) (by omega) hn.1
    exact EvP.ret ⟨this.1, this.2, rfl⟩
end Go.Proofs.Ythpeiboobnnfgaa.Pur
end
section
namespace Go.Proofs.Ythpeiboobnnfgaa.Pur
open Go.RowKit Go.Proofs.YthpeiboobnnfgaaW.PrintWords Go.Proofs.YthpeiboobnnfgaaW.PrintMore Go.Proofs.Ythpeiboobnnfgaa.E
theorem step_in {v : Int} : 1 ≤ mx 1 (mn 15 v) ∧ mx 1 (mn 15 v) ≤ 15 := by unfold mx mn; omega
theorem melody_loop {B : List Int} (hB : okB B) (n : Int) (hn : 0 ≤ n ∧ n ≤ 200) : ∀ (d : Nat) (i : Int) (acc : List S36) (s p : Int), 0 ≤ i → i + d = n → (acc.length : Int) = i → 1 ≤ s → s ≤ 15 → 0 ≤ p → p ≤ 1000000 - 10 * d →
    EvP (fun k => spec_l91Melody.l0 k acc n s i B p) (fun r => (r.1.length : Int) = n ∧ 0 ≤ r.2 ∧ r.2 ≤ p + 2 * d + 2) := by
  intro d
  induction d with
  | zero =>
    intro i acc s p hi hd ha hs0 hs1 hp0 hp1
    refine EvP.succ ?_
    simp only [spec_l91Melody.l0]
    refine EvP.no (by omega) ?_
    refine EvP.ite (fun hpos => ?_) (fun _ => EvP.ret ⟨by dsimp only; omega, hp0, by dsimp only; omega⟩)
    refine EvP.bind (pick_ok hB p 50 (by omega) (by omega)) (fun r hr => ?_)
    refine EvP.ite (fun _ => ?_) (fun _ => EvP.ite (fun _ => ?_) (fun _ => EvP.ret ⟨by dsimp only; omega, by dsimp only; omega, by dsimp only; omega⟩))
    · refine EvP.bind (P := (· = [(-1), 21, 20])) (EvP.con rfl rfl) (fun _ e => ?_)
      subst e
      refine EvP.bind (pick_ok hB r.2 3 (by omega) (by omega)) (fun q hq => ?_)
      have h3 : (([(-1), 21, 20] : List Int).length : Int) = 3 := rfl
      exact EvP.yes hq.1 (EvP.yes (by omega) (EvP.yes (by omega) (EvP.ret ⟨by simp; omega, by dsimp only; omega, by dsimp only; omega⟩)))
    · rw [w64 (by omega) (by omega)]
      exact EvP.yes (by omega) (EvP.yes (by omega) (EvP.ret ⟨by simp; omega, by dsimp only; omega, by dsimp only; omega⟩))
  | succ d ih =>
    intro i acc s p hi hd ha hs0 hs1 hp0 hp1
    refine EvP.succ ?_
    simp only [spec_l91Melody.l0]
    refine EvP.yes (by omega) ?_
    refine EvP.bind (P := (· = Int.tmod s 7)) (EvP.con rfl rfl) (fun _ e => ?_)
    subst e
    have ei : Hd (wrap64 (i + 1) = i + 1) := ⟨w64 (by omega) (by omega)⟩
    refine EvP.ite (fun _ => ?_) (fun _ => ?_)
    · refine EvP.bind (pick_ok hB p 3 (by omega) (by omega)) (fun r hr => ?_)
      refine EvP.yes (by omega) ?_
      refine EvP.bind (pick_ok hB r.2 5 (by omega) (by omega)) (fun q hq => ?_)
      rw [ei.out]
      have sn := step_in (v := wrap64 ((wrap64 (s + q.1)) - 2))
      refine (ih (i + 1) _ _ q.2 (by omega) (by omega) (by simp; omega) sn.1 sn.2 (by omega) (by omega)).mono (fun r' h => ⟨h.1, h.2.1, by omega⟩)
    · refine EvP.yes (by omega) ?_
      refine EvP.bind (pick_ok hB p 5 (by omega) (by omega)) (fun q hq => ?_)
      rw [ei.out]
      have sn := step_in (v := wrap64 ((wrap64 (s + q.1)) - 2))
      refine (ih (i + 1) _ _ q.2 (by omega) (by omega) (by simp; omega) sn.1 sn.2 (by omega) (by omega)).mono (fun r' h => ⟨h.1, h.2.1, by omega⟩)
theorem melody_ok {B : List Int} (hB : okB B) (p most : Int) (hp : 0 ≤ p ∧ p ≤ 100000) (hm : 0 ≤ most ∧ most ≤ 100) :
    EvP (fun k => spec_l91Melody.f k B p most) (fun r => (r.1.length : Int) ≤ most ∧ 0 ≤ r.2 ∧ r.2 ≤ p + 2 * most + 4) := by
  unfold spec_l91Melody.f
  rw [w64 (by omega) (by omega)]
  refine EvP.bind (pick_ok hB p (most + 1) (by omega) (by omega)) (fun r hr => ?_)
  refine EvP.bind (pick_ok hB r.2 5 (by omega) (by omega)) (fun q hq => ?_)
  rw [w64 (by omega) (by omega)]
  obtain ⟨d, hd⟩ := Int.eq_ofNat_of_zero_le hr.1
  refine (melody_loop hB r.1 (by omega) d 0 [] _ q.2 (by omega) (by omega) rfl (by omega) (by omega) (by omega) (by omega)).mono (fun r' h => ⟨by omega, h.2.1, by omega⟩)
end Go.Proofs.Ythpeiboobnnfgaa.Pur
end
section
namespace Go.Proofs.Ythpeiboobnnfgaa.Ed
structure Pr (α : Type) where
  ins : Int
  om : Int
  both : α → α → Int
section
variable {α : Type}
def least (p : Pr α) : List α → List α → Int
  | [], [] => 0
  | [], _ :: bs => p.ins + least p [] bs
  | _ :: as_, [] => p.om + least p as_ []
  | a :: as_, b :: bs => min (min (p.ins + least p (a :: as_) bs) (p.om + least p as_ (b :: bs))) (p.both a b + least p as_ bs)
termination_by a b => a.length + b.length
theorem least_nn (p : Pr α) : least p [] [] = 0 := by rw [least]
theorem least_nc (p : Pr α) (b : α) (bs : List α) : least p [] (b :: bs) = p.ins + least p [] bs := by rw [least]
theorem least_cn (p : Pr α) (a : α) (as_ : List α) : least p (a :: as_) [] = p.om + least p as_ [] := by rw [least]
theorem least_cc (p : Pr α) (a b : α) (as_ bs : List α) : least p (a :: as_) (b :: bs) = min (min (p.ins + least p (a :: as_) bs) (p.om + least p as_ (b :: bs))) (p.both a b + least p as_ bs) := by rw [least]
inductive Al (p : Pr α) : List α → List α → Int → Prop
  | nil : Al p [] [] 0
  | ins (b : α) {as_ bs : List α} {n : Int} : Al p as_ bs n → Al p as_ (b :: bs) (p.ins + n)
  | om (a : α) {as_ bs : List α} {n : Int} : Al p as_ bs n → Al p (a :: as_) bs (p.om + n)
  | both (a b : α) {as_ bs : List α} {n : Int} : Al p as_ bs n → Al p (a :: as_) (b :: bs) (p.both a b + n)
theorem Al.eq {p : Pr α} {as_ bs : List α} {n m : Int} (h : Al p as_ bs n) (e : n = m) : Al p as_ bs m := e ▸ h
theorem least_le_ins (p : Pr α) (b : α) (as_ bs : List α) : least p as_ (b :: bs) ≤ p.ins + least p as_ bs := by
  cases as_ with
  | nil => rw [least_nc]; exact Int.le_refl _
  | cons a as_ => rw [least_cc]; omega
theorem least_le_om (p : Pr α) (a : α) (as_ bs : List α) : least p (a :: as_) bs ≤ p.om + least p as_ bs := by
  cases bs with
  | nil => rw [least_cn]; exact Int.le_refl _
  | cons b bs => rw [least_cc]; omega
theorem least_le_both (p : Pr α) (a b : α) (as_ bs : List α) : least p (a :: as_) (b :: bs) ≤ p.both a b + least p as_ bs := by
  rw [least_cc]; omega
theorem Al.le {p : Pr α} {as_ bs : List α} {n : Int} (h : Al p as_ bs n) : least p as_ bs ≤ n := by
  induction h with
  | nil => rw [least_nn]; exact Int.le_refl _
  | ins b _ ih => have := least_le_ins p b; rename_i as_ bs n _; have := this as_ bs; omega
  | om a _ ih => have := least_le_om p a; rename_i as_ bs n _; have := this as_ bs; omega
  | both a b _ ih => have := least_le_both p a b; rename_i as_ bs n _; have := this as_ bs; omega
theorem Al.least (p : Pr α) : ∀ as_ bs : List α, Al p as_ bs (least p as_ bs)
  | [], [] => by rw [least_nn]; exact .nil
  | [], b :: bs => by rw [least_nc]; exact .ins b (Al.least p [] bs)
  | a :: as_, [] => by rw [least_cn]; exact .om a (Al.least p as_ [])
  | a :: as_, b :: bs => by
    have h1 := Al.ins b (Al.least p (a :: as_) bs)
    have h2 := Al.om a (Al.least p as_ (b :: bs))
    have h3 := Al.both (p := p) a b (Al.least p as_ bs)
    rw [least_cc]
    rcases Int.le_total (p.ins + Ed.least p (a :: as_) bs) (p.om + Ed.least p as_ (b :: bs)) with g | g
    · rcases Int.le_total (p.ins + Ed.least p (a :: as_) bs) (p.both a b + Ed.least p as_ bs) with g' | g'
      · exact h1.eq (by omega)
      · exact h3.eq (by omega)
    · rcases Int.le_total (p.om + Ed.least p as_ (b :: bs)) (p.both a b + Ed.least p as_ bs) with g' | g'
      · exact h2.eq (by omega)
      · exact h3.eq (by omega)
termination_by as_ bs => as_.length + bs.length
theorem Al.append {p : Pr α} {as_ bs as' bs' : List α} {n m : Int} (h : Al p as_ bs n) (k : Al p as' bs' m) : Al p (as_ ++ as') (bs ++ bs') (n + m) := by
  induction h with
  | nil => exact k.eq (by omega)
  | ins b _ ih => exact (Al.ins b ih).eq (by omega)
  | om a _ ih => exact (Al.om a ih).eq (by omega)
  | both a b _ ih => exact (Al.both a b ih).eq (by omega)
theorem Al.rev {p : Pr α} {as_ bs : List α} {n : Int} (h : Al p as_ bs n) : Al p as_.reverse bs.reverse n := by
  induction h with
  | nil => exact .nil
  | ins b _ ih => have := ih.append (Al.ins b (Al.nil (p := p))); rw [List.append_nil] at this; rw [List.reverse_cons]; exact this.eq (by omega)
  | om a _ ih => have := ih.append (Al.om a (Al.nil (p := p))); rw [List.append_nil] at this; rw [List.reverse_cons]; exact this.eq (by omega)
  | both a b _ ih => have := ih.append (Al.both a b (Al.nil (p := p))); rw [List.reverse_cons, List.reverse_cons]; exact this.eq (by omega)
theorem least_rev (p : Pr α) (as_ bs : List α) : least p as_.reverse bs.reverse = least p as_ bs := by
  refine Int.le_antisymm (Al.least p as_ bs).rev.le ?_
  have := (Al.least p as_.reverse bs.reverse).rev.le
  rwa [List.reverse_reverse, List.reverse_reverse] at this
theorem Al.swap {p : Pr α} (h1 : p.ins = p.om) (h2 : ∀ a b, p.both a b = p.both b a) {as_ bs : List α} {n : Int} (h : Al p as_ bs n) : Al p bs as_ n := by
  induction h with
  | nil => exact .nil
  | ins b _ ih => exact (Al.om b ih).eq (by omega)
  | om a _ ih => exact (Al.ins a ih).eq (by omega)
  | both a b _ ih => exact (Al.both b a ih).eq (by rw [h2])
theorem least_comm {p : Pr α} (h1 : p.ins = p.om) (h2 : ∀ a b, p.both a b = p.both b a) (as_ bs : List α) : least p as_ bs = least p bs as_ :=
  Int.le_antisymm ((Al.least p bs as_).swap h1 h2).le ((Al.least p as_ bs).swap h1 h2).le
theorem least_snoc (p : Pr α) (a b : α) (as_ bs : List α) : least p (as_ ++ [a]) (bs ++ [b]) = min (min (p.ins + least p (as_ ++ [a]) bs) (p.om + least p as_ (bs ++ [b]))) (p.both a b + least p as_ bs) := by
  rw [← least_rev p (as_ ++ [a]) (bs ++ [b]), ← least_rev p (as_ ++ [a]) bs, ← least_rev p as_ (bs ++ [b]), ← least_rev p as_ bs]
  simp only [List.reverse_append, List.reverse_cons, List.reverse_nil, List.nil_append, List.singleton_append]
  rw [least_cc]
theorem least_nil (p : Pr α) : ∀ bs : List α, least p [] bs = p.ins * bs.length
  | [] => by rw [least_nn]; simp
  | b :: bs => by rw [least_nc, least_nil p bs, List.length_cons]; rw [show ((bs.length + 1 : Nat) : Int) = (bs.length : Int) + 1 from rfl, Int.mul_add]; omega
theorem least_nil' (p : Pr α) : ∀ as_ : List α, least p as_ [] = p.om * as_.length
  | [] => by rw [least_nn]; simp
  | a :: as_ => by rw [least_cn, least_nil' p as_, List.length_cons]; rw [show ((as_.length + 1 : Nat) : Int) = (as_.length : Int) + 1 from rfl, Int.mul_add]; omega
end
section
variable {α : Type}
structure Cost (p : Pr α) : Prop where
  ins : p.ins = 2
  om : p.om = 2
  same : ∀ a, p.both a a = 0
  differ : ∀ a b, p.both a b = 0 → a = b
  le : ∀ a b, 0 ≤ p.both a b ∧ p.both a b ≤ 3
  comm : ∀ a b, p.both a b = p.both b a
variable {p : Pr α}
theorem Cost.nonneg (c : Cost p) {as_ bs : List α} {n : Int} (h : Al p as_ bs n) : 0 ≤ n := by
  induction h with
  | nil => exact Int.le_refl _
  | ins b _ ih => have := c.ins; omega
  | om a _ ih => have := c.om; omega
  | both a b _ ih => have := c.le a b; omega
theorem Cost.least_nonneg (c : Cost p) (as_ bs : List α) : 0 ≤ least p as_ bs := c.nonneg (Al.least p as_ bs)
end
section
variable {α : Type}
structure Common (q : Pr α) : Prop where
  ins : q.ins = 0
  om : q.om = 0
  same : ∀ a, q.both a a = -1
  differ : ∀ a b, a ≠ b → q.both a b = 0
  comm : ∀ a b, q.both a b = q.both b a
variable {q : Pr α}
theorem Common.both (c : Common q) (a b : α) : q.both a b = 0 ∨ q.both a b = -1 ∧ a = b := by
  by_cases h : a = b
  · subst h; exact .inr ⟨c.same a, rfl⟩
  · exact .inl (c.differ a b h)
theorem Common.le_first (c : Common q) {as_ bs : List α} {n : Int} (h : Al q as_ bs n) : -n ≤ as_.length := by
  induction h with
  | nil => simp
  | ins b _ ih => have := c.ins; omega
  | om a _ ih => have := c.om; rw [List.length_cons]; omega
  | both a b _ ih => rw [List.length_cons]; rcases c.both a b with h | h <;> omega
theorem Common.nonpos (c : Common q) {as_ bs : List α} {n : Int} (h : Al q as_ bs n) : n ≤ 0 := by
  induction h with
  | nil => exact Int.le_refl _
  | ins b _ ih => have := c.ins; omega
  | om a _ ih => have := c.om; omega
  | both a b _ ih => rcases c.both a b with h | h <;> omega
theorem Common.self (c : Common q) (as_ : List α) : -least q as_ as_ = as_.length := by
  have h1 := c.le_first (Al.least q as_ as_)
  have h2 : Al q as_ as_ (-(as_.length : Int)) := by
    clear h1
    induction as_ with
    | nil => exact .nil
    | cons a as_ ih => exact (Al.both a a ih).eq (by rw [c.same, List.length_cons]; omega)
  have := h2.le
  omega
theorem Common.cost {p : Pr α} (c : Common q) (k : Cost p) {as_ bs : List α} {n : Int} (h : Al q as_ bs n) : ∃ m, Al p as_ bs m ∧ m ≤ 2 * ((as_.length : Int) + n) + 2 * ((bs.length : Int) + n) := by
  induction h with
  | nil => exact ⟨0, .nil, by simp⟩
  | ins b _ ih => obtain ⟨m, hm, hl⟩ := ih; exact ⟨_, .ins b hm, by have := c.ins; have := k.ins; rw [List.length_cons]; omega⟩
  | om a _ ih => obtain ⟨m, hm, hl⟩ := ih; exact ⟨_, .om a hm, by have := c.om; have := k.om; rw [List.length_cons]; omega⟩
  | both a b _ ih =>
    obtain ⟨m, hm, hl⟩ := ih
    refine ⟨_, .both a b hm, ?_⟩
    rw [List.length_cons, List.length_cons]
    rcases c.both a b with h | ⟨h, rfl⟩
    · have := k.le a b; omega
    · have := k.same a; omega
theorem Common.cost_le {p : Pr α} (c : Common q) (k : Cost p) (as_ bs : List α) : least p as_ bs ≤ 2 * ((as_.length : Int) - -least q as_ bs) + 2 * ((bs.length : Int) - -least q as_ bs) := by
  obtain ⟨m, hm, hl⟩ := c.cost k (Al.least q as_ bs)
  have := hm.le
  omega
end
end Go.Proofs.Ythpeiboobnnfgaa.Ed
end
section
namespace Go.Proofs.Ythpeiboobnnfgaa.Pur
open Go.RowKit Go.Proofs.YthpeiboobnnfgaaW.PrintWords Go.Proofs.YthpeiboobnnfgaaW.PrintMore Go.Proofs.Ythpeiboobnnfgaa.E Go.Proofs.Ythpeiboobnnfgaa.Ed
def T (x : List (List Int)) (i k : Nat) : Int := (x.getD i []).getD k 0
def RL (x : List (List Int)) (i : Nat) : Nat := (x.getD i []).length
def putT (x : List (List Int)) (i k : Nat) (v : Int) : List (List Int) := x.set i ((x.getD i []).set k v)
theorem rd_T (x : List (List Int)) (i k : Nat) : rd (rd_L4 x (i : Int)) (k : Int) = T x i k := rfl
theorem rd_RL (x : List (List Int)) (i : Nat) : (rd_L4 x (i : Int)).length = RL x i := rfl
theorem getD_set {α : Type} (x : List α) (i j : Nat) (v d : α) : (x.set i v).getD j d = if i = j ∧ i < x.length then v else x.getD j d := by
  simp only [List.getD_eq_getElem?_getD, List.getElem?_set]
  by_cases h : i = j
  · subst h
    by_cases h2 : i < x.length
    · simp [h2]
    · simp [h2]
  · simp [h]
theorem putT_length (x : List (List Int)) (i k : Nat) (v : Int) : (putT x i k v).length = x.length := by simp [putT]
theorem putT_RL (x : List (List Int)) (i k j : Nat) (v : Int) : RL (putT x i k v) j = RL x j := by
  unfold RL putT
  rw [getD_set]
  split
  · rename_i h; rw [h.1]; simp
  · rfl
theorem putT_T (x : List (List Int)) (i k i' k' : Nat) (v : Int) (hi : i < x.length) (hk : k < RL x i) : T (putT x i k v) i' k' = if i = i' ∧ k = k' then v else T x i' k' := by
  unfold T putT
  rw [getD_set]
  by_cases h : i = i'
  · subst h
    rw [if_pos ⟨rfl, hi⟩, getD_set]
    by_cases h2 : k = k'
    · subst h2
      have hk' : k < (x.getD i []).length := hk
      rw [if_pos ⟨rfl, hk'⟩, if_pos ⟨rfl, rfl⟩]
    · rw [if_neg (fun h => h2 h.1), if_neg (fun h => h2 h.2)]
  · rw [if_neg (fun h' => h h'.1), if_neg (fun h' => h h'.1)]
theorem putT_put (x : List (List Int)) (i k : Nat) (u v : Int) : putT (putT x i k u) i k v = putT x i k v := by
  unfold putT
  rw [getD_set]
  by_cases hi : i < x.length
  · rw [if_pos ⟨rfl, hi⟩, List.set_set, List.set_set]
  · rw [List.set_eq_of_length_le (by simp; omega), List.set_eq_of_length_le (by omega), List.set_eq_of_length_le (by omega)]
section
variable {α : Type} (p : Pr α) (a b : List α)
structure Done (x : List (List Int)) (i k : Nat) : Prop where
  len : x.length = a.length + 1
  row : ∀ j, i ≤ j → j ≤ a.length → RL x j = b.length + 1
  told : ∀ j l, j ≤ a.length → l ≤ b.length → (i < j ∨ i = j ∧ k ≤ l) → T x j l = least p (a.drop j) (b.drop l)
  zero : ∀ l, l < k → T x i l = 0
structure Full (x : List (List Int)) : Prop where
  len : x.length = a.length + 1
  row : ∀ j, j ≤ a.length → RL x j = b.length + 1
  told : ∀ j l, j ≤ a.length → l ≤ b.length → T x j l = least p (a.drop j) (b.drop l)
variable {p a b}
theorem Done.put {x : List (List Int)} {i k : Nat} (h : Done p a b x i (k + 1)) (hi : i ≤ a.length) (hk : k ≤ b.length) {v : Int} (hv : v = least p (a.drop i) (b.drop k)) : Done p a b (putT x i k v) i k := by
  have h1 : i < x.length := by rw [h.len]; omega
  have h2 : k < RL x i := by rw [h.row i (Nat.le_refl _) hi]; omega
  refine ⟨by rw [putT_length]; exact h.len, fun j hj hj' => by rw [putT_RL]; exact h.row j hj hj', fun j l hj hl hd => ?_, fun l hl => ?_⟩
  · rw [putT_T x i k j l v h1 h2]
    by_cases e : i = j ∧ k = l
    · rw [if_pos e, hv, e.1, e.2]
    · rw [if_neg e]
      exact h.told j l hj hl (by omega)
  · rw [putT_T x i k i l v h1 h2, if_neg (by omega)]
    exact h.zero l (by omega)
theorem Done.stay {x : List (List Int)} (h : Done p a b x a.length (b.length + 1)) : Done p a b x a.length b.length := by
  refine ⟨h.len, h.row, fun j l hj hl hd => ?_, fun l hl => h.zero l (by omega)⟩
  obtain ⟨rfl, rfl⟩ : j = a.length ∧ l = b.length := by omega
  rw [h.zero _ (Nat.lt_succ_self _), List.drop_of_length_le (Nat.le_refl _), List.drop_of_length_le (Nat.le_refl _), least_nn]
theorem Done.new {x : List (List Int)} {i : Nat} (h : x.length = a.length + 1) (hr : ∀ j, i < j → j ≤ a.length → RL x j = b.length + 1)
    (ht : ∀ j l, j ≤ a.length → l ≤ b.length → i < j → T x j l = least p (a.drop j) (b.drop l)) (hi : i ≤ a.length) : Done p a b (x.set i (List.replicate (b.length + 1) 0)) i (b.length + 1) := by
  refine ⟨by simpa using h, fun j hj hj' => ?_, fun j l hj hl hd => ?_, fun l hl => ?_⟩
  · unfold RL
    rw [getD_set]
    split
    · simp
    · exact hr j (by omega) hj'
  · unfold T
    rw [getD_set, if_neg (by omega)]
    exact ht j l hj hl (by omega)
  · unfold T
    rw [getD_set, if_pos ⟨rfl, by omega⟩]
    simp [List.getD_eq_getElem?_getD, hl]
end
end Go.Proofs.Ythpeiboobnnfgaa.Pur
end
section
namespace Go.Proofs.Ythpeiboobnnfgaa.Pur
open Go.RowKit Go.Proofs.YthpeiboobnnfgaaW.PrintWords Go.Proofs.Ythpeiboobnnfgaa.E
def okT (t : S36) : Bool := decide (0 ≤ t.f0) && decide (t.f0 ≤ 20) && (!t.f1 || decide (t.f0 % 7 = 2))
def okM (l : List S36) : Bool := l.all okT && decide (l.length ≤ 24)
theorem spec_valid (t : S36) : spec_ToneValid.f t.f0 t.f1 = some (okT t) := by
  obtain ⟨s, b⟩ := t
  unfold spec_ToneValid.f spec_l6In.f spec_l1Letter.f okT
  by_cases h0 : s ≥ 0
  · rw [if_pos h0]
    by_cases h1 : s ≤ 20
    · cases b <;> simp [h0, h1, tmod_pos, Bool.beq_eq_decide_eq]
    · simp [h0, h1]
  · simp [h0]
theorem impl_valid (t : S36) : impl_Tone_valid.f t.f0 t.f1 = some (okT t) := by
  obtain ⟨s, b⟩ := t
  unfold impl_Tone_valid.f okT
  by_cases h0 : s ≥ 0
  · rw [if_pos h0]
    by_cases h1 : s ≤ 20
    · cases b <;> simp [h0, h1, tmod_pos, Bool.beq_eq_decide_eq]
    · simp [h0, h1]
  · simp [h0]
theorem rdT_lt {l : List S36} {i : Nat} (h : i < l.length) : rd_T36 l (i : Int) = l[i] := by
  unfold rd_T36
  rw [toNat_nat, List.getD_eq_getElem?_getD, List.getElem?_eq_getElem h]
  rfl
theorem all_drop {l : List S36} {i : Nat} (h : i < l.length) : (l.drop i).all okT = (okT l[i] && (l.drop (i + 1)).all okT) := by
  rw [List.drop_eq_getElem_cons h, List.all_cons]
theorem spec_melody_loop (l : List S36) (hl : l.length < 9223372036854775807) : ∀ d i : Nat, i + d = l.length → EvP (fun k => spec_MelodyValid.l0 k l (i : Int)) (· = ((l.drop i).all okT && decide (l.length ≤ 24))) := by
  intro d
  induction d with
  | zero =>
    intro i hi
    refine EvP.succ ?_
    simp only [spec_MelodyValid.l0]
    refine (EvP.no (by omega) (EvP.ret ?_))
    rw [List.drop_of_length_le (by omega)]
    simp only [List.all_nil, Bool.true_and]
    by_cases h : l.length ≤ 24
    · have : (l.length : Int) ≤ 24 := by omega
      simp [h, this]
    · have : ¬ (l.length : Int) ≤ 24 := by omega
      simp [h, this]
  | succ d ih =>
    intro i hi
    have hlt : i < l.length := by omega
    refine EvP.step (fun k => rfl) (EvP.yes (by omega) (EvP.yes (by omega) ?_))
    rw [rdT_lt hlt, all_drop hlt]
    refine EvP.bind (P := (· = okT l[i])) (EvP.con (spec_valid _) rfl) (fun _ e => ?_)
    subst e
    refine EvP.ite (fun h => ?_) (fun h => EvP.ret ?_)
    · rw [w64 (by omega) (by omega), h, Bool.true_and]
      exact ih (i + 1) (by omega)
    · simp [h]
theorem spec_melody (l : List S36) (hl : l.length < 9223372036854775807) : EvP (fun k => spec_MelodyValid.f k l) (· = okM l) := spec_melody_loop l hl l.length 0 (by omega)
theorem impl_melody_loop (l : List S36) (hl : l.length ≤ 24) : ∀ d i : Nat, i + d = l.length → EvP (fun k => impl_MelodyValid.l0 k l (l.length : Int) (i : Int)) (· = (l.drop i).all okT) := by
  intro d
  induction d with
  | zero =>
    intro i hi
    refine EvP.step (fun k => rfl) (EvP.no (by omega) (EvP.ret ?_))
    rw [List.drop_of_length_le (by omega)]
    rfl
  | succ d ih =>
    intro i hi
    have hlt : i < l.length := by omega
    refine EvP.step (fun k => rfl) (EvP.yes (by omega) (EvP.yes (by omega) ?_))
    try refine EvP.yes (by omega) ?_
    rw [rdT_lt hlt, all_drop hlt]
    refine EvP.bind (P := (· = okT l[i])) (EvP.con (impl_valid _) rfl) (fun _ e => ?_)
    subst e
    refine EvP.ite (fun h => ?_) (fun h => EvP.ret ?_)
    · rw [w64 (by omega) (by omega), h, Bool.true_and]
      exact ih (i + 1) (by omega)
    · simp [h]
theorem impl_melody (l : List S36) : EvP (fun k => impl_MelodyValid.f k l) (· = okM l) := by
  unfold impl_MelodyValid.f
  refine EvP.ite (fun h => EvP.ret ?_) (fun h => ?_)
  · simp [okM]; intro; omega
  · have hl : l.length ≤ 24 := by omega
    refine (impl_melody_loop l hl l.length 0 (by omega)).mono (fun r e => ?_)
    rw [e]
    simp [okM, hl]
end Go.Proofs.Ythpeiboobnnfgaa.Pur
end
section
namespace Go.Proofs.Ythpeiboobnnfgaa.E
open Go.RowKit Go.Proofs.YthpeiboobnnfgaaW.PrintWords Go.Proofs.YthpeiboobnnfgaaW.PrintLast Go.Proofs.YthpeiboobnnfgaaW.PrintMore
attribute [local go_sem] max2_int min2_int max_two min_two max_three min_three max_four min_four
set_option linter.unusedVariables false
set_option linter.unusedSimpArgs false
attribute [local go_sem] en63_mk1 en63_mk2 en63_mk3 en63_mk4
attribute [local go_sem] str_leq_ str_gtr_ str_geq_
def spec_l7Replace.f (a0_0 : Int) (a0_1 : Bool) (a1_0 : Int) (a1_1 : Bool) : Option (Int) := if a0_0 = a1_0 then (if a0_1 = a1_1 then (some 0) else (some 1)) else (some 3)
end Go.Proofs.Ythpeiboobnnfgaa.E
end
section
namespace Go.Proofs.Ythpeiboobnnfgaa.E
open Go.RowKit Go.Proofs.YthpeiboobnnfgaaW.PrintWords Go.Proofs.YthpeiboobnnfgaaW.PrintLast Go.Proofs.YthpeiboobnnfgaaW.PrintMore
attribute [local go_sem] max2_int min2_int max_two min_two max_three min_three max_four min_four
set_option linter.unusedVariables false
set_option linter.unusedSimpArgs false
attribute [local go_sem] en63_mk1 en63_mk2 en63_mk3 en63_mk4
attribute [local go_sem] str_leq_ str_gtr_ str_geq_
mutual
def spec_l7Costs.l0 : Nat → List (S36) → List (S36) → List (List Int) → Int → Option ((List (List Int)))
 | 0, _, _, _, _ => none
 | k + 1, x0, x1, x5, x6 => if x6 ≥ 0 then (if 0 ≤ (wrap64 ((x1.length : Int) + 1)) then (if (wrap64 ((x1.length : Int) + 1) : Int).toNat ≤ 35184372088832 then (if 0 ≤ x6 then (if x6 < (x5.length : Int) then (spec_l7Costs.l1 k x0 x1 (x5.set (x6 : Int).toNat (List.replicate (wrap64 ((x1.length : Int) + 1) : Int).toNat 0)) x6 (x1.length : Int)) else (none)) else (none)) else (none)) else (none)) else (some x5)
def spec_l7Costs.l1 : Nat → List (S36) → List (S36) → List (List Int) → Int → Int → Option ((List (List Int)))
 | 0, _, _, _, _, _ => none
 | k + 1, x0, x1, x5, x6, x7 => if x7 ≥ 0 then (if x6 = (x0.length : Int) then (if 0 ≤ x6 then (if x6 < (x5.length : Int) then (if 0 ≤ x7 then (if x7 < ((rd_L4 x5 x6).length : Int) then (spec_l7Costs.l1 k x0 x1 (x5.set (x6 : Int).toNat ((rd_L4 x5 x6).set (x7 : Int).toNat (wrap64 (2 * (wrap64 ((x1.length : Int) - x7)))))) x6 (wrap64 (x7 - 1))) else (none)) else (none)) else (none)) else (none)) else (if x7 = (x1.length : Int) then (if 0 ≤ x6 then (if x6 < (x5.length : Int) then (if 0 ≤ x7 then (if x7 < ((rd_L4 x5 x6).length : Int) then (spec_l7Costs.l1 k x0 x1 (x5.set (x6 : Int).toNat ((rd_L4 x5 x6).set (x7 : Int).toNat (wrap64 (2 * (wrap64 ((x0.length : Int) - x6)))))) x6 (wrap64 (x7 - 1))) else (none)) else (none)) else (none)) else (none)) else (if 0 ≤ (wrap64 (x6 + 1)) then (if (wrap64 (x6 + 1)) < (x5.length : Int) then (if 0 ≤ x7 then (if x7 < ((rd_L4 x5 (wrap64 (x6 + 1))).length : Int) then (if 0 ≤ x6 then (if x6 < (x5.length : Int) then (if 0 ≤ (wrap64 (x7 + 1)) then (if (wrap64 (x7 + 1)) < ((rd_L4 x5 x6).length : Int) then (if (wrap64 (x7 + 1)) < ((rd_L4 x5 (wrap64 (x6 + 1))).length : Int) then (if x6 < (x0.length : Int) then (if x7 < (x1.length : Int) then ((spec_l7Replace.f ((rd_T36 x0 x6).f0) ((rd_T36 x0 x6).f1) ((rd_T36 x1 x7).f0) ((rd_T36 x1 x7).f1)).bind fun t147 => (if x7 < ((rd_L4 x5 x6).length : Int) then (spec_l7Costs.l1 k x0 x1 (x5.set (x6 : Int).toNat ((rd_L4 x5 x6).set (x7 : Int).toNat (mn (wrap64 ((mn (rd (rd_L4 x5 (wrap64 (x6 + 1))) x7) (rd (rd_L4 x5 x6) (wrap64 (x7 + 1)))) + 2)) (wrap64 ((rd (rd_L4 x5 (wrap64 (x6 + 1))) (wrap64 (x7 + 1))) + t147))))) x6 (wrap64 (x7 - 1))) else (none))) else (none)) else (none)) else (none)) else (none)) else (none)) else (none)) else (none)) else (none)) else (none)) else (none)) else (none)))) else (spec_l7Costs.l0 k x0 x1 x5 (wrap64 (x6 - 1)))
end
def spec_l7Costs.f (k : Nat) (l0 : List (S36)) (l1 : List (S36)) : Option ((List (List Int))) := if 0 ≤ (wrap64 ((l0.length : Int) + 1)) then (if (wrap64 ((l0.length : Int) + 1) : Int).toNat ≤ 11728124029610 then (spec_l7Costs.l0 k l0 l1 (List.replicate (wrap64 ((l0.length : Int) + 1) : Int).toNat []) (l0.length : Int)) else (none)) else (none)
def spec_l7Costs.T9 : Bool × List (List Nat × List Nat) := (true, [([], []), ([], []), ([1], [1]), ([0, 2], [0, 2]), ([3], [3]), ([], []), ([4, 5], [4, 5]), ([6], [6]), ([], []), ([], []), ([8, 9], [8, 9]), ([10], [10]), ([], []), ([12], [12]), ([11, 13], [11, 13]), ([14], [14]), ([7, 15], [7, 15]), ([16], [16]), ([17, 0, 1, 2, 3, 4, 5, 6, 7, 8, 9, 10, 11, 12, 13, 14, 15, 16, 17], [17])])
def spec_l7Costs.B9 : List Nat := [0, 0, 2, 7, 15, 0, 63, 127, 0, 0, 768, 1792, 0, 4096, 16128, 32512, 65535, 131071, 262143]
def spec_l7Costs.T10 : Bool × List (List Nat × List Nat) := (true, [([], []), ([], []), ([0, 1], [0, 1]), ([2], [2]), ([], []), ([], []), ([], []), ([], []), ([7], [7]), ([6, 8], [6, 8]), ([9], [9]), ([], []), ([11], [11]), ([10, 12], [10, 12]), ([13], [13]), ([], []), ([], []), ([15, 16], [15, 16]), ([17], [17]), ([], []), ([], []), ([19, 20], [19, 20]), ([21], [21]), ([18, 22], [18, 22]), ([14, 23], [14, 23]), ([5, 24], [5, 24]), ([3, 4, 0, 1, 2, 3, 4, 5, 6, 7, 8, 9, 10, 11, 12, 13, 14, 15, 16, 17, 18, 19, 20, 21, 22, 23, 24, 25], [3, 4]), ([26, 25, 23, 0, 1, 2, 3, 4, 5, 6, 7, 8, 9, 10, 11, 12, 13, 14, 15, 16, 17, 18, 19, 20, 21, 22, 23, 24, 25], [25, 26])])
def spec_l7Costs.B10 : List Nat := [0, 0, 3, 7, 0, 0, 0, 0, 128, 448, 960, 0, 2048, 8128, 16320, 0, 0, 98304, 229376, 0, 0, 1572864, 3670016, 8355840, 16777152, 33554400, 67108863, 134217727]
end Go.Proofs.Ythpeiboobnnfgaa.E
end
section
namespace Go.Proofs.Ythpeiboobnnfgaa.Pur
open Go.RowKit Go.Proofs.YthpeiboobnnfgaaW.PrintWords Go.Proofs.YthpeiboobnnfgaaW.PrintMore Go.Proofs.Ythpeiboobnnfgaa.E Go.Proofs.Ythpeiboobnnfgaa.Ed
abbrev Tn := S36
def costP : Pr Tn := { ins := 2, om := 2, both := fun a b => if a.f0 = b.f0 then (if a.f1 = b.f1 then 0 else 1) else 3 }
def commonP : Pr Tn := { ins := 0, om := 0, both := fun a b => if a.f0 = b.f0 ∧ a.f1 = b.f1 then -1 else 0 }
theorem tn_ext {a b : Tn} (h0 : a.f0 = b.f0) (h1 : a.f1 = b.f1) : a = b := by cases a; cases b; simp_all
theorem costC : Cost costP where
  ins := rfl
  om := rfl
  same := fun a => by simp [costP]
  differ := fun a b h => by
    unfold costP at h
    by_cases h0 : a.f0 = b.f0
    · by_cases h1 : a.f1 = b.f1
      · exact tn_ext h0 h1
      · simp [h0, h1] at h
    · simp [h0] at h
  le := fun a b => by unfold costP; dsimp only; split <;> (try split) <;> omega
  comm := fun a b => by
    unfold costP
    dsimp only
    by_cases h0 : a.f0 = b.f0
    · by_cases h1 : a.f1 = b.f1
      · simp [h0, h1]
      · have h1' : ¬ b.f1 = a.f1 := fun h => h1 h.symm
        simp [h0, h1, h1']
    · have h0' : ¬ b.f0 = a.f0 := fun h => h0 h.symm
      simp [h0, h0']
theorem commonC : Common commonP where
  ins := rfl
  om := rfl
  same := fun a => by simp [commonP]
  differ := fun a b h => by
    unfold commonP
    dsimp only
    rw [if_neg (fun h' => h (tn_ext h'.1 h'.2))]
  comm := fun a b => by
    unfold commonP
    dsimp only
    by_cases h : a.f0 = b.f0 ∧ a.f1 = b.f1
    · rw [if_pos h, if_pos ⟨h.1.symm, h.2.symm⟩]
    · rw [if_neg h, if_neg (fun h' => h ⟨h'.1.symm, h'.2.symm⟩)]
theorem least_le_all {α : Type} (p : Pr α) : ∀ xs ys : List α, least p xs ys ≤ p.om * xs.length + p.ins * ys.length
  | [], ys => by rw [least_nil]; simp
  | x :: xs, ys => by
    have h1 := least_le_om p x xs ys
    have h2 := least_le_all p xs ys
    rw [List.length_cons, show ((xs.length + 1 : Nat) : Int) = (xs.length : Int) + 1 from rfl, Int.mul_add]
    omega
theorem cost_bd (xs ys : List Tn) : 0 ≤ least costP xs ys ∧ least costP xs ys ≤ 2 * xs.length + 2 * ys.length := ⟨costC.least_nonneg xs ys, least_le_all costP xs ys⟩
theorem common_bd (xs ys : List Tn) : -(xs.length : Int) ≤ least commonP xs ys ∧ least commonP xs ys ≤ 0 := by
  have h1 := commonC.le_first (Al.least commonP xs ys)
  have h2 := commonC.nonpos (Al.least commonP xs ys)
  omega
theorem drop_len {a : List Tn} (i : Nat) : (a.drop i).length = a.length - i := List.length_drop
theorem drop_cons {a : List Tn} {i : Nat} (h : i < a.length) : a.drop i = a[i] :: a.drop (i + 1) := List.drop_eq_getElem_cons h
theorem rdT_getElem {l : List Tn} {i : Nat} (h : i < l.length) : rd_T36 l (i : Int) = l[i] := rdT_lt h
theorem mx_max (a b : Int) : mx a b = max a b := by unfold mx; omega
section
variable (a b : List Tn) (ha : a.length ≤ 24) (hb : b.length ≤ 24) (Q : List (List Int) → Prop)
include ha hb
end
end Go.Proofs.Ythpeiboobnnfgaa.Pur
end
section
namespace Go.Proofs.Ythpeiboobnnfgaa.Pur
open Go.RowKit Go.Proofs.YthpeiboobnnfgaaW.PrintWords Go.Proofs.YthpeiboobnnfgaaW.PrintMore Go.Proofs.Ythpeiboobnnfgaa.E Go.Proofs.Ythpeiboobnnfgaa.Ed
def eqT (a b : Tn) : Bool := a.f0 == b.f0 && (a.f1 == b.f1)
theorem eqT_iff (a b : Tn) : eqT a b = true ↔ a = b := by
  unfold eqT
  rw [Bool.and_eq_true, beq_iff_eq, beq_iff_eq]
  exact ⟨fun h => tn_ext h.1 h.2, fun h => by rw [h]; exact ⟨rfl, rfl⟩⟩
def use1 (_ ys : List Tn) : Int × Int × Int × Bool := (0, 1, 2, decide ((ys.length : Int) > 0))
def use2 : List Tn → List Tn → Int × Int × Int × Bool
  | x :: _, y :: _ => (1, 1, 0, eqT x y)
  | _, _ => (1, 1, 0, false)
def use3 (xs _ : List Tn) : Int × Int × Int × Bool := (1, 0, 2, decide ((xs.length : Int) > 0))
def use4 : List Tn → List Tn → Int × Int × Int × Bool
  | x :: _, y :: _ => if eqT x y = true then (0, 0, 0, false) else if x.f0 = y.f0 then (1, 1, 1, true) else (1, 1, 3, true)
  | _, _ => (0, 0, 0, false)
theorem use1_true (xs ys : List Tn) (h : 0 < ys.length) : use1 xs ys = (((0 : Nat) : Int), ((1 : Nat) : Int), 2, true) := by
  unfold use1
  rw [decide_eq_true (show (ys.length : Int) > 0 by omega)]
  rfl
theorem use1_false (xs ys : List Tn) (h : ys.length = 0) : (use1 xs ys).2.2.2 = false := decide_eq_false (by omega)
theorem use3_true (xs ys : List Tn) (h : 0 < xs.length) : use3 xs ys = (((1 : Nat) : Int), ((0 : Nat) : Int), 2, true) := by
  unfold use3
  rw [decide_eq_true (show (xs.length : Int) > 0 by omega)]
  rfl
theorem use3_false (xs ys : List Tn) (h : xs.length = 0) : (use3 xs ys).2.2.2 = false := decide_eq_false (by omega)
theorem use_ok (xs ys : List Tn) : EvP (fun k => impl_useOf.f k 1 xs ys) (· = use1 xs ys) ∧ EvP (fun k => impl_useOf.f k 2 xs ys) (· = use2 xs ys) ∧ EvP (fun k => impl_useOf.f k 3 xs ys) (· = use3 xs ys) ∧ EvP (fun k => impl_useOf.f k 4 xs ys) (· = use4 xs ys) := by
  have j0 : ∀ (e : Int) (u : Int × Int × Int × Bool), (∀ B, (B = (decide ((xs.length : Int) > 0) && decide ((ys.length : Int) > 0))) → EvP (fun k => impl_useOf.j0 k e xs ys B) (· = u)) → EvP (fun k => impl_useOf.f k e xs ys) (· = u) := by
    intro e u h
    unfold impl_useOf.f
    refine EvP.ite (fun h1 => h _ ?_) (fun h1 => h _ ?_)
    · have h2 : 0 < xs.length := by omega
      simp [h2]
    have : ¬ 0 < xs.length := by omega
    simp [this]
  refine ⟨j0 1 _ fun B hB => ?_, j0 2 _ fun B hB => ?_, j0 3 _ fun B hB => ?_, j0 4 _ fun B hB => ?_⟩
  · refine EvP.succ ?_
    simp only [impl_useOf.j0]
    exact EvP.yes (by simp) (EvP.ret rfl)
  · refine EvP.succ ?_
    simp only [impl_useOf.j0]
    refine EvP.no (by decide) (EvP.no (by decide) (EvP.yes (by simp) ?_))
    subst hB
    cases xs with
    | nil => exact EvP.no (by simp) (EvP.ret rfl)
    | cons x xs =>
      cases ys with
      | nil => exact EvP.no (by simp) (EvP.ret rfl)
      | cons y ys =>
        refine EvP.yes (by simp) (EvP.yes (by simp) (EvP.yes (by simp) (EvP.ret ?_)))
        rfl
  · refine EvP.succ ?_
    simp only [impl_useOf.j0]
    exact EvP.no (by decide) (EvP.yes (by simp) (EvP.ret rfl))
  · refine EvP.succ ?_
    simp only [impl_useOf.j0]
    refine EvP.no (by decide) (EvP.no (by decide) (EvP.no (by decide) (EvP.yes (by simp) ?_)))
    subst hB
    have jt : ∀ xs ys, EvP (fun k => impl_useOf.j1 k xs ys true) (· = ((0, 0, 0, false) : Int × Int × Int × Bool)) := by
      intro xs ys
      refine EvP.succ ?_
      simp only [impl_useOf.j1]
      exact EvP.yes (by simp) (EvP.ret rfl)
    cases xs with
    | nil => exact EvP.no (by simp) (jt _ _)
    | cons x xs =>
      cases ys with
      | nil => exact EvP.no (by simp) (jt _ _)
      | cons y ys =>
        refine EvP.yes (by simp) (EvP.yes (by simp) (EvP.yes (by simp) ?_))
        show EvP (fun k => impl_useOf.j1 k (x :: xs) (y :: ys) (eqT x y)) _
        rw [show use4 (x :: xs) (y :: ys) = if eqT x y = true then (0, 0, 0, false) else if x.f0 = y.f0 then (1, 1, 1, true) else (1, 1, 3, true) from rfl]
        by_cases h : eqT x y = true
        · rw [if_pos h, h]
          exact jt _ _
        · rw [if_neg h, Bool.eq_false_iff.mpr h]
          refine EvP.succ ?_
          simp only [impl_useOf.j1]
          refine EvP.no (by decide) (EvP.yes (by simp) (EvP.yes (by simp) ?_))
          show EvP (fun k => if x.f0 = y.f0 then _ else _) _
          by_cases h0 : x.f0 = y.f0
          · rw [if_pos h0]; exact EvP.ret (by rw [if_pos h0])
          · rw [if_neg h0]; exact EvP.ret (by rw [if_neg h0])
end Go.Proofs.Ythpeiboobnnfgaa.Pur
end
section
namespace Go.Proofs.Ythpeiboobnnfgaa.Pur
open Go.RowKit Go.Proofs.YthpeiboobnnfgaaW.PrintWords Go.Proofs.YthpeiboobnnfgaaW.PrintMore Go.Proofs.Ythpeiboobnnfgaa.E Go.Proofs.Ythpeiboobnnfgaa.Ed
namespace LcostOf
theorem pay1 : impl_costOf.f 1 0 1 2 = some costP.ins := by simp [impl_costOf.f, costP]
theorem pay3 : impl_costOf.f 3 1 0 2 = some costP.om := by simp [impl_costOf.f, costP]
theorem pay2 (x y : Tn) (h : eqT x y = true) : impl_costOf.f 2 1 1 0 = some (costP.both x y) := by
  obtain rfl := (eqT_iff x y).mp h
  simp [impl_costOf.f, costP]
theorem pay4 (x y : Tn) (h : ¬ eqT x y = true) : impl_costOf.f 4 1 1 (if x.f0 = y.f0 then 1 else 3) = some (costP.both x y) := by
  unfold eqT at h
  by_cases h0 : x.f0 = y.f0
  · by_cases h1 : x.f1 = y.f1
    · simp [h0, h1] at h
    · simp [impl_costOf.f, costP, h0, h1]
  · simp [impl_costOf.f, costP, h0]
theorem bd (xs ys : List Tn) (hx : xs.length ≤ 24) (_hy : ys.length ≤ 24) : -24 ≤ least costP xs ys ∧ least costP xs ys ≤ 96 := by
  have := cost_bd xs ys
  omega
theorem bdp (x y : Tn) : -1 ≤ costP.both x y ∧ costP.both x y ≤ 3 ∧ -1 ≤ costP.ins ∧ costP.ins ≤ 3 ∧ -1 ≤ costP.om ∧ costP.om ≤ 3 := by
  unfold costP
  dsimp only
  split <;> (try split) <;> omega
def st (x : List (List Int)) (i k : Nat) : Option Int → List (List Int)
  | none => x
  | some u => putT x i k u
def comb : Option Int → Int → Int
  | none, v => v
  | some u, v => if v < u then v else u
section
variable (a b : List Tn) (ha : a.length ≤ 24) (hb : b.length ≤ 24) (Q : List (List Int) → Prop)
variable {x : List (List Int)} {i k : Nat} (D : Done costP a b x i (k + 1)) (hi : i ≤ a.length) (hk : k ≤ b.length)
include ha hb D hi hk
omit ha hb hi hk in
theorem rows (m : Option Int) : (st x i k m).length = a.length + 1 ∧ (∀ j, i ≤ j → j ≤ a.length → (rd_L4 (st x i k m) (j : Int)).length = b.length + 1) := by
  cases m with
  | none => exact ⟨D.len, fun j hj hj' => D.row j hj hj'⟩
  | some u => exact ⟨by rw [st, putT_length]; exact D.len, fun j hj hj' => by rw [st, rd_RL, putT_RL]; exact D.row j hj hj'⟩
omit ha hb in
theorem reads (m : Option Int) (s1 s2 : Nat) (h1 : i + s1 ≤ a.length) (h2 : k + s2 ≤ b.length) (hne : s1 + s2 ≠ 0) : T (st x i k m) (i + s1) (k + s2) = least costP (a.drop (i + s1)) (b.drop (k + s2)) := by
  have ht := D.told (i + s1) (k + s2) h1 h2 (by omega)
  cases m with
  | none => exact ht
  | some u =>
    rw [st, putT_T x i k _ _ u (by rw [D.len]; omega) (by rw [D.row i (Nat.le_refl _) hi]; omega), if_neg (by omega)]
    exact ht
omit ha hb D in
theorem skip (m : Option Int) (j : Nat) (hj : j < 4) (e : Int) (he : rd [1, 2, 3, 4] (j : Int) = e) (u : Int × Int × Int × Bool) (hu : EvP (fun n => impl_useOf.f n e (a.drop i) (b.drop k)) (· = u)) (ho : u.2.2.2 = false)
    (K : EvP (fun n => impl_leastSums_costOf.l2 n a b (st x i k m) (i : Int) (k : Int) m.isSome [1, 2, 3, 4] (([1, 2, 3, 4] : List Int).length : Int) ((j + 1 : Nat) : Int)) Q) :
    EvP (fun n => impl_leastSums_costOf.l2 n a b (st x i k m) (i : Int) (k : Int) m.isSome [1, 2, 3, 4] (([1, 2, 3, 4] : List Int).length : Int) (j : Int)) Q := by
  have hl : ([1, 2, 3, 4] : List Int).length = 4 := rfl
  refine EvP.succ ?_
  simp only [impl_leastSums_costOf.l2]
  refine EvP.yes (by omega) (EvP.yes (by omega) (EvP.yes (by omega) (EvP.yes (by omega) (EvP.yes (by omega) (EvP.yes (by omega) (EvP.yes (by omega) ?_))))))
  rw [he]
  refine EvP.bind (P := (· = u)) hu (fun _ h => ?_)
  subst h
  refine EvP.no (by rw [ho]; simp) ?_
  rw [w64 (by omega) (by omega)]
  exact K
theorem take (m : Option Int) (j : Nat) (hj : j < 4) (e : Int) (he : rd [1, 2, 3, 4] (j : Int) = e) (s1 s2 : Nat) (c pay : Int) (hu : EvP (fun n => impl_useOf.f n e (a.drop i) (b.drop k)) (· = ((s1 : Int), (s2 : Int), c, true)))
    (h1 : i + s1 ≤ a.length) (h2 : k + s2 ≤ b.length) (hne : s1 + s2 ≠ 0) (hF : impl_costOf.f e (s1 : Int) (s2 : Int) c = some pay) (hp : -1 ≤ pay ∧ pay ≤ 3)
    (K : EvP (fun n => impl_leastSums_costOf.l2 n a b (st x i k (some (comb m (pay + least costP (a.drop (i + s1)) (b.drop (k + s2)))))) (i : Int) (k : Int) true [1, 2, 3, 4] (([1, 2, 3, 4] : List Int).length : Int) ((j + 1 : Nat) : Int)) Q) :
    EvP (fun n => impl_leastSums_costOf.l2 n a b (st x i k m) (i : Int) (k : Int) m.isSome [1, 2, 3, 4] (([1, 2, 3, 4] : List Int).length : Int) (j : Int)) Q := by
  have hl : ([1, 2, 3, 4] : List Int).length = 4 := rfl
  obtain ⟨hx, hr⟩ := rows a b D m
  have hri := hr i (Nat.le_refl _) hi
  have hrs := hr (i + s1) (by omega) h1
  have b1 := bd (a.drop (i + s1)) (b.drop (k + s2)) (by rw [drop_len]; omega) (by rw [drop_len]; omega)
  have hv : Hd (wrap64 (pay + rd (rd_L4 (st x i k m) ((i + s1 : Nat) : Int)) ((k + s2 : Nat) : Int)) = pay + least costP (a.drop (i + s1)) (b.drop (k + s2))) := by
    refine Hd.mk ?_
    rw [rd_T, reads a b D hi hk m s1 s2 h1 h2 hne]
    exact w64 (by omega) (by omega)
  refine EvP.succ ?_
  simp only [impl_leastSums_costOf.l2]
  refine EvP.yes (by omega) (EvP.yes (by omega) (EvP.yes (by omega) (EvP.yes (by omega) (EvP.yes (by omega) (EvP.yes (by omega) (EvP.yes (by omega) ?_))))))
  rw [he]
  refine EvP.bind (P := (· = ((s1 : Int), (s2 : Int), c, true))) hu (fun _ h => ?_)
  subst h
  refine EvP.yes rfl ?_
  refine EvP.bind (P := (· = pay)) (EvP.con hF rfl) (fun pay' h => ?_)
  subst h
  have e1 : wrap64 ((i : Int) + (s1 : Int)) = ((i + s1 : Nat) : Int) := w64 (by omega) (by omega)
  have e2 : Hd (wrap64 ((k : Int) + (s2 : Int)) = ((k + s2 : Nat) : Int)) := Hd.mk (by clear e1; exact w64 (by omega) (by omega))
  have ej : Hd (wrap64 ((j : Int) + 1) = ((j + 1 : Nat) : Int)) := Hd.mk (by clear e1; exact w64 (by omega) (by omega))
  simp only [e1, e2.out, hv.out, ej.out]
  clear e1 e2 ej hv
  refine EvP.yes (by omega) (EvP.yes (by omega) (EvP.yes (by omega) (EvP.yes (by omega) ?_)))
  cases m with
  | none =>
    refine EvP.no (by simp) (EvP.yes (by omega) (EvP.yes (by omega) ?_))
    exact K
  | some u =>
    refine EvP.yes rfl (EvP.yes (by omega) (EvP.yes (by omega) ?_))
    have hu' : rd (rd_L4 (st x i k (some u)) (i : Int)) (k : Int) = u := by
      rw [rd_T, st, putT_T x i k i k u (by rw [D.len]; omega) (by rw [D.row i (Nat.le_refl _) hi]; omega), if_pos ⟨rfl, rfl⟩]
    rw [hu']
    refine EvP.ite (fun h => ?_) (fun h => ?_)
    · unfold comb at K
      dsimp only at K
      rw [if_pos h] at K
      have ep : st x i k (some (pay' + least costP (a.drop (i + s1)) (b.drop (k + s2)))) = putT (putT x i k u) i k (pay' + least costP (a.drop (i + s1)) (b.drop (k + s2))) := (putT_put x i k u _).symm
      rw [ep] at K
      exact K
    · unfold comb at K
      dsimp only at K
      rw [if_neg h] at K
      exact K
theorem cell (next : ∀ x', Done costP a b x' i k → EvP (fun n => impl_leastSums_costOf.l1 n a b x' (i : Int) ((k : Int) - 1)) Q) :
    EvP (fun n => impl_leastSums_costOf.l2 n a b x (i : Int) (k : Int) false [1, 2, 3, 4] (([1, 2, 3, 4] : List Int).length : Int) 0) Q := by
  have hl : ([1, 2, 3, 4] : List Int).length = 4 := rfl
  have fin : ∀ m, Done costP a b (st x i k m) i k → EvP (fun n => impl_leastSums_costOf.l2 n a b (st x i k m) (i : Int) (k : Int) m.isSome [1, 2, 3, 4] (([1, 2, 3, 4] : List Int).length : Int) ((4 : Nat) : Int)) Q := by
    intro m hm
    refine EvP.succ ?_
    simp only [impl_leastSums_costOf.l2]
    refine EvP.no (by omega) ?_
    rw [w64 (by omega) (by omega)]
    exact next _ hm
  have put : ∀ v, v = least costP (a.drop i) (b.drop k) → Done costP a b (st x i k (some v)) i k := fun v hv => D.put hi hk hv
  obtain ⟨u1, u2, u3, u4⟩ := use_ok (a.drop i) (b.drop k)
  have s0 := skip a b Q hi hk (x := x)
  have t0 := take a b ha hb Q D hi hk
  show EvP (fun n => impl_leastSums_costOf.l2 n a b (st x i k none) (i : Int) (k : Int) (none : Option Int).isSome [1, 2, 3, 4] (([1, 2, 3, 4] : List Int).length : Int) ((0 : Nat) : Int)) Q
  by_cases hia : i < a.length
  · have ea := drop_cons hia
    by_cases hkb : k < b.length
    · have eb := drop_cons hkb
      have bp := bdp a[i] b[k]
      have v1 : use1 (a.drop i) (b.drop k) = (((0 : Nat) : Int), ((1 : Nat) : Int), 2, true) := use1_true _ _ (by rw [drop_len]; omega)
      have v3 : use3 (a.drop i) (b.drop k) = (((1 : Nat) : Int), ((0 : Nat) : Int), 2, true) := use3_true _ _ (by rw [drop_len]; omega)
      rw [v1] at u1
      rw [v3] at u3
      refine t0 none 0 (by omega) 1 rfl 0 1 2 costP.ins u1 (by omega) (by omega) (by omega) pay1 (by omega) ?_
      have least_is := least_cc costP a[i] b[k] (a.drop (i + 1)) (b.drop (k + 1))
      rw [← ea, ← eb] at least_is
      by_cases he : eqT a[i] b[k] = true
      · have v2 : use2 (a.drop i) (b.drop k) = (((1 : Nat) : Int), ((1 : Nat) : Int), 0, true) := by rw [ea, eb]; simp [use2, he]
        have v4 : (use4 (a.drop i) (b.drop k)).2.2.2 = false := by rw [ea, eb]; simp [use4, he]
        rw [v2] at u2
        refine t0 (some _) 1 (by omega) 2 rfl 1 1 0 (costP.both a[i] b[k]) u2 (by omega) (by omega) (by omega) (pay2 _ _ he) (by omega) ?_
        refine t0 (some _) 2 (by omega) 3 rfl 1 0 2 costP.om u3 (by omega) (by omega) (by omega) pay3 (by omega) ?_
        refine s0 (some _) 3 (by omega) 4 rfl _ u4 v4 ?_
        refine fin (some _) (put _ ?_)
        rw [least_is]
        simp only [comb, Nat.add_zero]
        generalize least costP (a.drop i) (b.drop (k + 1)) = p1
        generalize least costP (a.drop (i + 1)) (b.drop (k + 1)) = p2
        generalize least costP (a.drop (i + 1)) (b.drop k) = p3
        (repeat' split) <;> omega
      · have v2 : (use2 (a.drop i) (b.drop k)).2.2.2 = false := by rw [ea, eb]; simp [use2, he]
        have v4 : use4 (a.drop i) (b.drop k) = (((1 : Nat) : Int), ((1 : Nat) : Int), (if a[i].f0 = b[k].f0 then 1 else 3), true) := by
          rw [ea, eb, show use4 (a[i] :: a.drop (i + 1)) (b[k] :: b.drop (k + 1)) = if eqT a[i] b[k] = true then (0, 0, 0, false) else if a[i].f0 = b[k].f0 then (1, 1, 1, true) else (1, 1, 3, true) from rfl, if_neg he]
          split <;> rfl
        rw [v4] at u4
        refine s0 (some _) 1 (by omega) 2 rfl _ u2 v2 ?_
        refine t0 (some _) 2 (by omega) 3 rfl 1 0 2 costP.om u3 (by omega) (by omega) (by omega) pay3 (by omega) ?_
        refine t0 (some _) 3 (by omega) 4 rfl 1 1 _ (costP.both a[i] b[k]) u4 (by omega) (by omega) (by omega) (pay4 _ _ he) (by omega) ?_
        refine fin (some _) (put _ ?_)
        rw [least_is]
        simp only [comb, Nat.add_zero]
        generalize least costP (a.drop i) (b.drop (k + 1)) = p1
        generalize least costP (a.drop (i + 1)) (b.drop (k + 1)) = p2
        generalize least costP (a.drop (i + 1)) (b.drop k) = p3
        (repeat' split) <;> omega
    · have eb : b.drop k = [] := List.drop_of_length_le (by omega)
      have bp := bdp a[i] a[i]
      have v1 : (use1 (a.drop i) (b.drop k)).2.2.2 = false := use1_false _ _ (by rw [drop_len]; omega)
      have v2 : (use2 (a.drop i) (b.drop k)).2.2.2 = false := by rw [eb, ea]; simp [use2]
      have v3 : use3 (a.drop i) (b.drop k) = (((1 : Nat) : Int), ((0 : Nat) : Int), 2, true) := use3_true _ _ (by rw [drop_len]; omega)
      have v4 : (use4 (a.drop i) (b.drop k)).2.2.2 = false := by rw [eb, ea]; simp [use4]
      rw [v3] at u3
      refine s0 none 0 (by omega) 1 rfl _ u1 v1 ?_
      refine s0 none 1 (by omega) 2 rfl _ u2 v2 ?_
      refine t0 none 2 (by omega) 3 rfl 1 0 2 costP.om u3 (by omega) (by omega) (by omega) pay3 (by omega) ?_
      refine s0 (some _) 3 (by omega) 4 rfl _ u4 v4 ?_
      refine fin (some _) (put _ ?_)
      simp only [comb, Nat.add_zero]
      rw [eb, ea, least_cn]
  · have ea : a.drop i = [] := List.drop_of_length_le (by omega)
    have v2 : (use2 (a.drop i) (b.drop k)).2.2.2 = false := by rw [ea]; simp [use2]
    have v3 : (use3 (a.drop i) (b.drop k)).2.2.2 = false := use3_false _ _ (by rw [drop_len]; omega)
    have v4 : (use4 (a.drop i) (b.drop k)).2.2.2 = false := by rw [ea]; simp [use4]
    by_cases hkb : k < b.length
    · have eb := drop_cons hkb
      have bp := bdp b[k] b[k]
      have v1 : use1 (a.drop i) (b.drop k) = (((0 : Nat) : Int), ((1 : Nat) : Int), 2, true) := use1_true _ _ (by rw [drop_len]; omega)
      rw [v1] at u1
      refine t0 none 0 (by omega) 1 rfl 0 1 2 costP.ins u1 (by omega) (by omega) (by omega) pay1 (by omega) ?_
      refine s0 (some _) 1 (by omega) 2 rfl _ u2 v2 ?_
      refine s0 (some _) 2 (by omega) 3 rfl _ u3 v3 ?_
      refine s0 (some _) 3 (by omega) 4 rfl _ u4 v4 ?_
      refine fin (some _) (put _ ?_)
      simp only [comb, Nat.add_zero]
      rw [ea, eb, least_nc]
    · have eb : b.drop k = [] := List.drop_of_length_le (by omega)
      have v1 : (use1 (a.drop i) (b.drop k)).2.2.2 = false := use1_false _ _ (by rw [drop_len]; omega)
      refine s0 none 0 (by omega) 1 rfl _ u1 v1 ?_
      refine s0 none 1 (by omega) 2 rfl _ u2 v2 ?_
      refine s0 none 2 (by omega) 3 rfl _ u3 v3 ?_
      refine s0 none 3 (by omega) 4 rfl _ u4 v4 ?_
      refine fin none ?_
      obtain rfl : i = a.length := by omega
      obtain rfl : k = b.length := by omega
      exact D.stay
end
section
variable (a b : List Tn) (ha : a.length ≤ 24) (hb : b.length ≤ 24) (Q : List (List Int) → Prop)
include ha hb
theorem row (i : Nat) (hi : i ≤ a.length) (next : ∀ x, Done costP a b x i 0 → EvP (fun n => impl_leastSums_costOf.l0 n a b x (wrap64 ((i : Int) - 1))) Q) :
    ∀ k1 : Nat, k1 ≤ b.length + 1 → ∀ x, Done costP a b x i k1 → EvP (fun n => impl_leastSums_costOf.l1 n a b x (i : Int) ((k1 : Int) - 1)) Q := by
  intro k1
  induction k1 with
  | zero =>
    intro _ x D
    refine EvP.succ ?_
    simp only [impl_leastSums_costOf.l1]
    exact EvP.no (by omega) (next x D)
  | succ k ih =>
    intro hk x D
    have ek : (((k + 1 : Nat) : Int) - 1) = (k : Int) := by omega
    rw [ek]
    refine EvP.succ ?_
    simp only [impl_leastSums_costOf.l1]
    refine EvP.yes (by omega) ?_
    refine EvP.bind (P := (· = [1, 2, 3, 4])) (EvP.con rfl rfl) (fun _ h => ?_)
    subst h
    exact cell a b ha hb Q D hi (by omega) (fun x' D' => ih (by omega) x' D')
theorem lines (hQ : ∀ x, Full costP a b x → Q x) :
    ∀ i1 : Nat, i1 ≤ a.length + 1 → ∀ x, x.length = a.length + 1 → (∀ j, i1 ≤ j → j ≤ a.length → RL x j = b.length + 1) → (∀ j l, j ≤ a.length → l ≤ b.length → i1 ≤ j → T x j l = least costP (a.drop j) (b.drop l)) →
      EvP (fun n => impl_leastSums_costOf.l0 n a b x ((i1 : Int) - 1)) Q := by
  intro i1
  induction i1 with
  | zero =>
    intro _ x hx hr ht
    refine EvP.succ ?_
    simp only [impl_leastSums_costOf.l0]
    refine EvP.no (by omega) ?_
    exact (EvP.ret (hQ x ⟨hx, fun j hj => hr j (Nat.zero_le _) hj, fun j l hj hl => ht j l hj hl (Nat.zero_le _)⟩))
  | succ i ih =>
    intro hi x hx hr ht
    have ei : (((i + 1 : Nat) : Int) - 1) = (i : Int) := by omega
    have eb : wrap64 ((b.length : Int) + 1) = ((b.length + 1 : Nat) : Int) := w64 (by omega) (by omega)
    rw [ei]
    refine EvP.succ ?_
    simp only [impl_leastSums_costOf.l0]
    refine EvP.yes (by omega) ?_
    rw [eb]
    refine EvP.yes (by omega) (EvP.yes (by omega) (EvP.yes (by omega) (EvP.yes (by omega) ?_)))
    have D : Done costP a b (x.set i (List.replicate (b.length + 1) 0)) i (b.length + 1) := Done.new hx (fun j hj hj' => hr j (by omega) hj') (fun j l hj hl hij => ht j l hj hl (by omega)) (by omega)
    have eb' : (((b.length + 1 : Nat) : Int) - 1) = (b.length : Int) := by omega
    have := row a b ha hb Q i (by omega) (fun x' D' => by
      rw [w64 (by omega) (by omega)]
      exact ih (by omega) x' D'.len (fun j hj hj' => D'.row j (by omega) hj') (fun j l hj hl hij => D'.told j l hj hl (by omega))) (b.length + 1) (Nat.le_refl _) _ D
    rw [eb'] at this
    exact this
end
end LcostOf
theorem impl_sums_costOf (a b : List Tn) (ha : a.length ≤ 24) (hb : b.length ≤ 24) : EvP (fun n => impl_leastSums_costOf.f n a b) (Full costP a b) := by
  unfold impl_leastSums_costOf.f
  have ea : wrap64 ((a.length : Int) + 1) = ((a.length + 1 : Nat) : Int) := w64 (by omega) (by omega)
  rw [ea]
  refine EvP.yes (by omega) (EvP.yes (by omega) ?_)
  have := LcostOf.lines a b ha hb (Full costP a b) (fun _ h => h) (a.length + 1) (Nat.le_refl _) (List.replicate (a.length + 1) []) (by simp) (fun j hj hj' => by omega) (fun j l hj hl hij => by omega)
  rw [show (((a.length + 1 : Nat) : Int) - 1) = (a.length : Int) by omega] at this
  exact this
end Go.Proofs.Ythpeiboobnnfgaa.Pur
end
section
namespace Go.Proofs.Ythpeiboobnnfgaa.E
open Go.RowKit Go.Proofs.YthpeiboobnnfgaaW.PrintWords Go.Proofs.YthpeiboobnnfgaaW.PrintLast Go.Proofs.YthpeiboobnnfgaaW.PrintMore
attribute [local go_sem] max2_int min2_int max_two min_two max_three min_three max_four min_four
set_option linter.unusedVariables false
set_option linter.unusedSimpArgs false
attribute [local go_sem high] eqA36
attribute [local go_sem] en63_mk1 en63_mk2 en63_mk3 en63_mk4
attribute [local go_sem] str_leq_ str_gtr_ str_geq_
mutual
def spec_EditText.j0 : Nat → List (S36) → List (S36) → Bool → Option (ByteArray × Bool)
 | 0, _, _, _ => none
 | k + 1, x0, x1, x18 => if x18 = true then (some ((⟨#[]⟩ : ByteArray), false)) else ((spec_l7Costs.f k x0 x1).bind fun t155 => (spec_EditText.l0 k x0 x1 t155 (⟨#[]⟩ : ByteArray) 0 0))
def spec_EditText.l0 : Nat → List (S36) → List (S36) → List (List Int) → ByteArray → Int → Int → Option (ByteArray × Bool)
 | 0, _, _, _, _, _, _ => none
 | k + 1, x0, x1, x6, x7, x8, x9 => if x8 < (x0.length : Int) then (spec_EditText.j2 k x0 x1 x6 x7 x8 x9 true) else (spec_EditText.j2 k x0 x1 x6 x7 x8 x9 (decide (x9 < (x1.length : Int))))
def spec_EditText.j2 : Nat → List (S36) → List (S36) → List (List Int) → ByteArray → Int → Int → Bool → Option (ByteArray × Bool)
 | 0, _, _, _, _, _, _, _ => none
 | k + 1, x0, x1, x6, x7, x8, x9, x31 => if x31 = true then (if 0 ≤ x8 then (if x8 < (x6.length : Int) then (if 0 ≤ x9 then (if x9 < ((rd_L4 x6 x8).length : Int) then (if x9 < (x1.length : Int) then (if 0 ≤ (wrap64 (x9 + 1)) then (if (wrap64 (x9 + 1)) < ((rd_L4 x6 x8).length : Int) then (spec_EditText.j3 k x0 x1 x6 x7 x8 x9 (rd (rd_L4 x6 x8) x9) ((wrap64 ((rd (rd_L4 x6 x8) (wrap64 (x9 + 1))) + 2)) == (rd (rd_L4 x6 x8) x9))) else (none)) else (none)) else (spec_EditText.j3 k x0 x1 x6 x7 x8 x9 (rd (rd_L4 x6 x8) x9) false)) else (none)) else (none)) else (none)) else (none)) else (some (x7, true))
def spec_EditText.j3 : Nat → List (S36) → List (S36) → List (List Int) → ByteArray → Int → Int → Int → Bool → Option (ByteArray × Bool)
 | 0, _, _, _, _, _, _, _, _ => none
 | k + 1, x0, x1, x6, x7, x8, x9, x10, x45 => if x45 = true then (if x7.size + 1 ≤ 9223372036854775807 then (spec_EditText.l0 k x0 x1 x6 (x7 ++ (⟨#[105]⟩ : ByteArray)) x8 (wrap64 (x9 + 1))) else (none)) else (if x8 < (x0.length : Int) then (if x9 < (x1.length : Int) then (if 0 ≤ x8 then (if 0 ≤ x9 then (if (((rd_T36 x0 x8).f0) == ((rd_T36 x1 x9).f0) && (((rd_T36 x0 x8).f1) == ((rd_T36 x1 x9).f1))) = true then (if 0 ≤ (wrap64 (x8 + 1)) then (if (wrap64 (x8 + 1)) < (x6.length : Int) then (if 0 ≤ (wrap64 (x9 + 1)) then (if (wrap64 (x9 + 1)) < ((rd_L4 x6 (wrap64 (x8 + 1))).length : Int) then (spec_EditText.j4 k x0 x1 x6 x7 x8 x9 x10 ((rd (rd_L4 x6 (wrap64 (x8 + 1))) (wrap64 (x9 + 1))) == x10)) else (none)) else (none)) else (none)) else (none)) else (spec_EditText.j4 k x0 x1 x6 x7 x8 x9 x10 false)) else (none)) else (none)) else (spec_EditText.j4 k x0 x1 x6 x7 x8 x9 x10 false)) else (spec_EditText.j4 k x0 x1 x6 x7 x8 x9 x10 false))
def spec_EditText.j4 : Nat → List (S36) → List (S36) → List (List Int) → ByteArray → Int → Int → Int → Bool → Option (ByteArray × Bool)
 | 0, _, _, _, _, _, _, _, _ => none
 | k + 1, x0, x1, x6, x7, x8, x9, x10, x67 => if x67 = true then (if x7.size + 1 ≤ 9223372036854775807 then (spec_EditText.l0 k x0 x1 x6 (x7 ++ (⟨#[107]⟩ : ByteArray)) (wrap64 (x8 + 1)) (wrap64 (x9 + 1))) else (none)) else (if x8 < (x0.length : Int) then (if 0 ≤ (wrap64 (x8 + 1)) then (if (wrap64 (x8 + 1)) < (x6.length : Int) then (if 0 ≤ x9 then (if x9 < ((rd_L4 x6 (wrap64 (x8 + 1))).length : Int) then (if (wrap64 ((rd (rd_L4 x6 (wrap64 (x8 + 1))) x9) + 2)) = x10 then (if x7.size + 1 ≤ 9223372036854775807 then (spec_EditText.l0 k x0 x1 x6 (x7 ++ (⟨#[111]⟩ : ByteArray)) (wrap64 (x8 + 1)) x9) else (none)) else (if x7.size + 1 ≤ 9223372036854775807 then (spec_EditText.l0 k x0 x1 x6 (x7 ++ (⟨#[114]⟩ : ByteArray)) (wrap64 (x8 + 1)) (wrap64 (x9 + 1))) else (none))) else (none)) else (none)) else (none)) else (none)) else (if x7.size + 1 ≤ 9223372036854775807 then (spec_EditText.l0 k x0 x1 x6 (x7 ++ (⟨#[114]⟩ : ByteArray)) (wrap64 (x8 + 1)) (wrap64 (x9 + 1))) else (none)))
end
def spec_EditText.f (k : Nat) (l0 : List (S36)) (l1 : List (S36)) : Option (ByteArray × Bool) := (spec_MelodyValid.f k l0).bind fun t153 => (if t153 = true then ((spec_MelodyValid.f k l1).bind fun t154 => (spec_EditText.j0 k l0 l1 (!t154))) else (spec_EditText.j0 k l0 l1 true))
end Go.Proofs.Ythpeiboobnnfgaa.E
end
section
namespace Go.Proofs.Ythpeiboobnnfgaa.E
open Go.RowKit Go.Proofs.YthpeiboobnnfgaaW.PrintWords Go.Proofs.YthpeiboobnnfgaaW.PrintLast Go.Proofs.YthpeiboobnnfgaaW.PrintMore
attribute [local go_sem] max2_int min2_int max_two min_two max_three min_three max_four min_four
set_option linter.unusedVariables false
set_option linter.unusedSimpArgs false
attribute [local go_sem] en63_mk1 en63_mk2 en63_mk3 en63_mk4
attribute [local go_sem] str_leq_ str_gtr_ str_geq_
mutual
def impl_EditText.j0 : Nat → List (S36) → List (S36) → Bool → Option (ByteArray × Bool)
 | 0, _, _, _ => none
 | k + 1, x0, x1, x21 => if x21 = true then (some ((⟨#[]⟩ : ByteArray), false)) else ((impl_leastSums_costOf.f k x0 x1).bind fun t222 => (impl_EditText.l0 k x0 x1 t222 (([] : List Int)) 0 0))
def impl_EditText.l0 : Nat → List (S36) → List (S36) → List (List Int) → List Int → Int → Int → Option (ByteArray × Bool)
 | 0, _, _, _, _, _, _ => none
 | k + 1, x0, x1, x6, x7, x8, x9 => if x8 < (x0.length : Int) then (impl_EditText.j2 k x0 x1 x6 x7 x8 x9 true) else (impl_EditText.j2 k x0 x1 x6 x7 x8 x9 (decide (x9 < (x1.length : Int))))
def impl_EditText.j2 : Nat → List (S36) → List (S36) → List (List Int) → List Int → Int → Int → Bool → Option (ByteArray × Bool)
 | 0, _, _, _, _, _, _, _ => none
 | k + 1, x0, x1, x6, x7, x8, x9, x35 => if x35 = true then ((impl_allEdits.f).bind fun t228 => (impl_EditText.l1 k x0 x1 x6 x7 x8 x9 t228 (t228.length : Int) 0)) else (some (strOfNums x7, true))
def impl_EditText.l1 : Nat → List (S36) → List (S36) → List (List Int) → List Int → Int → Int → List Int → Int → Int → Option (ByteArray × Bool)
 | 0, _, _, _, _, _, _, _, _, _ => none
 | k + 1, x0, x1, x6, x7, x8, x9, x36, x37, x38 => if x38 < x37 then (if 0 ≤ x38 then (if x38 < (x36.length : Int) then (if 0 ≤ x8 then (if x8 ≤ (x0.length : Int) then (if 0 ≤ x9 then (if x9 ≤ (x1.length : Int) then ((impl_useOf.f k (rd x36 x38) (x0.drop (x8 : Int).toNat) (x1.drop (x9 : Int).toNat)).bind fun bt240 => (if bt240.2.2.2 = true then (if 0 ≤ (wrap64 (x8 + bt240.1)) then (if (wrap64 (x8 + bt240.1)) < (x6.length : Int) then (if 0 ≤ (wrap64 (x9 + bt240.2.1)) then (if (wrap64 (x9 + bt240.2.1)) < ((rd_L4 x6 (wrap64 (x8 + bt240.1))).length : Int) then (if x8 < (x6.length : Int) then (if x9 < ((rd_L4 x6 x8).length : Int) then (if (wrap64 (bt240.2.2.1 + (rd (rd_L4 x6 (wrap64 (x8 + bt240.1))) (wrap64 (x9 + bt240.2.1))))) = (rd (rd_L4 x6 x8) x9) then ((en63_letter.f (rd x36 x38)).bind fun t249 => (if x7.length < 140737488355328 then (impl_EditText.l0 k x0 x1 x6 (x7 ++ [t249]) (wrap64 (x8 + bt240.1)) (wrap64 (x9 + bt240.2.1))) else (none))) else (impl_EditText.l1 k x0 x1 x6 x7 x8 x9 x36 x37 (wrap64 (x38 + 1)))) else (none)) else (none)) else (none)) else (none)) else (none)) else (none)) else (impl_EditText.l1 k x0 x1 x6 x7 x8 x9 x36 x37 (wrap64 (x38 + 1))))) else (none)) else (none)) else (none)) else (none)) else (none)) else (none)) else (impl_EditText.l0 k x0 x1 x6 x7 x8 x9)
end
def impl_EditText.f (k : Nat) (l0 : List (S36)) (l1 : List (S36)) : Option (ByteArray × Bool) := (impl_MelodyValid.f k l0).bind fun t220 => (if t220 = true then ((impl_MelodyValid.f k l1).bind fun t221 => (impl_EditText.j0 k l0 l1 (!t221))) else (impl_EditText.j0 k l0 l1 true))
def impl_EditText.T10 : Bool × List (List Nat × List Nat) := (true, [([], []), ([], []), ([], []), ([1, 2], [1, 2]), ([], []), ([], []), ([4, 5], [4, 5]), ([0, 3, 6], [0, 3, 6]), ([7], [7]), ([8], [8]), ([8], [8]), ([], []), ([11, 9, 7, 0, 1, 2, 3, 4, 5, 6, 7, 8, 9, 11], [9, 11]), ([10, 12, 0, 1, 2, 3, 4, 5, 6, 7, 8, 9, 10, 11, 12], [10])])
def impl_EditText.B10 : List Nat := [0, 0, 0, 6, 0, 0, 48, 127, 255, 511, 511, 0, 3071, 8191]
def impl_EditText.T11 : Bool × List (List Nat × List Nat) := (true, [([], []), ([0], [0]), ([1], [1]), ([2, 1], [1, 2]), ([1], [1]), ([1], [1]), ([1], [1]), ([6, 1], [1, 6]), ([5, 7, 1], [1, 5, 7]), ([4, 8, 1], [1, 4, 8]), ([9, 1], [1, 9]), ([1], [1]), ([1], [1]), ([12, 1], [1, 12]), ([11, 13, 1], [1, 11, 13]), ([10, 14, 1], [1, 10, 14]), ([15, 1], [1, 15]), ([3, 16, 1], [1, 3, 16]), ([1], [1]), ([1], [1]), ([18, 19, 1], [1, 18, 19]), ([20, 1], [1, 20]), ([1], [1]), ([21, 22, 1], [1, 21, 22]), ([23, 1], [1, 23]), ([17, 24, 1], [1, 17, 24]), ([1, 25], [1, 25])])
def impl_EditText.B11 : List Nat := [0, 1, 3, 7, 3, 3, 3, 67, 227, 499, 1011, 3, 3, 4099, 14339, 32755, 65523, 131071, 3, 3, 786435, 1835011, 3, 8126467, 16515075, 33554431, 67108863]
def impl_EditText.T13 : Bool × List (List Nat × List Nat) := (true, [([], []), ([], []), ([1], [1]), ([0, 2], [0, 2]), ([], []), ([], []), ([5], [5]), ([4, 6], [4, 6]), ([3, 0, 1, 2, 3], [0, 3]), ([7, 8, 0, 1, 2, 3, 4, 5, 6, 7, 8], [4, 7])])
def impl_EditText.B13 : List Nat := [0, 0, 2, 7, 0, 0, 32, 112, 15, 511]
end Go.Proofs.Ythpeiboobnnfgaa.E
end
section
namespace Go.Proofs.Ythpeiboobnnfgaa.Pur
open Go.RowKit Go.Proofs.YthpeiboobnnfgaaW.PrintWords Go.Proofs.YthpeiboobnnfgaaW.PrintMore Go.Proofs.Ythpeiboobnnfgaa.E Go.Proofs.Ythpeiboobnnfgaa.Ed
def letterOf (xs ys : List Tn) : Int :=
  if (use1 xs ys).2.2.2 = true ∧ 2 + least costP xs (ys.drop 1) = least costP xs ys then 105
  else if (use2 xs ys).2.2.2 = true ∧ least costP (xs.drop 1) (ys.drop 1) = least costP xs ys then 107
  else if (use3 xs ys).2.2.2 = true ∧ 2 + least costP (xs.drop 1) ys = least costP xs ys then 111
  else 114
def txt : Nat → List Tn → List Tn → List Int
  | 0, _, _ => []
  | m + 1, xs, ys => if xs.length = 0 ∧ ys.length = 0 then [] else letterOf xs ys :: txt m (xs.drop (if letterOf xs ys = 105 then 0 else 1)) (ys.drop (if letterOf xs ys = 111 then 0 else 1))
end Go.Proofs.Ythpeiboobnnfgaa.Pur
end
section
namespace Go.Proofs.Ythpeiboobnnfgaa.Pur
open Go.RowKit Go.Proofs.YthpeiboobnnfgaaW.PrintWords Go.Proofs.YthpeiboobnnfgaaW.PrintMore Go.Proofs.Ythpeiboobnnfgaa.E Go.Proofs.Ythpeiboobnnfgaa.Ed
section
variable (a b : List Tn) (ha : a.length ≤ 24) (hb : b.length ≤ 24) {x : List (List Int)} (F : Full costP a b x)
include ha hb F
end
def txtOf (a b : List Tn) : ByteArray × Bool := if okM a = true ∧ okM b = true then (strOfNums (txt 48 a b), true) else (⟨#[]⟩, false)
end Go.Proofs.Ythpeiboobnnfgaa.Pur
end
section
namespace Go.Proofs.Ythpeiboobnnfgaa.E
open Go.RowKit Go.Proofs.YthpeiboobnnfgaaW.PrintWords Go.Proofs.YthpeiboobnnfgaaW.PrintLast Go.Proofs.YthpeiboobnnfgaaW.PrintMore
attribute [local go_sem] max2_int min2_int max_two min_two max_three min_three max_four min_four
set_option linter.unusedVariables false
set_option linter.unusedSimpArgs false
attribute [local go_sem] en63_mk1 en63_mk2 en63_mk3 en63_mk4
attribute [local go_sem] str_leq_ str_gtr_ str_geq_
def spec_l6Rd_of.f (k : Nat) (s0_0 : List Int) (s0_1 : Int) (l1 : List ByteArray) : Option (ByteArray × Int) := (spec_l6Rd_pick.f k s0_0 s0_1 (l1.length : Int)).bind fun bt441 => (if 0 ≤ bt441.1 then (if bt441.1 < (l1.length : Int) then (some (rdOf ByteArray.empty l1 bt441.1, bt441.2)) else (none)) else (none))
end Go.Proofs.Ythpeiboobnnfgaa.E
end
section
namespace Go.Proofs.Ythpeiboobnnfgaa.E
open Go.RowKit Go.Proofs.YthpeiboobnnfgaaW.PrintWords Go.Proofs.YthpeiboobnnfgaaW.PrintLast Go.Proofs.YthpeiboobnnfgaaW.PrintMore
attribute [local go_sem] max2_int min2_int max_two min_two max_three min_three max_four min_four
set_option linter.unusedVariables false
set_option linter.unusedSimpArgs false
attribute [local go_sem high] eqA36
attribute [local go_sem] en63_mk1 en63_mk2 en63_mk3 en63_mk4
attribute [local go_sem] str_leq_ str_gtr_ str_geq_
mutual
def spec_l92Aligned.l0 : Nat → List (S36) → List (S36) → ByteArray → Int → Int → List Int → Int → Option ((List (S36)) × (List (S36)) × ByteArray × Int)
 | 0, _, _, _, _, _, _, _ => none
 | k + 1, x5, x6, x9, x10, x11, x1000, x1001 => if x10 < (x5.length : Int) then (spec_l92Aligned.j1 k x5 x6 x9 x10 x11 true x1000 x1001) else (spec_l92Aligned.j1 k x5 x6 x9 x10 x11 (decide (x11 < (x6.length : Int))) x1000 x1001)
def spec_l92Aligned.j1 : Nat → List (S36) → List (S36) → ByteArray → Int → Int → Bool → List Int → Int → Option ((List (S36)) × (List (S36)) × ByteArray × Int)
 | 0, _, _, _, _, _, _, _, _ => none
 | k + 1, x5, x6, x9, x10, x11, x46, x1000, x1001 => if x46 = true then (if x11 = (x6.length : Int) then (spec_l92Aligned.j2 k x5 x6 x9 x10 x11 true x1000 x1001) else (if x10 < (x5.length : Int) then ((spec_l6Rd_pick.f k x1000 x1001 3).bind fun bt462 => (spec_l92Aligned.j2 k x5 x6 x9 x10 x11 (bt462.1 == 0) x1000 bt462.2)) else (spec_l92Aligned.j2 k x5 x6 x9 x10 x11 false x1000 x1001))) else (some (x5, x6, x9, x1001))
def spec_l92Aligned.j2 : Nat → List (S36) → List (S36) → ByteArray → Int → Int → Bool → List Int → Int → Option ((List (S36)) × (List (S36)) × ByteArray × Int)
 | 0, _, _, _, _, _, _, _, _ => none
 | k + 1, x5, x6, x9, x10, x11, x53, x1000, x1001 => if x53 = true then (if x9.size + 1 ≤ 9223372036854775807 then (spec_l92Aligned.l0 k x5 x6 (x9 ++ (⟨#[111]⟩ : ByteArray)) (wrap64 (x10 + 1)) x11 x1000 x1001) else (none)) else (if x10 = (x5.length : Int) then (spec_l92Aligned.j3 k x5 x6 x9 x10 x11 true x1000 x1001) else ((spec_l6Rd_pick.f k x1000 x1001 2).bind fun bt464 => (spec_l92Aligned.j3 k x5 x6 x9 x10 x11 (bt464.1 == 0) x1000 bt464.2)))
def spec_l92Aligned.j3 : Nat → List (S36) → List (S36) → ByteArray → Int → Int → Bool → List Int → Int → Option ((List (S36)) × (List (S36)) × ByteArray × Int)
 | 0, _, _, _, _, _, _, _, _ => none
 | k + 1, x5, x6, x9, x10, x11, x73, x1000, x1001 => if x73 = true then (if x9.size + 1 ≤ 9223372036854775807 then (spec_l92Aligned.l0 k x5 x6 (x9 ++ (⟨#[105]⟩ : ByteArray)) x10 (wrap64 (x11 + 1)) x1000 x1001) else (none)) else (if 0 ≤ x10 then (if x10 < (x5.length : Int) then (if 0 ≤ x11 then (if x11 < (x6.length : Int) then (if (((rd_T36 x5 x10).f0) == ((rd_T36 x6 x11).f0) && (((rd_T36 x5 x10).f1) == ((rd_T36 x6 x11).f1))) = true then (if x9.size + 1 ≤ 9223372036854775807 then (spec_l92Aligned.l0 k x5 x6 (x9 ++ (⟨#[107]⟩ : ByteArray)) (wrap64 (x10 + 1)) (wrap64 (x11 + 1)) x1000 x1001) else (none)) else (if x9.size + 1 ≤ 9223372036854775807 then (spec_l92Aligned.l0 k x5 x6 (x9 ++ (⟨#[114]⟩ : ByteArray)) (wrap64 (x10 + 1)) (wrap64 (x11 + 1)) x1000 x1001) else (none))) else (none)) else (none)) else (none)) else (none))
end
def spec_l92Aligned.f (k : Nat) (s0_0 : List Int) (s0_1 : Int) : Option ((List (S36)) × (List (S36)) × ByteArray × Int) := (spec_l92Edited.f k s0_0 s0_1).bind fun bt444 => ((spec_l6Rd_pick.f k s0_0 bt444.2.2 2).bind fun bt451 => (if bt451.1 = 0 then ((spec_EditText.f k bt444.1 bt444.2.1).bind fun bt453 => ((spec_l6Rd_pick.f k s0_0 bt451.2 6).bind fun bt455 => (if bt455.1 = 0 then ((spec_l6Rd_of.f k s0_0 bt455.2 (([(⟨#[107]⟩ : ByteArray), (⟨#[105]⟩ : ByteArray), (⟨#[120]⟩ : ByteArray)] : List ByteArray))).bind fun bt460 => (if bt453.1.size + bt460.1.size ≤ 9223372036854775807 then (some (bt444.1, bt444.2.1, bt453.1 ++ bt460.1, bt460.2)) else (none))) else (some (bt444.1, bt444.2.1, bt453.1, bt455.2))))) else (spec_l92Aligned.l0 k bt444.1 bt444.2.1 (⟨#[]⟩ : ByteArray) 0 0 s0_0 bt451.2)))
end Go.Proofs.Ythpeiboobnnfgaa.E
end
section
namespace Go.Proofs.Ythpeiboobnnfgaa.E
open Go.RowKit Go.Proofs.YthpeiboobnnfgaaW.PrintWords Go.Proofs.YthpeiboobnnfgaaW.PrintLast Go.Proofs.YthpeiboobnnfgaaW.PrintMore
attribute [local go_sem] max2_int min2_int max_two min_two max_three min_three max_four min_four
set_option linter.unusedVariables false
set_option linter.unusedSimpArgs false
attribute [local go_sem] en63_mk1 en63_mk2 en63_mk3 en63_mk4
attribute [local go_sem] str_leq_ str_gtr_ str_geq_
def spec_DrawEditSum.f (k : Nat) (l0 : List Int) : Option ((List (S36)) × (List (S36)) × ByteArray) := (spec_l6Open.f l0).bind fun bt468 => ((spec_l92Aligned.f k bt468.1 bt468.2).bind fun bt471 => (some (bt471.1, bt471.2.1, bt471.2.2.1)))
end Go.Proofs.Ythpeiboobnnfgaa.E
end
section
namespace Go.Proofs.Ythpeiboobnnfgaa.E
open Go.RowKit Go.Proofs.YthpeiboobnnfgaaW.PrintWords Go.Proofs.YthpeiboobnnfgaaW.PrintLast Go.Proofs.YthpeiboobnnfgaaW.PrintMore
attribute [local go_sem] max2_int min2_int max_two min_two max_three min_three max_four min_four
set_option linter.unusedVariables false
set_option linter.unusedSimpArgs false
attribute [local go_sem] en63_mk1 en63_mk2 en63_mk3 en63_mk4
attribute [local go_sem] str_leq_ str_gtr_ str_geq_
def spec_DrawEditText.f (k : Nat) (l0 : List Int) : Option ((List (S36)) × (List (S36))) := (spec_l6Open.f l0).bind fun bt495 => ((spec_l92Edited.f k bt495.1 bt495.2).bind fun bt498 => (some (bt498.1, bt498.2.1)))
end Go.Proofs.Ythpeiboobnnfgaa.E
end
section
namespace Go.Proofs.Ythpeiboobnnfgaa.E
open Go.RowKit Go.Proofs.YthpeiboobnnfgaaW.PrintWords Go.Proofs.YthpeiboobnnfgaaW.PrintLast Go.Proofs.YthpeiboobnnfgaaW.PrintMore
attribute [local go_sem] max2_int min2_int max_two min_two max_three min_three max_four min_four
set_option linter.unusedVariables false
set_option linter.unusedSimpArgs false
attribute [local go_sem] en63_mk1 en63_mk2 en63_mk3 en63_mk4
attribute [local go_sem] str_leq_ str_gtr_ str_geq_
def spec_DrawEditCost.f (k : Nat) (l0 : List Int) : Option ((List (S36)) × (List (S36))) := (spec_l6Open.f l0).bind fun bt525 => ((spec_l92Edited.f k bt525.1 bt525.2).bind fun bt528 => (some (bt528.1, bt528.2.1)))
end Go.Proofs.Ythpeiboobnnfgaa.E
end
section
namespace Go.Proofs.Ythpeiboobnnfgaa.Pur
open Go.RowKit Go.Proofs.YthpeiboobnnfgaaW.PrintWords Go.Proofs.YthpeiboobnnfgaaW.PrintMore Go.Proofs.Ythpeiboobnnfgaa.E Go.Proofs.Ythpeiboobnnfgaa.Ed
theorem edited_loop {B : List Int} (hB : okB B) (a : List Tn) (ha : a.length ≤ 12) : ∀ (d i : Nat) (acc : List Tn) (p : Int), i + d = a.length → acc.length ≤ 2 * i → 0 ≤ p → p ≤ 100000 + (i : Int) →
    EvP (fun k => spec_l92Edited.l0 k a acc (i : Int) B p) (fun r => r.1 = a ∧ r.2.1.length ≤ 24 ∧ 0 ≤ r.2.2 ∧ r.2.2 ≤ p + d) := by
  intro d
  induction d with
  | zero =>
    intro i acc p hi hacc hp0 hp1
    refine EvP.succ ?_
    simp only [spec_l92Edited.l0]
    exact EvP.no (by omega) (EvP.ret ⟨rfl, by dsimp only; omega, hp0, by dsimp only; omega⟩)
  | succ d ih =>
    intro i acc p hi hacc hp0 hp1
    refine EvP.succ ?_
    simp only [spec_l92Edited.l0]
    have ei : Hd (wrap64 ((i : Int) + 1) = ((i + 1 : Nat) : Int)) := ⟨w64 (by omega) (by omega)⟩
    refine EvP.yes (by omega) ?_
    refine EvP.bind (pick_ok hB p 8 (by omega) (by omega)) (fun r hr => ?_)
    rw [ei.out]
    have go : ∀ acc' : List Tn, acc'.length ≤ acc.length + 2 → EvP (fun k => spec_l92Edited.l0 k a acc' ((i + 1 : Nat) : Int) B r.2) (fun r => r.1 = a ∧ r.2.1.length ≤ 24 ∧ 0 ≤ r.2.2 ∧ r.2.2 ≤ p + (d + 1 : Nat)) := by
      intro acc' h
      exact (ih (i + 1) acc' r.2 (by omega) (by omega) (by omega) (by omega)).mono (fun r' h' => ⟨h'.1, h'.2.1, h'.2.2.1, by omega⟩)
    have i0 : (0 : Int) ≤ (i : Int) := by omega
    have room : acc.length < 8796093022208 := by omega
    refine EvP.ite (fun _ => go _ (by omega)) (fun _ => EvP.ite (fun _ => EvP.yes i0 ?_) (fun _ => EvP.ite (fun _ => EvP.yes i0 (EvP.yes room (go _ (by simp)))) (fun _ => EvP.ite (fun _ => EvP.yes i0 ?_) (fun _ => EvP.yes i0 (EvP.yes room (go _ (by simp)))))))
    · refine EvP.bind (P := fun y => y.length = 2) (EvP.con rfl rfl) (fun y hy => ?_)
      exact EvP.yes (by omega) (go _ (by simp; omega))
    · refine EvP.bind (P := fun _ => True) (EvP.con rfl trivial) (fun y _ => ?_)
      exact EvP.ite (fun _ => EvP.yes room (go _ (by simp))) (fun _ => EvP.yes room (go _ (by simp)))
theorem edited_ok {B : List Int} (hB : okB B) (p : Int) (hp : 0 ≤ p ∧ p ≤ 1000) : EvP (fun k => spec_l92Edited.f k B p) (fun r => r.1.length ≤ 24 ∧ r.2.1.length ≤ 24 ∧ 0 ≤ r.2.2 ∧ r.2.2 ≤ p + 100) := by
  unfold spec_l92Edited.f
  refine EvP.bind (melody_ok hB p 6 (by omega) (by omega)) (fun r hr => ?_)
  refine EvP.bind (pick_ok hB r.2 4 (by omega) (by omega)) (fun q hq => ?_)
  refine EvP.ite (fun _ => ?_) (fun _ => ?_)
  · refine EvP.bind (melody_ok hB q.2 6 (by omega) (by omega)) (fun s hs => ?_)
    exact EvP.ret ⟨by dsimp only; omega, by dsimp only; omega, hs.2.1, by dsimp only; omega⟩
  · refine (edited_loop hB r.1 (by omega) r.1.length 0 [] q.2 (by omega) (by simp) (by omega) (by omega)).mono (fun r' h => ⟨by rw [h.1]; omega, h.2.1, h.2.2.1, by omega⟩)
theorem draw_common (l : List Int) (h : ∀ x ∈ l, (Lit.int .u8 x).wf = true) : EvP (fun k => spec_DrawEditCommon.f k l) (fun r => r.1.length ≤ 24 ∧ r.2.length ≤ 24) := by
  unfold spec_DrawEditCommon.f
  refine EvP.bind (open_code l h) (fun r hr => ?_)
  refine EvP.bind (edited_ok hr.1 r.2 (by omega)) (fun q hq => EvP.ret ⟨hq.1, hq.2.1⟩)
end Go.Proofs.Ythpeiboobnnfgaa.Pur
end
section
namespace Go.Proofs.Ythpeiboobnnfgaa.E
open Go.RowKit Go.Proofs.YthpeiboobnnfgaaW.PrintWords Go.Proofs.YthpeiboobnnfgaaW.PrintLast Go.Proofs.YthpeiboobnnfgaaW.PrintMore
attribute [local go_sem] max2_int min2_int max_two min_two max_three min_three max_four min_four
set_option linter.unusedVariables false
set_option linter.unusedSimpArgs false
attribute [local go_sem] en63_mk1 en63_mk2 en63_mk3 en63_mk4
attribute [local go_sem] str_leq_ str_gtr_ str_geq_
def laws_szToneS.f (l0 : List (S48)) (a1 : Int) : Option (Int) := if (wrap64 (a1 - (l0.length : Int))) < 0 then (some (-1)) else (some (wrap64 (a1 - (l0.length : Int))))
end Go.Proofs.Ythpeiboobnnfgaa.E
end
section
namespace Go.Proofs.Ythpeiboobnnfgaa.E
open Go.RowKit Go.Proofs.YthpeiboobnnfgaaW.PrintWords Go.Proofs.YthpeiboobnnfgaaW.PrintLast Go.Proofs.YthpeiboobnnfgaaW.PrintMore
attribute [local go_sem] max2_int min2_int max_two min_two max_three min_three max_four min_four
set_option linter.unusedVariables false
set_option linter.unusedSimpArgs false
attribute [local go_sem] en63_mk1 en63_mk2 en63_mk3 en63_mk4
attribute [local go_sem] str_leq_ str_gtr_ str_geq_
def laws_toTone.f (a0_0 : Int) (a0_1 : Bool) : Option (Int × Bool) := some (a0_0, a0_1)
end Go.Proofs.Ythpeiboobnnfgaa.E
end
section
namespace Go.Proofs.Ythpeiboobnnfgaa.E
open Go.RowKit Go.Proofs.YthpeiboobnnfgaaW.PrintWords Go.Proofs.YthpeiboobnnfgaaW.PrintLast Go.Proofs.YthpeiboobnnfgaaW.PrintMore
attribute [local go_sem] max2_int min2_int max_two min_two max_three min_three max_four min_four
set_option linter.unusedVariables false
set_option linter.unusedSimpArgs false
attribute [local go_sem] en63_mk1 en63_mk2 en63_mk3 en63_mk4
attribute [local go_sem] str_leq_ str_gtr_ str_geq_
def laws_toToneS.l0 : Nat → List (S48) → List (S36) → Int → Option ((List (S36)))
 | 0, _, _, _ => none
 | k + 1, x0, x3, x4 => if x4 < (x0.length : Int) then (if 0 ≤ x4 then ((laws_toTone.f ((rd_T48 x0 x4).f0) ((rd_T48 x0 x4).f1)).bind fun bt108 => (if x4 < (x3.length : Int) then (laws_toToneS.l0 k x0 (x3.set (x4 : Int).toNat (⟨bt108.1, bt108.2⟩ : S36)) (wrap64 (x4 + 1))) else (none))) else (none)) else (some x3)
def laws_toToneS.f (k : Nat) (l0 : List (S48)) : Option ((List (S36))) := if 0 ≤ (l0.length : Int) then (if ((l0.length : Int) : Int).toNat ≤ 17592186044416 then (laws_toToneS.l0 k l0 (List.replicate ((l0.length : Int) : Int).toNat z36) 0) else (none)) else (none)
end Go.Proofs.Ythpeiboobnnfgaa.E
end
section
namespace Go.Proofs.Ythpeiboobnnfgaa.E
open Go.RowKit Go.Proofs.YthpeiboobnnfgaaW.PrintWords Go.Proofs.YthpeiboobnnfgaaW.PrintLast Go.Proofs.YthpeiboobnnfgaaW.PrintMore
attribute [local go_sem] max2_int min2_int max_two min_two max_three min_three max_four min_four
set_option linter.unusedVariables false
set_option linter.unusedSimpArgs false
attribute [local go_sem] en63_mk1 en63_mk2 en63_mk3 en63_mk4
attribute [local go_sem] str_leq_ str_gtr_ str_geq_
def laws_eqTone.f (a0_0 : Int) (a0_1 : Bool) (a1_0 : Int) (a1_1 : Bool) : Option (Bool) := if a0_0 = a1_0 then (if (a0_1 != a1_1) = true then (some false) else (some true)) else (some false)
end Go.Proofs.Ythpeiboobnnfgaa.E
end
section
namespace Go.Proofs.Ythpeiboobnnfgaa.E
open Go.RowKit Go.Proofs.YthpeiboobnnfgaaW.PrintWords Go.Proofs.YthpeiboobnnfgaaW.PrintLast Go.Proofs.YthpeiboobnnfgaaW.PrintMore
attribute [local go_sem] max2_int min2_int max_two min_two max_three min_three max_four min_four
set_option linter.unusedVariables false
set_option linter.unusedSimpArgs false
attribute [local go_sem] en63_mk1 en63_mk2 en63_mk3 en63_mk4
attribute [local go_sem] str_leq_ str_gtr_ str_geq_
def laws_eqToneS.l0 : Nat → List (S36) → List (S36) → Int → Option (Bool)
 | 0, _, _, _ => none
 | k + 1, x0, x1, x5 => if x5 < (x0.length : Int) then (if 0 ≤ x5 then (if x5 < (x1.length : Int) then ((laws_eqTone.f ((rd_T36 x0 x5).f0) ((rd_T36 x0 x5).f1) ((rd_T36 x1 x5).f0) ((rd_T36 x1 x5).f1)).bind fun t115 => (if t115 = true then (laws_eqToneS.l0 k x0 x1 (wrap64 (x5 + 1))) else (some false))) else (none)) else (none)) else (some true)
def laws_eqToneS.f (k : Nat) (l0 : List (S36)) (l1 : List (S36)) : Option (Bool) := if (l0.length : Int) = (l1.length : Int) then (laws_eqToneS.l0 k l0 l1 0) else (some false)
def laws_eqToneS.T6 : Bool × List (List Nat × List Nat) := (true, [([], []), ([], []), ([0, 1], [0, 1]), ([2], [2]), ([], []), ([], []), ([4, 5], [4, 5]), ([6], [6]), ([3, 7], [3, 7]), ([8], [8])])
def laws_eqToneS.B6 : List Nat := [0, 0, 3, 7, 0, 0, 48, 112, 255, 511]
end Go.Proofs.Ythpeiboobnnfgaa.E
end
section
namespace Go.Proofs.Ythpeiboobnnfgaa.Pur
open Go.RowKit Go.Proofs.YthpeiboobnnfgaaW.PrintWords Go.Proofs.Ythpeiboobnnfgaa.E
abbrev Tn' := S36
def cv (t : S48) : S36 := ⟨t.f0, t.f1⟩
end Go.Proofs.Ythpeiboobnnfgaa.Pur
end
section
namespace Go.Proofs.Ythpeiboobnnfgaa.E
open Go.RowKit Go.Proofs.YthpeiboobnnfgaaW.PrintWords Go.Proofs.YthpeiboobnnfgaaW.PrintLast Go.Proofs.YthpeiboobnnfgaaW.PrintMore
attribute [local go_sem] max2_int min2_int max_two min_two max_three min_three max_four min_four
set_option linter.unusedVariables false
set_option linter.unusedSimpArgs false
attribute [local go_sem] en63_mk1 en63_mk2 en63_mk3 en63_mk4
attribute [local go_sem] str_leq_ str_gtr_ str_geq_
def spec_EditCost.f (k : Nat) (l0 : List (S36)) (l1 : List (S36)) : Option (Int) := (spec_MelodyValid.f k l0).bind fun t518 => (if t518 = true then ((spec_MelodyValid.f k l1).bind fun t519 => (if t519 = true then ((spec_l7Costs.f k l0 l1).bind fun t520 => (if 0 < (t520.length : Int) then (if 0 < ((rd_L4 t520 0).length : Int) then (some (rd (rd_L4 t520 0) 0)) else (none)) else (none))) else (some (-1)))) else (some (-1)))
end Go.Proofs.Ythpeiboobnnfgaa.E
end
section
namespace Go.Proofs.Ythpeiboobnnfgaa.E
open Go.RowKit Go.Proofs.YthpeiboobnnfgaaW.PrintWords Go.Proofs.YthpeiboobnnfgaaW.PrintLast Go.Proofs.YthpeiboobnnfgaaW.PrintMore
attribute [local go_sem] max2_int min2_int max_two min_two max_three min_three max_four min_four
set_option linter.unusedVariables false
set_option linter.unusedSimpArgs false
attribute [local go_sem] en63_mk1 en63_mk2 en63_mk3 en63_mk4
attribute [local go_sem] str_leq_ str_gtr_ str_geq_
def laws_FnExactEditCost.f (k : Nat) (l0 : List (S48)) (l1 : List (S48)) : Option (Bool) := (laws_szToneS.f l0 1048576).bind fun t663 => (if t663 < 0 then (some true) else ((laws_szToneS.f l1 t663).bind fun t664 => (if t664 < 0 then (some true) else ((laws_toToneS.f k l0).bind fun t665 => ((laws_toToneS.f k l1).bind fun t668 => ((spec_EditCost.f k t665 t668).bind fun t671 => ((laws_toToneS.f k l0).bind fun t672 => ((laws_toToneS.f k l1).bind fun t675 => ((impl_EditCost.f k t672 t675).bind fun t678 => (if t678 = t671 then ((laws_toToneS.f k l0).bind fun t679 => ((laws_eqToneS.f k t672 t679).bind fun t682 => (if t682 = true then ((laws_toToneS.f k l1).bind fun t683 => ((laws_eqToneS.f k t675 t683).bind fun t686 => (if t686 = true then (some true) else (some false)))) else (some false)))) else (some false)))))))))))
end Go.Proofs.Ythpeiboobnnfgaa.E
end
section
namespace Go.Proofs.Ythpeiboobnnfgaa.Pur
open Go.RowKit Go.Proofs.YthpeiboobnnfgaaW.PrintWords Go.Proofs.Ythpeiboobnnfgaa.E Go.Proofs.Ythpeiboobnnfgaa.Ed
def costOf (a b : List Tn) : Int := if okM a = true ∧ okM b = true then least costP a b else -1
theorem okM_len {a : List Tn} (h : okM a = true) : a.length ≤ 24 := by
  unfold okM at h
  rw [Bool.and_eq_true] at h
  exact of_decide_eq_true h.2
theorem full_first {p : Pr Tn} {a b : List Tn} {x : List (List Int)} (F : Full p a b x) : 0 < (x.length : Int) ∧ 0 < ((rd_L4 x 0).length : Int) ∧ rd (rd_L4 x 0) 0 = least p a b := by
  have h1 := F.len
  have h2 : (rd_L4 x 0).length = b.length + 1 := F.row 0 (Nat.zero_le _)
  have h3 := F.told 0 0 (Nat.zero_le _) (Nat.zero_le _)
  exact ⟨by omega, by omega, h3⟩
theorem impl_cost (a b : List Tn) : EvP (fun k => impl_EditCost.f k a b) (· = costOf a b) := by
  unfold impl_EditCost.f costOf
  refine EvP.bind (P := (· = okM a)) (impl_melody a) (fun _ e => ?_)
  subst e
  refine EvP.ite (fun h1 => ?_) (fun h1 => EvP.ret (by rw [if_neg (fun h => h1 h.1)]))
  refine EvP.bind (P := (· = okM b)) (impl_melody b) (fun _ e => ?_)
  subst e
  refine EvP.ite (fun h2 => ?_) (fun h2 => EvP.ret (by rw [if_neg (fun h => h2 h.2)]))
  rw [if_pos ⟨h1, h2⟩]
  refine EvP.bind (impl_sums_costOf a b (okM_len h1) (okM_len h2)) (fun x F => ?_)
  obtain ⟨f1, f2, f3⟩ := full_first F
  exact EvP.yes f1 (EvP.yes f2 (EvP.ret f3))
end Go.Proofs.Ythpeiboobnnfgaa.Pur
end
section
namespace Go.Proofs.Ythpeiboobnnfgaa.Pur
open Go.RowKit Go.Proofs.YthpeiboobnnfgaaW.PrintWords Go.Proofs.YthpeiboobnnfgaaW.PrintMore Go.Proofs.Ythpeiboobnnfgaa.E Go.Proofs.Ythpeiboobnnfgaa.Ed
namespace LlessKept
theorem pay1 : impl_lessKept.f 1 0 1 2 = some commonP.ins := by simp [impl_lessKept.f, commonP]
theorem pay3 : impl_lessKept.f 3 1 0 2 = some commonP.om := by simp [impl_lessKept.f, commonP]
theorem pay2 (x y : Tn) (h : eqT x y = true) : impl_lessKept.f 2 1 1 0 = some (commonP.both x y) := by
  obtain rfl := (eqT_iff x y).mp h
  simp [impl_lessKept.f, commonP]
theorem pay4 (x y : Tn) (h : ¬ eqT x y = true) : impl_lessKept.f 4 1 1 (if x.f0 = y.f0 then 1 else 3) = some (commonP.both x y) := by
  unfold eqT at h
  by_cases h0 : x.f0 = y.f0
  · by_cases h1 : x.f1 = y.f1
    · simp [h0, h1] at h
    · simp [impl_lessKept.f, commonP, h0, h1]
  · simp [impl_lessKept.f, commonP, h0]
theorem bd (xs ys : List Tn) (hx : xs.length ≤ 24) (_hy : ys.length ≤ 24) : -24 ≤ least commonP xs ys ∧ least commonP xs ys ≤ 96 := by
  have := common_bd xs ys
  omega
theorem bdp (x y : Tn) : -1 ≤ commonP.both x y ∧ commonP.both x y ≤ 3 ∧ -1 ≤ commonP.ins ∧ commonP.ins ≤ 3 ∧ -1 ≤ commonP.om ∧ commonP.om ≤ 3 := by
  unfold commonP
  dsimp only
  split <;> (try split) <;> omega
def st (x : List (List Int)) (i k : Nat) : Option Int → List (List Int)
  | none => x
  | some u => putT x i k u
def comb : Option Int → Int → Int
  | none, v => v
  | some u, v => if v < u then v else u
section
variable (a b : List Tn) (ha : a.length ≤ 24) (hb : b.length ≤ 24) (Q : List (List Int) → Prop)
variable {x : List (List Int)} {i k : Nat} (D : Done commonP a b x i (k + 1)) (hi : i ≤ a.length) (hk : k ≤ b.length)
include ha hb D hi hk
omit ha hb hi hk in
theorem rows (m : Option Int) : (st x i k m).length = a.length + 1 ∧ (∀ j, i ≤ j → j ≤ a.length → (rd_L4 (st x i k m) (j : Int)).length = b.length + 1) := by
  cases m with
  | none => exact ⟨D.len, fun j hj hj' => D.row j hj hj'⟩
  | some u => exact ⟨by rw [st, putT_length]; exact D.len, fun j hj hj' => by rw [st, rd_RL, putT_RL]; exact D.row j hj hj'⟩
omit ha hb in
theorem reads (m : Option Int) (s1 s2 : Nat) (h1 : i + s1 ≤ a.length) (h2 : k + s2 ≤ b.length) (hne : s1 + s2 ≠ 0) : T (st x i k m) (i + s1) (k + s2) = least commonP (a.drop (i + s1)) (b.drop (k + s2)) := by
  have ht := D.told (i + s1) (k + s2) h1 h2 (by omega)
  cases m with
  | none => exact ht
  | some u =>
    rw [st, putT_T x i k _ _ u (by rw [D.len]; omega) (by rw [D.row i (Nat.le_refl _) hi]; omega), if_neg (by omega)]
    exact ht
omit ha hb D in
theorem skip (m : Option Int) (j : Nat) (hj : j < 4) (e : Int) (he : rd [1, 2, 3, 4] (j : Int) = e) (u : Int × Int × Int × Bool) (hu : EvP (fun n => impl_useOf.f n e (a.drop i) (b.drop k)) (· = u)) (ho : u.2.2.2 = false)
    (K : EvP (fun n => impl_leastSums_lessKept.l2 n a b (st x i k m) (i : Int) (k : Int) m.isSome [1, 2, 3, 4] (([1, 2, 3, 4] : List Int).length : Int) ((j + 1 : Nat) : Int)) Q) :
    EvP (fun n => impl_leastSums_lessKept.l2 n a b (st x i k m) (i : Int) (k : Int) m.isSome [1, 2, 3, 4] (([1, 2, 3, 4] : List Int).length : Int) (j : Int)) Q := by
  have hl : ([1, 2, 3, 4] : List Int).length = 4 := rfl
  refine EvP.succ ?_
  simp only [impl_leastSums_lessKept.l2]
  refine EvP.yes (by omega) (EvP.yes (by omega) (EvP.yes (by omega) (EvP.yes (by omega) (EvP.yes (by omega) (EvP.yes (by omega) (EvP.yes (by omega) ?_))))))
  rw [he]
  refine EvP.bind (P := (· = u)) hu (fun _ h => ?_)
  subst h
  refine EvP.no (by rw [ho]; simp) ?_
  rw [w64 (by omega) (by omega)]
  exact K
theorem take (m : Option Int) (j : Nat) (hj : j < 4) (e : Int) (he : rd [1, 2, 3, 4] (j : Int) = e) (s1 s2 : Nat) (c pay : Int) (hu : EvP (fun n => impl_useOf.f n e (a.drop i) (b.drop k)) (· = ((s1 : Int), (s2 : Int), c, true)))
    (h1 : i + s1 ≤ a.length) (h2 : k + s2 ≤ b.length) (hne : s1 + s2 ≠ 0) (hF : impl_lessKept.f e (s1 : Int) (s2 : Int) c = some pay) (hp : -1 ≤ pay ∧ pay ≤ 3)
    (K : EvP (fun n => impl_leastSums_lessKept.l2 n a b (st x i k (some (comb m (pay + least commonP (a.drop (i + s1)) (b.drop (k + s2)))))) (i : Int) (k : Int) true [1, 2, 3, 4] (([1, 2, 3, 4] : List Int).length : Int) ((j + 1 : Nat) : Int)) Q) :
    EvP (fun n => impl_leastSums_lessKept.l2 n a b (st x i k m) (i : Int) (k : Int) m.isSome [1, 2, 3, 4] (([1, 2, 3, 4] : List Int).length : Int) (j : Int)) Q := by
  have hl : ([1, 2, 3, 4] : List Int).length = 4 := rfl
  obtain ⟨hx, hr⟩ := rows a b D m
  have hri := hr i (Nat.le_refl _) hi
  have hrs := hr (i + s1) (by omega) h1
  have b1 := bd (a.drop (i + s1)) (b.drop (k + s2)) (by rw [drop_len]; omega) (by rw [drop_len]; omega)
  have hv : Hd (wrap64 (pay + rd (rd_L4 (st x i k m) ((i + s1 : Nat) : Int)) ((k + s2 : Nat) : Int)) = pay + least commonP (a.drop (i + s1)) (b.drop (k + s2))) := by
    refine Hd.mk ?_
    rw [rd_T, reads a b D hi hk m s1 s2 h1 h2 hne]
    exact w64 (by omega) (by omega)
  refine EvP.succ ?_
  simp only [impl_leastSums_lessKept.l2]
  refine EvP.yes (by omega) (EvP.yes (by omega) (EvP.yes (by omega) (EvP.yes (by omega) (EvP.yes (by omega) (EvP.yes (by omega) (EvP.yes (by omega) ?_))))))
  rw [he]
  refine EvP.bind (P := (· = ((s1 : Int), (s2 : Int), c, true))) hu (fun _ h => ?_)
  subst h
  refine EvP.yes rfl ?_
  refine EvP.bind (P := (· = pay)) (EvP.con hF rfl) (fun pay' h => ?_)
  subst h
  have e1 : wrap64 ((i : Int) + (s1 : Int)) = ((i + s1 : Nat) : Int) := w64 (by omega) (by omega)
  have e2 : Hd (wrap64 ((k : Int) + (s2 : Int)) = ((k + s2 : Nat) : Int)) := Hd.mk (by clear e1; exact w64 (by omega) (by omega))
  have ej : Hd (wrap64 ((j : Int) + 1) = ((j + 1 : Nat) : Int)) := Hd.mk (by clear e1; exact w64 (by omega) (by omega))
  simp only [e1, e2.out, hv.out, ej.out]
  clear e1 e2 ej hv
  refine EvP.yes (by omega) (EvP.yes (by omega) (EvP.yes (by omega) (EvP.yes (by omega) ?_)))
  cases m with
  | none =>
    refine EvP.no (by simp) (EvP.yes (by omega) (EvP.yes (by omega) ?_))
    exact K
  | some u =>
    refine EvP.yes rfl (EvP.yes (by omega) (EvP.yes (by omega) ?_))
    have hu' : rd (rd_L4 (st x i k (some u)) (i : Int)) (k : Int) = u := by
      rw [rd_T, st, putT_T x i k i k u (by rw [D.len]; omega) (by rw [D.row i (Nat.le_refl _) hi]; omega), if_pos ⟨rfl, rfl⟩]
    rw [hu']
    refine EvP.ite (fun h => ?_) (fun h => ?_)
    · unfold comb at K
      dsimp only at K
      rw [if_pos h] at K
      have ep : st x i k (some (pay' + least commonP (a.drop (i + s1)) (b.drop (k + s2)))) = putT (putT x i k u) i k (pay' + least commonP (a.drop (i + s1)) (b.drop (k + s2))) := (putT_put x i k u _).symm
      rw [ep] at K
      exact K
    · unfold comb at K
      dsimp only at K
      rw [if_neg h] at K
      exact K
theorem cell (next : ∀ x', Done commonP a b x' i k → EvP (fun n => impl_leastSums_lessKept.l1 n a b x' (i : Int) ((k : Int) - 1)) Q) :
    EvP (fun n => impl_leastSums_lessKept.l2 n a b x (i : Int) (k : Int) false [1, 2, 3, 4] (([1, 2, 3, 4] : List Int).length : Int) 0) Q := by
  have hl : ([1, 2, 3, 4] : List Int).length = 4 := rfl
  have fin : ∀ m, Done commonP a b (st x i k m) i k → EvP (fun n => impl_leastSums_lessKept.l2 n a b (st x i k m) (i : Int) (k : Int) m.isSome [1, 2, 3, 4] (([1, 2, 3, 4] : List Int).length : Int) ((4 : Nat) : Int)) Q := by
    intro m hm
    refine EvP.succ ?_
    simp only [impl_leastSums_lessKept.l2]
    refine EvP.no (by omega) ?_
    rw [w64 (by omega) (by omega)]
    exact next _ hm
  have put : ∀ v, v = least commonP (a.drop i) (b.drop k) → Done commonP a b (st x i k (some v)) i k := fun v hv => D.put hi hk hv
  obtain ⟨u1, u2, u3, u4⟩ := use_ok (a.drop i) (b.drop k)
  have s0 := skip a b Q hi hk (x := x)
  have t0 := take a b ha hb Q D hi hk
  show EvP (fun n => impl_leastSums_lessKept.l2 n a b (st x i k none) (i : Int) (k : Int) (none : Option Int).isSome [1, 2, 3, 4] (([1, 2, 3, 4] : List Int).length : Int) ((0 : Nat) : Int)) Q
  by_cases hia : i < a.length
  · have ea := drop_cons hia
    by_cases hkb : k < b.length
    · have eb := drop_cons hkb
      have bp := bdp a[i] b[k]
      have v1 : use1 (a.drop i) (b.drop k) = (((0 : Nat) : Int), ((1 : Nat) : Int), 2, true) := use1_true _ _ (by rw [drop_len]; omega)
      have v3 : use3 (a.drop i) (b.drop k) = (((1 : Nat) : Int), ((0 : Nat) : Int), 2, true) := use3_true _ _ (by rw [drop_len]; omega)
      rw [v1] at u1
      rw [v3] at u3
      refine t0 none 0 (by omega) 1 rfl 0 1 2 commonP.ins u1 (by omega) (by omega) (by omega) pay1 (by omega) ?_
      have least_is := least_cc commonP a[i] b[k] (a.drop (i + 1)) (b.drop (k + 1))
      rw [← ea, ← eb] at least_is
      by_cases he : eqT a[i] b[k] = true
      · have v2 : use2 (a.drop i) (b.drop k) = (((1 : Nat) : Int), ((1 : Nat) : Int), 0, true) := by rw [ea, eb]; simp [use2, he]
        have v4 : (use4 (a.drop i) (b.drop k)).2.2.2 = false := by rw [ea, eb]; simp [use4, he]
        rw [v2] at u2
        refine t0 (some _) 1 (by omega) 2 rfl 1 1 0 (commonP.both a[i] b[k]) u2 (by omega) (by omega) (by omega) (pay2 _ _ he) (by omega) ?_
        refine t0 (some _) 2 (by omega) 3 rfl 1 0 2 commonP.om u3 (by omega) (by omega) (by omega) pay3 (by omega) ?_
        refine s0 (some _) 3 (by omega) 4 rfl _ u4 v4 ?_
        refine fin (some _) (put _ ?_)
        rw [least_is]
        simp only [comb, Nat.add_zero]
        generalize least commonP (a.drop i) (b.drop (k + 1)) = p1
        generalize least commonP (a.drop (i + 1)) (b.drop (k + 1)) = p2
        generalize least commonP (a.drop (i + 1)) (b.drop k) = p3
        (repeat' split) <;> omega
      · have v2 : (use2 (a.drop i) (b.drop k)).2.2.2 = false := by rw [ea, eb]; simp [use2, he]
        have v4 : use4 (a.drop i) (b.drop k) = (((1 : Nat) : Int), ((1 : Nat) : Int), (if a[i].f0 = b[k].f0 then 1 else 3), true) := by
          rw [ea, eb, show use4 (a[i] :: a.drop (i + 1)) (b[k] :: b.drop (k + 1)) = if eqT a[i] b[k] = true then (0, 0, 0, false) else if a[i].f0 = b[k].f0 then (1, 1, 1, true) else (1, 1, 3, true) from rfl, if_neg he]
          split <;> rfl
        rw [v4] at u4
        refine s0 (some _) 1 (by omega) 2 rfl _ u2 v2 ?_
        refine t0 (some _) 2 (by omega) 3 rfl 1 0 2 commonP.om u3 (by omega) (by omega) (by omega) pay3 (by omega) ?_
        refine t0 (some _) 3 (by omega) 4 rfl 1 1 _ (commonP.both a[i] b[k]) u4 (by omega) (by omega) (by omega) (pay4 _ _ he) (by omega) ?_
        refine fin (some _) (put _ ?_)
        rw [least_is]
        simp only [comb, Nat.add_zero]
        generalize least commonP (a.drop i) (b.drop (k + 1)) = p1
        generalize least commonP (a.drop (i + 1)) (b.drop (k + 1)) = p2
        generalize least commonP (a.drop (i + 1)) (b.drop k) = p3
        (repeat' split) <;> omega
    · have eb : b.drop k = [] := List.drop_of_length_le (by omega)
      have bp := bdp a[i] a[i]
      have v1 : (use1 (a.drop i) (b.drop k)).2.2.2 = false := use1_false _ _ (by rw [drop_len]; omega)
      have v2 : (use2 (a.drop i) (b.drop k)).2.2.2 = false := by rw [eb, ea]; simp [use2]
      have v3 : use3 (a.drop i) (b.drop k) = (((1 : Nat) : Int), ((0 : Nat) : Int), 2, true) := use3_true _ _ (by rw [drop_len]; omega)
      have v4 : (use4 (a.drop i) (b.drop k)).2.2.2 = false := by rw [eb, ea]; simp [use4]
      rw [v3] at u3
      refine s0 none 0 (by omega) 1 rfl _ u1 v1 ?_
      refine s0 none 1 (by omega) 2 rfl _ u2 v2 ?_
      refine t0 none 2 (by omega) 3 rfl 1 0 2 commonP.om u3 (by omega) (by omega) (by omega) pay3 (by omega) ?_
      refine s0 (some _) 3 (by omega) 4 rfl _ u4 v4 ?_
      refine fin (some _) (put _ ?_)
      simp only [comb, Nat.add_zero]
      rw [eb, ea, least_cn]
  · have ea : a.drop i = [] := List.drop_of_length_le (by omega)
    have v2 : (use2 (a.drop i) (b.drop k)).2.2.2 = false := by rw [ea]; simp [use2]
    have v3 : (use3 (a.drop i) (b.drop k)).2.2.2 = false := use3_false _ _ (by rw [drop_len]; omega)
    have v4 : (use4 (a.drop i) (b.drop k)).2.2.2 = false := by rw [ea]; simp [use4]
    by_cases hkb : k < b.length
    · have eb := drop_cons hkb
      have bp := bdp b[k] b[k]
      have v1 : use1 (a.drop i) (b.drop k) = (((0 : Nat) : Int), ((1 : Nat) : Int), 2, true) := use1_true _ _ (by rw [drop_len]; omega)
      rw [v1] at u1
      refine t0 none 0 (by omega) 1 rfl 0 1 2 commonP.ins u1 (by omega) (by omega) (by omega) pay1 (by omega) ?_
      refine s0 (some _) 1 (by omega) 2 rfl _ u2 v2 ?_
      refine s0 (some _) 2 (by omega) 3 rfl _ u3 v3 ?_
      refine s0 (some _) 3 (by omega) 4 rfl _ u4 v4 ?_
      refine fin (some _) (put _ ?_)
      simp only [comb, Nat.add_zero]
      rw [ea, eb, least_nc]
    · have eb : b.drop k = [] := List.drop_of_length_le (by omega)
      have v1 : (use1 (a.drop i) (b.drop k)).2.2.2 = false := use1_false _ _ (by rw [drop_len]; omega)
      refine s0 none 0 (by omega) 1 rfl _ u1 v1 ?_
      refine s0 none 1 (by omega) 2 rfl _ u2 v2 ?_
      refine s0 none 2 (by omega) 3 rfl _ u3 v3 ?_
      refine s0 none 3 (by omega) 4 rfl _ u4 v4 ?_
      refine fin none ?_
      obtain rfl : i = a.length := by omega
      obtain rfl : k = b.length := by omega
      exact D.stay
end
section
variable (a b : List Tn) (ha : a.length ≤ 24) (hb : b.length ≤ 24) (Q : List (List Int) → Prop)
include ha hb
theorem row (i : Nat) (hi : i ≤ a.length) (next : ∀ x, Done commonP a b x i 0 → EvP (fun n => impl_leastSums_lessKept.l0 n a b x (wrap64 ((i : Int) - 1))) Q) :
    ∀ k1 : Nat, k1 ≤ b.length + 1 → ∀ x, Done commonP a b x i k1 → EvP (fun n => impl_leastSums_lessKept.l1 n a b x (i : Int) ((k1 : Int) - 1)) Q := by
  intro k1
  induction k1 with
  | zero =>
    intro _ x D
    refine EvP.succ ?_
    simp only [impl_leastSums_lessKept.l1]
    exact EvP.no (by omega) (next x D)
  | succ k ih =>
    intro hk x D
    have ek : (((k + 1 : Nat) : Int) - 1) = (k : Int) := by omega
    rw [ek]
    refine EvP.succ ?_
    simp only [impl_leastSums_lessKept.l1]
    refine EvP.yes (by omega) ?_
    refine EvP.bind (P := (· = [1, 2, 3, 4])) (EvP.con rfl rfl) (fun _ h => ?_)
    subst h
    exact cell a b ha hb Q D hi (by omega) (fun x' D' => ih (by omega) x' D')
theorem lines (hQ : ∀ x, Full commonP a b x → Q x) :
    ∀ i1 : Nat, i1 ≤ a.length + 1 → ∀ x, x.length = a.length + 1 → (∀ j, i1 ≤ j → j ≤ a.length → RL x j = b.length + 1) → (∀ j l, j ≤ a.length → l ≤ b.length → i1 ≤ j → T x j l = least commonP (a.drop j) (b.drop l)) →
      EvP (fun n => impl_leastSums_lessKept.l0 n a b x ((i1 : Int) - 1)) Q := by
  intro i1
  induction i1 with
  | zero =>
    intro _ x hx hr ht
    refine EvP.succ ?_
    simp only [impl_leastSums_lessKept.l0]
    refine EvP.no (by omega) ?_
    exact (EvP.ret (hQ x ⟨hx, fun j hj => hr j (Nat.zero_le _) hj, fun j l hj hl => ht j l hj hl (Nat.zero_le _)⟩))
  | succ i ih =>
    intro hi x hx hr ht
    have ei : (((i + 1 : Nat) : Int) - 1) = (i : Int) := by omega
    have eb : wrap64 ((b.length : Int) + 1) = ((b.length + 1 : Nat) : Int) := w64 (by omega) (by omega)
    rw [ei]
    refine EvP.succ ?_
    simp only [impl_leastSums_lessKept.l0]
    refine EvP.yes (by omega) ?_
    rw [eb]
    refine EvP.yes (by omega) (EvP.yes (by omega) (EvP.yes (by omega) (EvP.yes (by omega) ?_)))
    have D : Done commonP a b (x.set i (List.replicate (b.length + 1) 0)) i (b.length + 1) := Done.new hx (fun j hj hj' => hr j (by omega) hj') (fun j l hj hl hij => ht j l hj hl (by omega)) (by omega)
    have eb' : (((b.length + 1 : Nat) : Int) - 1) = (b.length : Int) := by omega
    have := row a b ha hb Q i (by omega) (fun x' D' => by
      rw [w64 (by omega) (by omega)]
      exact ih (by omega) x' D'.len (fun j hj hj' => D'.row j (by omega) hj') (fun j l hj hl hij => D'.told j l hj hl (by omega))) (b.length + 1) (Nat.le_refl _) _ D
    rw [eb'] at this
    exact this
end
end LlessKept
theorem impl_sums_lessKept (a b : List Tn) (ha : a.length ≤ 24) (hb : b.length ≤ 24) : EvP (fun n => impl_leastSums_lessKept.f n a b) (Full commonP a b) := by
  unfold impl_leastSums_lessKept.f
  have ea : wrap64 ((a.length : Int) + 1) = ((a.length + 1 : Nat) : Int) := w64 (by omega) (by omega)
  rw [ea]
  refine EvP.yes (by omega) (EvP.yes (by omega) ?_)
  have := LlessKept.lines a b ha hb (Full commonP a b) (fun _ h => h) (a.length + 1) (Nat.le_refl _) (List.replicate (a.length + 1) []) (by simp) (fun j hj hj' => by omega) (fun j l hj hl hij => by omega)
  rw [show (((a.length + 1 : Nat) : Int) - 1) = (a.length : Int) by omega] at this
  exact this
end Go.Proofs.Ythpeiboobnnfgaa.Pur
end
section
namespace Go.Proofs.Ythpeiboobnnfgaa.E
open Go.RowKit Go.Proofs.YthpeiboobnnfgaaW.PrintWords Go.Proofs.YthpeiboobnnfgaaW.PrintLast Go.Proofs.YthpeiboobnnfgaaW.PrintMore
attribute [local go_sem] max2_int min2_int max_two min_two max_three min_three max_four min_four
set_option linter.unusedVariables false
set_option linter.unusedSimpArgs false
attribute [local go_sem] en63_mk1 en63_mk2 en63_mk3 en63_mk4
attribute [local go_sem] str_leq_ str_gtr_ str_geq_
def laws_FnExactEditCommon.f (k : Nat) (l0 : List (S48)) (l1 : List (S48)) : Option (Bool) := (laws_szToneS.f l0 1048576).bind fun t639 => (if t639 < 0 then (some true) else ((laws_szToneS.f l1 t639).bind fun t640 => (if t640 < 0 then (some true) else ((laws_toToneS.f k l0).bind fun t641 => ((laws_toToneS.f k l1).bind fun t644 => ((spec_EditCommon.f k t641 t644).bind fun t647 => ((laws_toToneS.f k l0).bind fun t648 => ((laws_toToneS.f k l1).bind fun t651 => ((impl_EditCommon.f k t648 t651).bind fun t654 => (if t654 = t647 then ((laws_toToneS.f k l0).bind fun t655 => ((laws_eqToneS.f k t648 t655).bind fun t658 => (if t658 = true then ((laws_toToneS.f k l1).bind fun t659 => ((laws_eqToneS.f k t651 t659).bind fun t662 => (if t662 = true then (some true) else (some false)))) else (some false)))) else (some false)))))))))))
end Go.Proofs.Ythpeiboobnnfgaa.E
end
section
namespace Go.Proofs.Ythpeiboobnnfgaa.Pur
open Go.RowKit Go.Proofs.YthpeiboobnnfgaaW.PrintWords Go.Proofs.YthpeiboobnnfgaaW.PrintMore Go.Proofs.Ythpeiboobnnfgaa.E Go.Proofs.Ythpeiboobnnfgaa.Ed
theorem okM_24 {a : List Tn} (h : okM a = true) : a.length ≤ 24 := by
  unfold okM at h
  rw [Bool.and_eq_true] at h
  exact of_decide_eq_true h.2
theorem full_one {p : Pr Tn} {a b : List Tn} {x : List (List Int)} (F : Full p a b x) : 0 < (x.length : Int) ∧ 0 < ((rd_L4 x 0).length : Int) ∧ rd (rd_L4 x 0) 0 = least p a b := by
  have h1 := F.len
  have h2 : (rd_L4 x 0).length = b.length + 1 := F.row 0 (Nat.zero_le _)
  have h3 := F.told 0 0 (Nat.zero_le _) (Nat.zero_le _)
  exact ⟨by omega, by omega, h3⟩
def com (a b : List Tn) : Int := -least commonP a b
theorem com_bd (a b : List Tn) : 0 ≤ com a b ∧ com a b ≤ a.length := by have := common_bd a b; unfold com; omega
theorem com_nil (a : List Tn) : com a [] = 0 := by unfold com; rw [least_nil']; simp [commonP]
theorem nil_com (b : List Tn) : com [] b = 0 := by unfold com; rw [least_nil]; simp [commonP]
theorem com_snoc (x y : Tn) (a b : List Tn) : com (a ++ [x]) (b ++ [y]) = (if eqT x y = true then max (max (com (a ++ [x]) b) (com a (b ++ [y]))) (com a b + 1) else max (com (a ++ [x]) b) (com a (b ++ [y]))) := by
  unfold com
  rw [least_snoc]
  have c1 : commonP.ins = 0 := rfl
  have c2 : commonP.om = 0 := rfl
  have h1 : least commonP a (b ++ [y]) ≤ least commonP a b := by
    have := ((Al.least commonP a b).append (Al.ins y (Al.nil (p := commonP)))).le
    rw [List.append_nil, c1] at this
    omega
  rw [c1, c2]
  by_cases h : eqT x y = true
  · have := (eqT_iff x y).mp h
    rw [if_pos h, this, commonC.same]
    omega
  · rw [if_neg h, commonC.differ x y (fun e => h ((eqT_iff x y).mpr e))]
    omega
structure RowTo (a b : List Tn) (i m : Nat) (xs : List Int) : Prop where
  len : xs.length = b.length + 1
  told : ∀ j, j ≤ m → xs.getD j 0 = com (a.take i) (b.take j)
theorem rd_nat (xs : List Int) (j : Nat) : rd xs (j : Int) = xs.getD j 0 := rfl
theorem take_snoc' {l : List Tn} {i : Nat} (h : i < l.length) : l.take (i + 1) = l.take i ++ [l[i]] := List.take_succ_eq_append_getElem h
section
variable (a b : List Tn) (ha : a.length ≤ 24) (hb : b.length ≤ 24) (Q : Int → Prop)
include ha hb
theorem common_line (i : Nat) (hi : i < a.length) (now : List Int) (R : RowTo a b i b.length now) (next : ∀ xs, RowTo a b (i + 1) b.length xs → EvP (fun n => spec_EditCommon.l0 n a b xs (wrap64 ((i : Int) + 1))) Q) :
    ∀ d k : Nat, k + d = b.length → ∀ xs, RowTo a b (i + 1) k xs → EvP (fun n => spec_EditCommon.l1 n a b now (i : Int) xs (k : Int)) Q := by
  intro d
  induction d with
  | zero =>
    intro k hk xs X
    refine EvP.succ ?_
    simp only [spec_EditCommon.l1]
    refine EvP.no (by omega) (next xs ?_)
    obtain rfl : k = b.length := by omega
    exact X
  | succ d ih =>
    intro k hk xs X
    have hkb : k < b.length := by omega
    have hx := X.len
    have hn := R.len
    have ek : wrap64 ((k : Int) + 1) = ((k + 1 : Nat) : Int) := w64 (by omega) (by omega)
    have t1 := X.told k (Nat.le_refl _)
    have t2 := R.told (k + 1) (by omega)
    have t3 := R.told k (by omega)
    have b3 := com_bd (a.take i) (b.take k)
    rw [List.length_take] at b3
    have ta := take_snoc' hi
    have tb := take_snoc' hkb
    have cs := com_snoc a[i] b[k] (a.take i) (b.take k)
    rw [← ta, ← tb] at cs
    refine EvP.succ ?_
    simp only [spec_EditCommon.l1]
    simp only [ek]
    clear ek
    refine EvP.yes (by omega) (EvP.yes (by omega) (EvP.yes (by omega) (EvP.yes (by omega) (EvP.yes (by omega) (EvP.yes (by omega) ?_)))))
    refine EvP.bind (P := (· = xs.set (k + 1) (max (com (a.take (i + 1)) (b.take k)) (com (a.take i) (b.take (k + 1)))))) (EvP.con rfl ?_) (fun ys e => ?_)
    · rw [rd_nat, rd_nat, t1, t2, mx_max]
      rfl
    · subst e
      refine EvP.yes (by omega) (EvP.yes (by omega) ?_)
      rw [rdT_getElem hi, rdT_getElem hkb]
      have hset : ∀ v : Int, (∀ j, j ≤ k + 1 → (xs.set (k + 1) v).getD j 0 = if j = k + 1 then v else xs.getD j 0) := by
        intro v j hj
        rw [getD_set]
        by_cases h : j = k + 1
        · rw [if_pos ⟨h.symm, by omega⟩, if_pos h]
        · rw [if_neg (fun h' => h h'.1.symm), if_neg h]
      show EvP (fun n => if eqT a[i] b[k] = true then _ else _) _
      refine EvP.ite (fun he => ?_) (fun he => ?_)
      · rw [if_pos he] at cs
        refine EvP.yes (by omega) ?_
        refine ih (k + 1) (by omega) _ ⟨by simpa using hx, fun j hj => ?_⟩
        rw [rd_nat, rd_nat, t3, mx_max, toNat_nat, List.set_set, hset _ j hj, hset _ (k + 1) (Nat.le_refl _), if_pos rfl, w64 (by omega) (by omega)]
        by_cases h : j = k + 1
        · rw [if_pos h, h, cs]
        · rw [if_neg h]; exact X.told j (by omega)
      · rw [if_neg he] at cs
        refine ih (k + 1) (by omega) _ ⟨by simpa using hx, fun j hj => ?_⟩
        rw [hset _ j hj]
        by_cases h : j = k + 1
        · rw [if_pos h, h, cs]
        · rw [if_neg h]; exact X.told j (by omega)
theorem common_lines (hQ : Q (com a b)) : ∀ d i : Nat, i + d = a.length → ∀ now, RowTo a b i b.length now → EvP (fun n => spec_EditCommon.l0 n a b now (i : Int)) Q := by
  intro d
  induction d with
  | zero =>
    intro i hi now R
    have hn := R.len
    have t := R.told b.length (Nat.le_refl _)
    rw [List.take_of_length_le (by omega), List.take_of_length_le (Nat.le_refl _)] at t
    refine EvP.succ ?_
    simp only [spec_EditCommon.l0]
    refine EvP.no (by omega) (EvP.yes (by omega) (EvP.yes (by omega) (EvP.ret ?_)))
    rw [rd_nat, t]
    exact hQ
  | succ d ih =>
    intro i hi now R
    have eb : wrap64 ((b.length : Int) + 1) = ((b.length + 1 : Nat) : Int) := w64 (by omega) (by omega)
    refine EvP.succ ?_
    simp only [spec_EditCommon.l0]
    simp only [eb]
    clear eb
    refine EvP.yes (by omega) (EvP.yes (by omega) (EvP.yes (by omega) ?_))
    refine common_line a b ha hb Q i (by omega) now R (fun xs X => ?_) b.length 0 (by omega) _ ⟨by simp, fun j hj => ?_⟩
    · rw [w64 (by omega) (by omega)]
      exact ih (i + 1) (by omega) xs X
    · obtain rfl : j = 0 := by omega
      rw [List.take_zero, com_nil]
      simp
end
def commonOf (a b : List Tn) : Int := if okM a = true ∧ okM b = true then com a b else -1
theorem spec_common (a b : List Tn) (ha : a.length < 9223372036854775807) (hb : b.length < 9223372036854775807) : EvP (fun k => spec_EditCommon.f k a b) (· = commonOf a b) := by
  unfold spec_EditCommon.f commonOf
  have jt : ∀ v : Int, v = -1 → EvP (fun k => spec_EditCommon.j0 k a b true) (· = v) := by
    intro v hv
    refine EvP.succ ?_
    simp only [spec_EditCommon.j0]
    exact EvP.yes (by simp) (EvP.ret hv.symm)
  refine EvP.bind (P := (· = okM a)) (spec_melody a ha) (fun _ e => ?_)
  subst e
  refine EvP.ite (fun h1 => ?_) (fun h1 => jt _ (by rw [if_neg (fun h => h1 h.1)]))
  refine EvP.bind (P := (· = okM b)) (spec_melody b hb) (fun _ e => ?_)
  subst e
  by_cases h2 : okM b = true
  · rw [if_pos ⟨h1, h2⟩, h2]
    have la := okM_24 h1
    have lb := okM_24 h2
    have eb : wrap64 ((b.length : Int) + 1) = ((b.length + 1 : Nat) : Int) := w64 (by omega) (by omega)
    refine EvP.succ ?_
    simp only [spec_EditCommon.j0, Bool.not_true]
    simp only [eb]
    clear eb
    refine EvP.no (by simp) (EvP.yes (by omega) (EvP.yes (by omega) ?_))
    refine common_lines a b la lb (· = com a b) rfl a.length 0 (by omega) _ ⟨by simp, fun j hj => ?_⟩
    rw [List.take_zero, nil_com]
    simp [List.getD_eq_getElem?_getD, List.getElem?_replicate]
    split <;> rfl
  · rw [Bool.eq_false_iff.mpr h2]
    exact jt _ (by rw [if_neg (fun h => Bool.noConfusion h.2)])
theorem impl_common (a b : List Tn) : EvP (fun k => impl_EditCommon.f k a b) (· = commonOf a b) := by
  unfold impl_EditCommon.f commonOf
  refine EvP.bind (P := (· = okM a)) (impl_melody a) (fun _ e => ?_)
  subst e
  refine EvP.ite (fun h1 => ?_) (fun h1 => EvP.ret (by rw [if_neg (fun h => h1 h.1)]))
  refine EvP.bind (P := (· = okM b)) (impl_melody b) (fun _ e => ?_)
  subst e
  refine EvP.ite (fun h2 => ?_) (fun h2 => EvP.ret (by rw [if_neg (fun h => h2 h.2)]))
  rw [if_pos ⟨h1, h2⟩]
  have la := okM_24 h1
  refine EvP.bind (impl_sums_lessKept a b la (okM_24 h2)) (fun x F => ?_)
  obtain ⟨f1, f2, f3⟩ := full_one F
  refine EvP.yes f1 (EvP.yes f2 (EvP.ret ?_))
  have := common_bd a b
  rw [f3, w64 (by omega) (by omega)]
  rfl
end Go.Proofs.Ythpeiboobnnfgaa.Pur
end
section
namespace Go.Proofs.Ythpeiboobnnfgaa.Pur
open Go.RowKit Go.Proofs.YthpeiboobnnfgaaW.PrintWords Go.Proofs.YthpeiboobnnfgaaW.PrintMore Go.Proofs.Ythpeiboobnnfgaa.E Go.Proofs.Ythpeiboobnnfgaa.Ed
instance : DecidableEq Tn := fun a b => decidable_of_iff (eqT a b = true) (eqT_iff a b)
theorem cost_ok {a b : List Tn} (h : okM a = true) (h' : okM b = true) : costOf a b = least costP a b := by unfold costOf; rw [if_pos ⟨h, h'⟩]
theorem ok_of_common {a b : List Tn} (h : ¬ commonOf a b < 0) : okM a = true ∧ okM b = true := by
  unfold commonOf at h
  by_cases h' : okM a = true ∧ okM b = true
  · exact h'
  · rw [if_neg h'] at h; omega
theorem common_ok {a b : List Tn} (h : okM a = true) (h' : okM b = true) : commonOf a b = com a b := by unfold commonOf; rw [if_pos ⟨h, h'⟩]
theorem okM_iff {a : List Tn} : okM a = true ↔ (∀ t ∈ a, okT t = true) ∧ a.length ≤ 24 := by
  unfold okM
  rw [Bool.and_eq_true, List.all_eq_true, decide_eq_true_iff]
theorem okM_rev {a : List Tn} (h : okM a = true) : okM a.reverse = true := by
  have := okM_iff.mp h
  exact okM_iff.mpr ⟨fun x hx => this.1 x (List.mem_reverse.mp hx), by rw [List.length_reverse]; exact this.2⟩
theorem cost_big {a b : List Tn} (h : okM a = true) (h' : okM b = true) : 0 ≤ least costP a b ∧ least costP a b ≤ 96 := by
  have h1 := cost_bd a b
  have h2 := okM_len h
  have h3 := okM_len h'
  omega
theorem back_loop (a : List Tn) (ha : a.length ≤ 24) : ∀ (d i : Nat) (x : List Tn), i + d = a.length → x.length = a.length → (∀ j, j < i → x[a.length - 1 - j]? = a[j]?) →
    EvP (fun k => impl_MelodyBack.l0 k a x a (a.length : Int) (i : Int)) (· = (a.reverse, true)) := by
  intro d
  induction d with
  | zero =>
    intro i x hi hx ht
    refine EvP.succ ?_
    simp only [impl_MelodyBack.l0]
    refine EvP.no (by omega) (EvP.ret ?_)
    have : x = a.reverse := by
      refine List.ext_getElem? (fun j => ?_)
      by_cases hj : j < a.length
      · rw [List.getElem?_reverse hj]
        have := ht (a.length - 1 - j) (by omega)
        rw [show a.length - 1 - (a.length - 1 - j) = j by omega] at this
        exact this
      · rw [List.getElem?_eq_none (by omega), List.getElem?_eq_none (by rw [List.length_reverse]; omega)]
    rw [this]
  | succ d ih =>
    intro i x hi hx ht
    have hlt : i < a.length := by omega
    have e1 : wrap64 ((wrap64 ((a.length : Int) - 1)) - (i : Int)) = ((a.length - 1 - i : Nat) : Int) := by rw [w64 (i := (a.length : Int) - 1) (by omega) (by omega), w64 (by omega) (by omega)]; omega
    have e2 : Hd (wrap64 ((i : Int) + 1) = ((i + 1 : Nat) : Int)) := ⟨w64 (by omega) (by omega)⟩
    refine EvP.succ ?_
    simp only [impl_MelodyBack.l0, e1]
    clear e1
    refine EvP.yes (by omega) (EvP.yes (by omega) (EvP.yes (by omega) (EvP.yes (by omega) (EvP.yes (by omega) ?_))))
    rw [e2.out, rdT_lt hlt, toNat_nat]
    refine ih (i + 1) _ (by omega) (by simpa using hx) (fun j hj => ?_)
    rw [List.getElem?_set]
    by_cases hji : j = i
    · subst hji
      rw [if_pos rfl, if_pos (by omega), List.getElem?_eq_getElem hlt]
    · rw [if_neg (by omega)]
      exact ht j (by omega)
theorem back_ok (a : List Tn) (h : okM a = true) : EvP (fun k => impl_MelodyBack.f k a) (· = (a.reverse, true)) := by
  have ha := okM_len h
  unfold impl_MelodyBack.f
  refine EvP.bind (impl_melody a) (fun _ e => ?_)
  subst e
  refine EvP.yes h (EvP.yes (by omega) (EvP.yes (by omega) ?_))
  rw [toNat_nat]
  exact back_loop a ha a.length 0 _ (by omega) (by simp) (fun j hj => by omega)
end Go.Proofs.Ythpeiboobnnfgaa.Pur
end
section
namespace Go.Proofs.Ythpeiboobnnfgaa.Pure
open Go.RowKit Go.Proofs.Ythpeiboobnnfgaa.E Go.Proofs.YthpeiboobnnfgaaW.PrintWords Go.Proofs.YthpeiboobnnfgaaW.PrintLast Go.Proofs.Ythpeiboobnnfgaa.Pur Go.Proofs.Ythpeiboobnnfgaa.Ed
theorem com_comm (a b : List Tn) : com b a = com a b := by
  unfold com
  rw [least_comm (by rfl) commonC.comm]
theorem com_rev (a b : List Tn) : com a.reverse b.reverse = com a b := by
  unfold com
  rw [least_rev]
theorem FnEditCommon : laws_FnEditCommon.Pure := by
  intro l0 _ _ hw
  refine EvP.rounds (?_ : EvP (fun k => laws_FnEditCommon.f k l0) (· = true))
  unfold laws_FnEditCommon.f
  refine EvP.ite (fun _ => EvP.ret rfl) (fun h0 => ?_)
  refine EvP.bind (draw_common l0 hw) (fun r hr => ?_)
  obtain ⟨a, b⟩ := r
  obtain ⟨la, lb⟩ := hr
  dsimp only at la lb ⊢
  refine EvP.bind (impl_common a b) (fun _ e => ?_)
  subst e
  refine EvP.bind (spec_common a b (by omega) (by omega)) (fun _ e => ?_)
  subst e
  refine EvP.yes rfl ?_
  refine EvP.succ ?_
  simp only [laws_FnEditCommon.j0]
  refine EvP.ite (fun _ => EvP.ret (by simp)) (fun hn => ?_)
  have hn : ¬ commonOf a b < 0 := fun h => hn (decide_eq_true h)
  obtain ⟨oa, ob⟩ := ok_of_common hn
  rw [common_ok oa ob]
  have bd := cost_big oa ob
  have c1 := com_bd a b
  have c2 := com_bd b a
  have c3 := commonC.cost_le costC a b
  have cc := com_comm a b
  refine EvP.bind (back_ok a oa) (fun _ e => ?_)
  subst e
  refine EvP.bind (back_ok b ob) (fun _ e => ?_)
  subst e
  refine EvP.yes rfl (EvP.yes rfl ?_)
  refine EvP.bind (impl_common b a) (fun _ e => ?_)
  subst e
  refine EvP.yes (by rw [common_ok ob oa, cc]) ?_
  refine EvP.bind (impl_common a.reverse b.reverse) (fun _ e => ?_)
  subst e
  refine EvP.yes (by rw [common_ok (okM_rev oa) (okM_rev ob), com_rev]) ?_
  refine EvP.yes (by unfold mn; omega) ?_
  refine EvP.bind (impl_cost a b) (fun _ e => ?_)
  subst e
  have w1 : Hd (wrap64 ((a.length : Int) - com a b) = (a.length : Int) - com a b) := ⟨w64 (by omega) (by omega)⟩
  have w2 : Hd (wrap64 ((b.length : Int) - com a b) = (b.length : Int) - com a b) := ⟨w64 (by omega) (by omega)⟩
  have w3 : Hd (wrap64 (2 * ((a.length : Int) - com a b)) = 2 * ((a.length : Int) - com a b)) := ⟨w64 (by omega) (by omega)⟩
  have w4 : Hd (wrap64 (2 * ((b.length : Int) - com a b)) = 2 * ((b.length : Int) - com a b)) := ⟨w64 (by omega) (by omega)⟩
  have w5 : Hd (wrap64 (2 * ((a.length : Int) - com a b) + 2 * ((b.length : Int) - com a b)) = 2 * ((a.length : Int) - com a b) + 2 * ((b.length : Int) - com a b)) := ⟨w64 (by omega) (by omega)⟩
  rw [w1.out, w2.out, w3.out, w4.out, w5.out, cost_ok oa ob]
  refine EvP.yes c3 ?_
  refine EvP.bind (impl_common a a) (fun _ e => ?_)
  subst e
  have := commonC.self a
  exact EvP.ret (by rw [common_ok oa oa, beq_iff_eq]; exact this)
end Go.Proofs.Ythpeiboobnnfgaa.Pure
end
section
namespace Go.Proofs.YthpeiboobnnfgaaW.PrintWords
open Go.ChangeShapes Go.WideShapes
theorem sized_ints {H : Type} {enc : TypeId × Value → H} {P : Program} {W : World} {base : Nat} {spare : Nat → Bool} {held : Bool} {t e : TypeId} {k : IntKind} {a : Option Addr} {len cap : Nat} {d : DataW H} {ps : List MemPlace} {ts : List TypeId} {ds : List (DataW H)} {j : Nat}
    (hsz : (DataW.weightsEach P ts ds).all (· ≤ reachBytes) = true) (ht : ts[j]? = some t) (hd : ds[j]? = some d) (hu : P.underlying t = some (.slice e)) (he : P.underlying e = some (.int k)) (hc : P.cellsOf e = 1) {B : Nat} (hB : P.bytesOf e = B)
    (h : DataW.Trod enc P W base spare held t (.slice a len cap) d ps) : len * B ≤ 140737488351232 := by
  obtain ⟨fuel, hf⟩ := h
  rcases open_ints hu he hc hf with ⟨hcs, _⟩ | ⟨x, l, c, zs, hcs, _, hl, _, hz, hx, _, _⟩
  · simp [Value.cells] at hcs
    obtain ⟨rfl, rfl, rfl⟩ := hcs
    simp
  · simp [Value.cells] at hcs
    obtain ⟨rfl, rfl, rfl⟩ := hcs
    obtain ⟨hx, _⟩ := Prod.mk.inj hx
    subst hx
    have z := sized_slice hsz ht hd hu
    rw [hB] at z
    have hl2 : len ≤ zs.length := by
      rw [hz]
      split
      · exact hl
      · exact Nat.le_refl _
    have h1 : (lits (H := H) k (zs.take len)).length + (lits (H := H) k (zs.drop len)).length = zs.length := by
      simp [lits]
      omega
    rw [h1] at z
    exact Nat.le_trans (Nat.mul_le_mul_right _ hl2) z
end Go.Proofs.YthpeiboobnnfgaaW.PrintWords
end
section
namespace Go.Proofs.Ythpeiboobnnfgaa.fnEditCommon
open Go.ChangeShapes Go.WideShapes Go.ChangeAt Go.RowKit
open Go.ChangeMaps (open_string shut_string)
set_option linter.unusedVariables false
theorem own : ownKnob Try.prog.godebug = none := by kernel_rfl
theorem laidOut : laidOutB Try.prog = true := by kernel_rfl
def IsRow (k : IntKind) (w : World) (a : Option Addr) (len cap : Nat) (zs : List Int) : Prop :=
  (a = none ∧ len = 0 ∧ cap = 0 ∧ zs = []) ∨
  ∃ x, a = some x ∧ len ≤ cap ∧ cap ≤ maxLen ∧ zs.length = cap ∧ (∀ i, i < zs.length → w.cell? (x.add i) = some (.int k (zs.getD i 0))) ∧ ∀ n ∈ zs, (Lit.int k n).wf = true
set_option maxRecDepth 100000 in
theorem lifted (os : Os) (started : os.Started) (H : Type) (enc : TypeId × Value → H) :
    ReturnsInHanded {} Try.checked os 8 .any (Rows.fnEditCommonSpec.pre6 enc Try.prog Try.f8 Rows.fnEditCommonRow.domain false) (Rows.fnEditCommonSpec.post enc Try.prog Try.f8 false true false false) := by
  refine returnsInHanded_of_change_sized (C := Try.checked) own started (by kernel_rfl) Try.func8
    (ChangeSpec.witness6 (enc := enc) (C := Try.checked) false ⟨#[], #[.slice none 0 0], []⟩ 8 (by kernel_rfl) (by kernel_rfl) (by kernel_rfl) (by kernel_rfl)) ?_
  intro W base args ds gs before hval0 hW hcnd hsz0 _
  have hsz : (DataW.weightsEach Try.prog (Try.f8.params.toList ++ Rows.fnEditCommonSpec.plain.varTypes Try.prog) (ds ++ gs)).all (· ≤ reachBytes) = true := hsz0
  have hval : ∀ (j : Nat) t v, Try.f8.params[j]? = some t → args[j]? = some v → Value.okWide Try.prog W .any base t v := hval0
  have hW' := hW
  obtain ⟨p, q, hA0, hV, rfl, hfz, hnd⟩ := hW
  have hA : DataW.TrodAll enc Try.prog W 0 (fun _ => true) true Try.f8.params.toList args.toList ds p := hA0
  rw [Try.params8] at hA hval hsz
  obtain ⟨v0, vs0, d0, ds0, p0, q0, hargs, rfl, rfl, h0, r0⟩ := trodAll_cons hA
  obtain ⟨rfl, rfl, rfl⟩ := trodAll_nil r0
  obtain rfl : args = #[v0] := by cases args; simp_all
  obtain ⟨rfl, rfl⟩ := trodVars_none hV
  obtain ⟨a0, len0, cap0, rfl⟩ := okWide_slice Try.underlying32 (hval 0 32 v0 rfl rfl)
  have k0 := h0
  have lt0 : ∀ x ∈ p0, x.block < W.heap.size := by obtain ⟨m, hm⟩ := k0; exact DataW.trod_lt m _ _ _ hm
  obtain ⟨z0, w0⟩ : ∃ zs, IsRow .u8 W a0 len0 cap0 zs := by
    obtain ⟨fuel, hf⟩ := h0
    rcases open_ints Try.underlying32 Try.underlying5 (by kernel_rfl) hf with ⟨hcs, _⟩ | ⟨x, l, c, zs, hcs, _, hl, hm, hz, _, hcell, hwz⟩
    · simp [Value.cells] at hcs
      obtain ⟨rfl, rfl, rfl⟩ := hcs
      exact ⟨[], .inl ⟨rfl, rfl, rfl, rfl⟩⟩
    · simp [Value.cells] at hcs
      obtain ⟨rfl, rfl, rfl⟩ := hcs
      exact ⟨zs, .inr ⟨_, rfl, hl, hm, by simpa using hz, hcell, hwz⟩⟩
  have y0 : len0 * 1 ≤ 140737488351232 := Go.Proofs.YthpeiboobnnfgaaW.PrintWords.sized_ints hsz (j := 0) (t := 32) rfl rfl Try.underlying32 Try.underlying5 (by kernel_rfl) (by kernel_rfl) h0
  clear hA0 hval0 hsz0 hsz
  refine (E.laws_FnEditCommon.walk Pure.FnEditCommon a0 len0 cap0 z0 W w0 y0).mono fun e W' ⟨he, bel⟩ => ?_
  subst he
  exact ⟨_, rfl, _, _, _, [], _, [], hW', trodAll_mk1 (shut_bool Try.underlying4 _), (trodAll_cons_mk (Below.trod laidOut (by kernel_rfl) (of_decide_eq_true (by kernel_rfl)) k0 bel lt0) trodAll_mk0), rfl, bel.frame _, fun h => by cases h⟩
theorem over : Rows.fnEditCommonRow.holds Try.pinned (OpenSpec.ofChange Rows.fnEditCommonSpec) :=
  OpenClaim.holds_of_wide 8 Try.f8 rfl rfl rfl rfl rfl rfl rfl ⟨rfl, rfl, rfl, rfl, rfl⟩ rfl rfl rfl rfl rfl (by kernel_rfl) Try.func8 (by kernel_rfl)
    (of_decide_eq_true (by kernel_rfl)) (by unfold Func.isWrapper; first | (rw [if_pos (by decide +kernel)]; kernel_rfl) | (rw [if_neg (by decide +kernel)]; exact ⟨rfl, rfl⟩))
    (fun os started H enc _ => lifted os started H enc)
theorem proved : Rows.FnEditCommonSaid := over
#print axioms proved
end Go.Proofs.Ythpeiboobnnfgaa.fnEditCommon
namespace Go.Proofs.Ythpeiboobnnfgaa
theorem fnEditCommon_holds : Rows.FnEditCommonSaid := fnEditCommon.proved
end Go.Proofs.Ythpeiboobnnfgaa
end
