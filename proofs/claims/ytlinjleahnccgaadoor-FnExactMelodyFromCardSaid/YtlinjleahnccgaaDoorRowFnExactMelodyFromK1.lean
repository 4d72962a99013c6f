/- Proved: for all arguments the given program's laws.FnExactMelodyFrom returns true, and its arguments and the package-level variables that it is given read afterwards as they read before (the given constant Rows.FnExactMelodyFromCardSaid).
Conditions: none ahead of the given statement; the statement itself begins in a world whose listed package-level variables hold what the program's text lays there, and its card ties them to that text. -/
import Derived.Test.YtlinjleahnccgaaDoorRowFnExactMelodyFromK0
section
namespace Go.Proofs.YtlinjleahnccgaaDoor.E
open Go.RowKit Go.Proofs.YtlinjleahnccgaaDoorW.PrintWords Go.Proofs.YtlinjleahnccgaaDoorW.PrintLast Go.Proofs.YtlinjleahnccgaaDoorW.PrintMore
attribute [local go_sem] max2_int min2_int max_two min_two max_three min_three max_four min_four
set_option linter.unusedVariables false
set_option linter.unusedSimpArgs false
attribute [local go_sem] str_leq_ str_gtr_ str_geq_
def spec_MelodyFrom.l0 : Nat → List (S25) → List ByteArray → Int → Option ((List (S25)) × Bool)
 | 0, _, _, _ => none
 | k + 1, x4, x5, x6 => if x6 < (x5.length : Int) then (if 0 ≤ x6 then ((spec_ToneFrom.f k (rdOf ByteArray.empty x5 x6)).bind fun bt316 => (if bt316.2.2 = true then (if x6 ≥ 24 then (some ((([] : List (S25))), false)) else (if x4.length < 8796093022208 then (spec_MelodyFrom.l0 k (x4 ++ [(⟨bt316.1, bt316.2.1⟩ : S25)]) x5 (wrap64 (x6 + 1))) else (none))) else (some ((([] : List (S25))), false)))) else (none)) else (some (x4, true))
def spec_MelodyFrom.f (k : Nat) (a0 : ByteArray) : Option ((List (S25)) × Bool) := (some (([] : List (S25)) : List (S25))).bind fun y309 => (if a0.toList = ([] : List UInt8) then (some (y309, true)) else ((spec_l2Cut.f k a0 32).bind fun t312 => (spec_MelodyFrom.l0 k y309 t312 0)))
set_option maxHeartbeats 8000000 in
set_option maxRecDepth 100000 in
theorem spec_MelodyFrom.calls (k : Nat) (a0 : ByteArray) (r1 : List (S25)) (r2 : Bool) (w : World) (h : spec_MelodyFrom.f k a0 = some (r1, r2)) :
  Calls Tryd.prog 28 #[.string a0] w fun e w' => ∃ v0_ : Value, e = .returned (.tuple #[v0_, .bool r2]) ∧ Kd.R k25 25 w' w.heap.size (fun _ => True) v0_ r1 ∧ Below w.heap.size w w' := by
 have hu25 := Tryd.underlying25
 have HB := Aside0.mk (Below.refl w.heap.size w)
 have H : ((some (([] : List (S25)) : List (S25))).bind fun y309 => (if a0.toList = ([] : List UInt8) then (some (y309, true)) else ((spec_l2Cut.f k a0 32).bind fun t312 => (spec_MelodyFrom.l0 k y309 t312 0)))) = some (r1, r2) := h
 clear h
 obtain ⟨y309, hy309⟩ : ∃ y_ : List (S25), y_ = (([] : List (S25))) := ⟨_, rfl⟩
 replace H : (if a0.toList = ([] : List UInt8) then (some (y309, true)) else ((spec_l2Cut.f k a0 32).bind fun t312 => (spec_MelodyFrom.l0 k y309 t312 0))) = some (r1, r2) := by first | (rw [hy309]; with_reducible exact H) | (have H2_ := (Option.bind_some _ _).symm.trans H; rw [hy309]; with_reducible exact H2_) | (have H2_ := (Option.bind_some _ _).symm.trans H; with_reducible exact H2_) | with_reducible exact H | (rw [hy309]; exact H) | exact H
 have Ny309 := Aside0.mk hy309
 clear hy309
 by_cases c2 : a0.toList = ([] : List UInt8)
 ·rw [if_pos c2] at H
  have c2b0 : (a0.toList == ([] : List UInt8)) = true := beq_iff_eq.mpr c2
  have c2b1 : (a0.toList != ([] : List UInt8)) = false := bne_eq_false_iff_eq.mpr c2
  clear c2
  simp only [Option.some.injEq, Prod.mk.injEq] at H
  obtain ⟨rfl, rfl⟩ := H
  go_enter Tryd.func28, Tryd.ntmps28
  go_wp2_with (first | ((with_reducible refine gate_dst (N := 9) rfl ?_); refine Kd.R_lit k25 _ 25 ?hg (N := 9) ?hd (xs := ([] : List (S25))) (inner := []) (ok := fun _ => True) (okp := fun _ => True) ?hr ?hp (fun _ hk => hk) trivial (Below.refl _ _) (Nat.le_refl _) (by simp) ?_; (case hd => rfl); (case hg => rfl); (case hr => first | (go_simp; done) | (go_simp; rfl)); (case hp => exact (Reps.none _ _)); intro v310 w3 ho4 hb hg_ hnew_; clear hg_ hnew_; (first | rw [← Ny309.out] at ho4 | (simp only [Int.reduceToNat] at ho4; rw [← Ny309.out] at ho4)); have n0_ := Aside0.mk (Kd.R_lower ho4 (below_size (by repeat (first | (with_reducible first | exact HB.out | apply below_alloc | apply pw_below_drewN | apply below_drew1) | exact HB.out)))); have n1_ := Aside0.mk (below_step (by repeat (first | (with_reducible first | exact HB.out | apply below_alloc | apply pw_below_drewN | apply below_drew1) | exact HB.out)) hb); clear HB; have HO311 := n0_; have HB := n1_; clear n0_ n1_; clear hb ho4))
  go_ret2
  exact ⟨_, by first | rfl | (simp [errW_none, errW_some] <;> rfl) | (simp [*, errW_none, errW_some] <;> rfl), by (with_reducible repeat (first | apply Kd.R_alloc | apply Kd.R_drewN | apply Kd.R_drew)); exact HO311.out, by repeat (first | (with_reducible first | exact HB.out | apply below_alloc | apply pw_below_drewN | apply below_drew1) | exact HB.out)⟩
 rw [if_neg c2] at H
 have c2b0 : (a0.toList == ([] : List UInt8)) = false := beq_eq_false_iff_ne.mpr c2
 have c2b1 : (a0.toList != ([] : List UInt8)) = true := bne_iff_ne.mpr c2
 replace H := Option.bind_eq_some_iff.mp H
 obtain ⟨t312, A50, H⟩ := H
 replace H : (spec_MelodyFrom.l0 k y309 t312 0) = some (r1, r2) := H
 have A5 := Aside0.mk A50
 clear A50
 have H' := Aside0.mk H
 clear H
 go_enter Tryd.func28, Tryd.ntmps28
 go_wp2_with (first | ((with_reducible refine gate_dst (N := 9) rfl ?_); refine Kd.R_lit k25 _ 25 ?hg (N := 9) ?hd (xs := ([] : List (S25))) (inner := []) (ok := fun _ => True) (okp := fun _ => True) ?hr ?hp (fun _ hk => hk) trivial (Below.refl _ _) (Nat.le_refl _) (by simp) ?_; (case hd => rfl); (case hg => rfl); (case hr => first | (go_simp; done) | (go_simp; rfl)); (case hp => exact (Reps.none _ _)); intro v310 w6 ho7 hb hg_ hnew_; clear hg_ hnew_; (first | rw [← Ny309.out] at ho7 | (simp only [Int.reduceToNat] at ho7; rw [← Ny309.out] at ho7)); have n0_ := Aside0.mk (Kd.R_lower ho7 (below_size (by repeat (first | (with_reducible first | exact HB.out | apply below_alloc | apply pw_below_drewN | apply below_drew1) | exact HB.out)))); have n1_ := Aside0.mk (below_step (by repeat (first | (with_reducible first | exact HB.out | apply below_alloc | apply pw_below_drewN | apply below_drew1) | exact HB.out)) hb); clear HB; have HO311 := n0_; have HB := n1_; clear n0_ n1_; clear hb ho7) | ((with_reducible refine gate_callee (f := 52) rfl ?_); refine goesL_ (some 14) rfl rfl Tryd.func52 (by kernel_rfl) rfl #[.string a0, .int .u8 32] rfl (by (try simp only [List.map_toArray, List.map_cons, List.map_nil]); first | done | rfl | (simp only [List.length_drop, List.length_take]; rfl)) ?_; (with_reducible refine (spec_l2Cut.calls k a0 32 t312 _ A5.out).mono ?_); rintro e w8 ⟨v313, rfl, ho0, hb⟩; refine ⟨_, rfl, ?_⟩; have n0_ := Aside0.mk (Kd.R_below (by (with_reducible repeat (first | apply Kd.R_alloc | apply Kd.R_drewN | apply Kd.R_drew)); exact HO311.out) hb); have n1_ := Aside0.mk (Kd.R_lower ho0 (below_size (by repeat (first | (with_reducible first | exact HB.out | apply below_alloc | apply pw_below_drewN | apply below_drew1) | exact HB.out)))); have n2_ := Aside0.mk (below_step (by repeat (first | (with_reducible first | exact HB.out | apply below_alloc | apply pw_below_drewN | apply below_drew1) | exact HB.out)) hb); clear HO311; clear HB; have HO311 := n0_; have HO314 := n1_; have HB := n2_; clear n0_ n1_ n2_; (try clear hb); (try clear hb2); (try clear hk); (try clear hi); (try clear ho0)))
 go_loopg [4, 6] k (fun kq v4 v6 w' => ∃ (x4_1 : List (S25)) (x6_1 : Int), v6 = .int .i64 x6_1 ∧ Aside0 (spec_MelodyFrom.l0 kq x4_1 t312 x6_1 = some (r1, r2)) ∧ Aside0 (kq ≤ k) ∧ Aside0 (Kd.R k25 25 w' w.heap.size (fun _ => True) v4 x4_1) ∧ Aside0 (Kd.R Kd.string 9 w' w.heap.size (fun _ => True) v313 t312) ∧ Aside0 (Below w.heap.size w w'))
 case atStart => exact ⟨(y309), (0), (by first | rfl | (simp; done) | (simp [*]; done)), H', ⟨Nat.le_refl _⟩, ⟨by (with_reducible repeat (first | apply Kd.R_alloc | apply Kd.R_drewN | apply Kd.R_drew)); exact HO311.out⟩, ⟨by (with_reducible repeat (first | apply Kd.R_alloc | apply Kd.R_drewN | apply Kd.R_drew)); exact HO314.out⟩, ⟨by repeat (first | (with_reducible first | exact HB.out | apply below_alloc | apply pw_below_drewN | apply below_drew1) | exact HB.out)⟩⟩
 case round =>
  clear H'
  try clear c2
  try clear c2b0
  try clear c2b1
  try clear p2
  try clear c5
  obtain ⟨x4_1, x6_1, rfl, HA, HK1, HO_4, HO_5, HB⟩ := hrel
  cases gk with
  | zero => exact absurd HA.out (by simp [spec_MelodyFrom.l0])
  | succ k1 =>
   have H := HA.out
   clear HA
   simp only [spec_MelodyFrom.l0] at H
   by_cases c9 : x6_1 < (t312.length : Int)
   rotate_left
   ·rw [if_neg c9] at H
    have c9b0 : decide (x6_1 < (t312.length : Int)) = false := decide_eq_false c9
    clear c9
    simp only [Option.some.injEq, Prod.mk.injEq] at H
    obtain ⟨rfl, rfl⟩ := H
    obtain ⟨Ao32, co32, eo32⟩ := Kd.R_slice HO_5.out
    subst eo32
    go_wp2
    go_ret2
    exact ⟨_, by first | rfl | (simp [errW_none, errW_some] <;> rfl) | (simp [*, errW_none, errW_some] <;> rfl), by (with_reducible repeat (first | apply Kd.R_alloc | apply Kd.R_drewN | apply Kd.R_drew)); exact HO_4.out, by repeat (first | (with_reducible first | exact HB.out | apply below_alloc | apply pw_below_drewN | apply below_drew1) | exact HB.out)⟩
   rw [if_pos c9] at H
   have c9b0 : decide (x6_1 < (t312.length : Int)) = true := decide_eq_true c9
   clear c9
   by_cases c10 : 0 ≤ x6_1
   rotate_left
   ·rw [if_neg c10] at H
    exact absurd H (by simp)
   rw [if_pos c10] at H
   have c10b0 : decide (0 ≤ x6_1) = true := decide_eq_true c10
   clear c10
   replace H := Option.bind_eq_some_iff.mp H
   obtain ⟨⟨t316, t317, t318⟩, A110, H⟩ := H
   replace H : (if t318 = true then (if x6_1 ≥ 24 then (some ((([] : List (S25))), false)) else (if x4_1.length < 8796093022208 then (spec_MelodyFrom.l0 k1 (x4_1 ++ [(⟨t316, t317⟩ : S25)]) t312 (wrap64 (x6_1 + 1))) else (none))) else (some ((([] : List (S25))), false))) = some (r1, r2) := H
   have A11 := Aside0.mk A110
   clear A110
   by_cases c12 : t318 = true
   rotate_left
   ·replace c12 := Bool.eq_false_iff.mpr c12
    subst c12
    have H1 : (some ((([] : List (S25))), false)) = some (r1, r2) := by rw [if_neg (show ¬ (false = true) by decide)] at H; exact H
    clear H
    have H := H1
    clear H1
    obtain ⟨y326, hy326⟩ : ∃ y_ : List (S25), y_ = (([] : List (S25))) := ⟨_, rfl⟩
    replace H : (some (y326, false)) = some (r1, r2) := by first | (rw [hy326]; with_reducible exact H) | (have H2_ := (Option.bind_some _ _).symm.trans H; rw [hy326]; with_reducible exact H2_) | (have H2_ := (Option.bind_some _ _).symm.trans H; with_reducible exact H2_) | with_reducible exact H | (rw [hy326]; exact H) | exact H
    have Ny326 := Aside0.mk hy326
    clear hy326
    simp only [Option.some.injEq, Prod.mk.injEq] at H
    obtain ⟨rfl, rfl⟩ := H
    obtain ⟨Ao26, co26, eo26⟩ := Kd.R_slice HO_5.out
    subst eo26
    have p315 : 0 ≤ (x6_1 : Int) := of_decide_eq_true (by first | (with_reducible assumption) | assumption)
    have q315 : x6_1 < (t312.length : Int) := of_decide_eq_true (by first | (with_reducible assumption) | assumption)
    obtain ⟨ad315, e315, hx315_0⟩ := Kd.at_string (Kd.R_reads' HO_5.out).2.2 x6_1 p315 q315
    cases e315
    replace p315 := eq_true p315
    replace q315 := eq_true q315
    go_wp2_with (first | ((with_reducible refine gate_callee (f := 16) rfl ?_); refine goesL_ (some 26) rfl rfl Tryd.func16 (by kernel_rfl) rfl #[.string (rdOf ByteArray.empty t312 x6_1)] rfl (by (try simp only [List.map_toArray, List.map_cons, List.map_nil]); first | done | rfl | (simp only [List.length_drop, List.length_take]; rfl)) ?_; (with_reducible refine (spec_ToneFrom.calls k1 (rdOf ByteArray.empty t312 x6_1) t316 t317 false _ A11.out).mono ?_); rintro e w27 ⟨rfl, hb⟩; refine ⟨_, rfl, ?_⟩; have n0_ := Aside0.mk (Kd.R_below (by (with_reducible repeat (first | apply Kd.R_alloc | apply Kd.R_drewN | apply Kd.R_drew)); exact HO_4.out) hb); have n1_ := Aside0.mk (Kd.R_below (by (with_reducible repeat (first | apply Kd.R_alloc | apply Kd.R_drewN | apply Kd.R_drew)); exact HO_5.out) hb); have n2_ := Aside0.mk (below_step (by repeat (first | (with_reducible first | exact HB.out | apply below_alloc | apply pw_below_drewN | apply below_drew1) | exact HB.out)) hb); clear HO_4; clear HO_5; clear HB; have HO_4 := n0_; have HO_5 := n1_; have HB := n2_; clear n0_ n1_ n2_; (try clear hb); (try clear hb2); (try clear hk); (try clear hi)) | ((with_reducible refine gate_dst (N := 7) rfl ?_); refine box_event ?hg (N := 7) ?hd (cs := #[.int .i64 0, .bool false]) (t := 25) ?hr ?_; (case hd => rfl); (case hg => rfl); (case hr => first | (go_simp; done) | (go_simp; rfl)); intro gb319 hg w28 hbox hb; have n0_ := Aside0.mk (Kd.R_below (Kd.R_elderB (by (with_reducible repeat (first | apply Kd.R_alloc | apply Kd.R_drewN | apply Kd.R_drew)); exact HO_4.out) gb319 (Nat.le_of_eq hg.symm)) hb); have n1_ := Aside0.mk (Kd.R_below (by (with_reducible repeat (first | apply Kd.R_alloc | apply Kd.R_drewN | apply Kd.R_drew)); exact HO_5.out) hb); have n2_ := Aside0.mk (below_step (by repeat (first | (with_reducible first | exact HB.out | apply below_alloc | apply pw_below_drewN | apply below_drew1) | exact HB.out)) hb); have n3_ := Aside0.mk (hbox); have n4_ := Aside0.mk ((by rw [hg]; exact (below_size (by repeat (first | (with_reducible first | exact HB.out | apply below_alloc | apply pw_below_drewN | apply below_drew1) | exact HB.out))) : w.heap.size ≤ gb319)); have n5_ := Aside0.mk ((by rw [hg]; exact (below_size (by repeat (first | (with_reducible first | exact HB.out | apply below_alloc | apply pw_below_drewN | apply below_drew1) | exact HB.out))) : w.heap.size ≤ gb319)); clear HO_4; clear HO_5; clear HB; have HO_4 := n0_; have HO_5 := n1_; have HB := n2_; have BK319 := n3_; have GW319 := n4_; have GE319 := n5_; clear n0_ n1_ n2_ n3_ n4_ n5_; clear hb hbox hg; have hcz29_0 : w28.cell? ⟨gb319, 0, none⟩ = some (.int .i64 0) := (blk_cell BK319.out 0).trans rfl; have hcz29_1 : w28.cell? ⟨gb319, 1, none⟩ = some (.bool false) := (blk_cell BK319.out 1).trans rfl; have hfz29_0 := blk_frozen BK319.out 0; have hfz29_1 := blk_frozen BK319.out 1) | ((with_reducible refine gate_dst (N := 35) rfl ?_); refine Kd.R_lit k25 _ 25 ?hg (N := 35) ?hd (xs := ([] : List (S25))) (inner := []) (ok := fun _ => True) (okp := fun _ => True) ?hr ?hp (fun _ hk => hk) trivial (Below.refl _ _) (Nat.le_refl _) (by simp) ?_; (case hd => rfl); (case hg => rfl); (case hr => first | (go_simp; done) | (go_simp; rfl)); (case hp => exact (Reps.none _ _)); intro v327 w30 ho31 hb hg_ hnew_; clear hg_ hnew_; (first | rw [← Ny326.out] at ho31 | (simp only [Int.reduceToNat] at ho31; rw [← Ny326.out] at ho31)); have n0_ := Aside0.mk (Kd.R_elder' (by (with_reducible repeat (first | apply Kd.R_alloc | apply Kd.R_drewN | apply Kd.R_drew)); exact (Kd.R_mono (Kd.R_far (p := ⟨gb319, 1, none⟩) (Kd.R_far (p := ⟨gb319, 0, none⟩) (Kd.R_mono HO_4.out (fun k_ hk => (⟨hk, hk.2⟩ : _ ∧ k_ ≠ gb319))) (fun _ hk => hk.2) (.int .i64 t316)) (fun _ hk => hk.2) (.bool t317)) (fun _ h_ => h_.1))) (Kd.R_base ho31) hb); have n1_ := Aside0.mk (Kd.R_below (by (with_reducible repeat (first | apply Kd.R_alloc | apply Kd.R_drewN | apply Kd.R_drew)); exact (Kd.R_mono (Kd.R_far (p := ⟨gb319, 1, none⟩) (Kd.R_far (p := ⟨gb319, 0, none⟩) (Kd.R_types HO_5.out BK319.out (by decide)) (fun _ hk => hk.2) (.int .i64 t316)) (fun _ hk => hk.2) (.bool t317)) (fun _ h_ => h_.1))) hb); have n2_ := Aside0.mk (Kd.R_lower (Kd.R_newB (Kd.R_new' ho31 (Kd.R_lt (by (with_reducible repeat (first | apply Kd.R_alloc | apply Kd.R_drewN | apply Kd.R_drew)); exact (Kd.R_mono (Kd.R_far (p := ⟨gb319, 1, none⟩) (Kd.R_far (p := ⟨gb319, 0, none⟩) (Kd.R_mono HO_4.out (fun k_ hk => (⟨hk, hk.2⟩ : _ ∧ k_ ≠ gb319))) (fun _ hk => hk.2) (.int .i64 t316)) (fun _ hk => hk.2) (.bool t317)) (fun _ h_ => h_.1))))) (g := gb319) (o := .cells #[.int .i64 t316, .bool t317] 25 (0, 0)) (by (with_reducible repeat (first | refine blk_drewN ?_ _ | refine blk_drew ?_ | refine blk_alloc ?_ _)); refine blk_put (cs := #[.int .i64 t316, .bool false]) ?_ 1 _ rfl; (with_reducible repeat (first | refine blk_drewN ?_ _ | refine blk_drew ?_ | refine blk_alloc ?_ _)); refine blk_put (cs := #[.int .i64 0, .bool false]) ?_ 0 _ rfl; (with_reducible repeat (first | refine blk_drewN ?_ _ | refine blk_drew ?_ | refine blk_alloc ?_ _)); exact BK319.out)) (below_size (by repeat (first | (with_reducible first | exact HB.out | apply below_alloc | apply pw_below_drewN | apply below_drew1 | refine below_set ?_ GE319.out) | exact HB.out)))); have n3_ := Aside0.mk (blk_below (g := gb319) (o := .cells #[.int .i64 t316, .bool t317] 25 (0, 0)) (by (with_reducible repeat (first | refine blk_drewN ?_ _ | refine blk_drew ?_ | refine blk_alloc ?_ _)); refine blk_put (cs := #[.int .i64 t316, .bool false]) ?_ 1 _ rfl; (with_reducible repeat (first | refine blk_drewN ?_ _ | refine blk_drew ?_ | refine blk_alloc ?_ _)); refine blk_put (cs := #[.int .i64 0, .bool false]) ?_ 0 _ rfl; (with_reducible repeat (first | refine blk_drewN ?_ _ | refine blk_drew ?_ | refine blk_alloc ?_ _)); exact BK319.out) hb); have n4_ := Aside0.mk (below_step (by repeat (first | (with_reducible first | exact HB.out | apply below_alloc | apply pw_below_drewN | apply below_drew1 | refine below_set ?_ GE319.out) | exact HB.out)) hb); clear HO_4; clear HO_5; clear BK319; clear HB; have HO_4 := n0_; have HO_5 := n1_; have HO328 := n2_; have BK319 := n3_; have HB := n4_; clear n0_ n1_ n2_ n3_ n4_; clear hb ho31))
    go_ret2
    exact ⟨_, by first | rfl | (simp [errW_none, errW_some] <;> rfl) | (simp [*, errW_none, errW_some] <;> rfl), by (with_reducible repeat (first | apply Kd.R_alloc | apply Kd.R_drewN | apply Kd.R_drew)); exact Kd.R_mono HO328.out (fun _ hk => trivial), by repeat (first | (with_reducible first | exact HB.out | apply below_alloc | apply pw_below_drewN | apply below_drew1 | refine below_set ?_ GE319.out) | exact HB.out)⟩
   subst c12
   have H1 : (if x6_1 ≥ 24 then (some ((([] : List (S25))), false)) else (if x4_1.length < 8796093022208 then (spec_MelodyFrom.l0 k1 (x4_1 ++ [(⟨t316, t317⟩ : S25)]) t312 (wrap64 (x6_1 + 1))) else (none))) = some (r1, r2) := by rw [if_pos rfl] at H; exact H
   clear H
   have H := H1
   clear H1
   by_cases c13 : x6_1 ≥ 24
   ·rw [if_pos c13] at H
    have c13b0 : decide (24 ≤ x6_1) = true := decide_eq_true c13
    clear c13
    obtain ⟨y320, hy320⟩ : ∃ y_ : List (S25), y_ = (([] : List (S25))) := ⟨_, rfl⟩
    replace H : (some (y320, false)) = some (r1, r2) := by first | (rw [hy320]; with_reducible exact H) | (have H2_ := (Option.bind_some _ _).symm.trans H; rw [hy320]; with_reducible exact H2_) | (have H2_ := (Option.bind_some _ _).symm.trans H; with_reducible exact H2_) | with_reducible exact H | (rw [hy320]; exact H) | exact H
    have Ny320 := Aside0.mk hy320
    clear hy320
    simp only [Option.some.injEq, Prod.mk.injEq] at H
    obtain ⟨rfl, rfl⟩ := H
    obtain ⟨Ao14, co14, eo14⟩ := Kd.R_slice HO_5.out
    subst eo14
    have p315 : 0 ≤ (x6_1 : Int) := of_decide_eq_true (by first | (with_reducible assumption) | assumption)
    have q315 : x6_1 < (t312.length : Int) := of_decide_eq_true (by first | (with_reducible assumption) | assumption)
    obtain ⟨ad315, e315, hx315_0⟩ := Kd.at_string (Kd.R_reads' HO_5.out).2.2 x6_1 p315 q315
    cases e315
    replace p315 := eq_true p315
    replace q315 := eq_true q315
    go_wp2_with (first | ((with_reducible refine gate_callee (f := 16) rfl ?_); refine goesL_ (some 26) rfl rfl Tryd.func16 (by kernel_rfl) rfl #[.string (rdOf ByteArray.empty t312 x6_1)] rfl (by (try simp only [List.map_toArray, List.map_cons, List.map_nil]); first | done | rfl | (simp only [List.length_drop, List.length_take]; rfl)) ?_; (with_reducible refine (spec_ToneFrom.calls k1 (rdOf ByteArray.empty t312 x6_1) t316 t317 true _ A11.out).mono ?_); rintro e w15 ⟨rfl, hb⟩; refine ⟨_, rfl, ?_⟩; have n0_ := Aside0.mk (Kd.R_below (by (with_reducible repeat (first | apply Kd.R_alloc | apply Kd.R_drewN | apply Kd.R_drew)); exact HO_4.out) hb); have n1_ := Aside0.mk (Kd.R_below (by (with_reducible repeat (first | apply Kd.R_alloc | apply Kd.R_drewN | apply Kd.R_drew)); exact HO_5.out) hb); have n2_ := Aside0.mk (below_step (by repeat (first | (with_reducible first | exact HB.out | apply below_alloc | apply pw_below_drewN | apply below_drew1) | exact HB.out)) hb); clear HO_4; clear HO_5; clear HB; have HO_4 := n0_; have HO_5 := n1_; have HB := n2_; clear n0_ n1_ n2_; (try clear hb); (try clear hb2); (try clear hk); (try clear hi)) | ((with_reducible refine gate_dst (N := 7) rfl ?_); refine box_event ?hg (N := 7) ?hd (cs := #[.int .i64 0, .bool false]) (t := 25) ?hr ?_; (case hd => rfl); (case hg => rfl); (case hr => first | (go_simp; done) | (go_simp; rfl)); intro gb319 hg w16 hbox hb; have n0_ := Aside0.mk (Kd.R_below (Kd.R_elderB (by (with_reducible repeat (first | apply Kd.R_alloc | apply Kd.R_drewN | apply Kd.R_drew)); exact HO_4.out) gb319 (Nat.le_of_eq hg.symm)) hb); have n1_ := Aside0.mk (Kd.R_below (by (with_reducible repeat (first | apply Kd.R_alloc | apply Kd.R_drewN | apply Kd.R_drew)); exact HO_5.out) hb); have n2_ := Aside0.mk (below_step (by repeat (first | (with_reducible first | exact HB.out | apply below_alloc | apply pw_below_drewN | apply below_drew1) | exact HB.out)) hb); have n3_ := Aside0.mk (hbox); have n4_ := Aside0.mk ((by rw [hg]; exact (below_size (by repeat (first | (with_reducible first | exact HB.out | apply below_alloc | apply pw_below_drewN | apply below_drew1) | exact HB.out))) : w.heap.size ≤ gb319)); have n5_ := Aside0.mk ((by rw [hg]; exact (below_size (by repeat (first | (with_reducible first | exact HB.out | apply below_alloc | apply pw_below_drewN | apply below_drew1) | exact HB.out))) : w.heap.size ≤ gb319)); clear HO_4; clear HO_5; clear HB; have HO_4 := n0_; have HO_5 := n1_; have HB := n2_; have BK319 := n3_; have GW319 := n4_; have GE319 := n5_; clear n0_ n1_ n2_ n3_ n4_ n5_; clear hb hbox hg; have hcz17_0 : w16.cell? ⟨gb319, 0, none⟩ = some (.int .i64 0) := (blk_cell BK319.out 0).trans rfl; have hcz17_1 : w16.cell? ⟨gb319, 1, none⟩ = some (.bool false) := (blk_cell BK319.out 1).trans rfl; have hfz17_0 := blk_frozen BK319.out 0; have hfz17_1 := blk_frozen BK319.out 1) | ((with_reducible refine gate_dst (N := 35) rfl ?_); refine Kd.R_lit k25 _ 25 ?hg (N := 35) ?hd (xs := ([] : List (S25))) (inner := []) (ok := fun _ => True) (okp := fun _ => True) ?hr ?hp (fun _ hk => hk) trivial (Below.refl _ _) (Nat.le_refl _) (by simp) ?_; (case hd => rfl); (case hg => rfl); (case hr => first | (go_simp; done) | (go_simp; rfl)); (case hp => exact (Reps.none _ _)); intro v321 w18 ho19 hb hg_ hnew_; clear hg_ hnew_; (first | rw [← Ny320.out] at ho19 | (simp only [Int.reduceToNat] at ho19; rw [← Ny320.out] at ho19)); have n0_ := Aside0.mk (Kd.R_elder' (by (with_reducible repeat (first | apply Kd.R_alloc | apply Kd.R_drewN | apply Kd.R_drew)); exact (Kd.R_mono (Kd.R_far (p := ⟨gb319, 1, none⟩) (Kd.R_far (p := ⟨gb319, 0, none⟩) (Kd.R_mono HO_4.out (fun k_ hk => (⟨hk, hk.2⟩ : _ ∧ k_ ≠ gb319))) (fun _ hk => hk.2) (.int .i64 t316)) (fun _ hk => hk.2) (.bool t317)) (fun _ h_ => h_.1))) (Kd.R_base ho19) hb); have n1_ := Aside0.mk (Kd.R_below (by (with_reducible repeat (first | apply Kd.R_alloc | apply Kd.R_drewN | apply Kd.R_drew)); exact (Kd.R_mono (Kd.R_far (p := ⟨gb319, 1, none⟩) (Kd.R_far (p := ⟨gb319, 0, none⟩) (Kd.R_types HO_5.out BK319.out (by decide)) (fun _ hk => hk.2) (.int .i64 t316)) (fun _ hk => hk.2) (.bool t317)) (fun _ h_ => h_.1))) hb); have n2_ := Aside0.mk (Kd.R_lower (Kd.R_newB (Kd.R_new' ho19 (Kd.R_lt (by (with_reducible repeat (first | apply Kd.R_alloc | apply Kd.R_drewN | apply Kd.R_drew)); exact (Kd.R_mono (Kd.R_far (p := ⟨gb319, 1, none⟩) (Kd.R_far (p := ⟨gb319, 0, none⟩) (Kd.R_mono HO_4.out (fun k_ hk => (⟨hk, hk.2⟩ : _ ∧ k_ ≠ gb319))) (fun _ hk => hk.2) (.int .i64 t316)) (fun _ hk => hk.2) (.bool t317)) (fun _ h_ => h_.1))))) (g := gb319) (o := .cells #[.int .i64 t316, .bool t317] 25 (0, 0)) (by (with_reducible repeat (first | refine blk_drewN ?_ _ | refine blk_drew ?_ | refine blk_alloc ?_ _)); refine blk_put (cs := #[.int .i64 t316, .bool false]) ?_ 1 _ rfl; (with_reducible repeat (first | refine blk_drewN ?_ _ | refine blk_drew ?_ | refine blk_alloc ?_ _)); refine blk_put (cs := #[.int .i64 0, .bool false]) ?_ 0 _ rfl; (with_reducible repeat (first | refine blk_drewN ?_ _ | refine blk_drew ?_ | refine blk_alloc ?_ _)); exact BK319.out)) (below_size (by repeat (first | (with_reducible first | exact HB.out | apply below_alloc | apply pw_below_drewN | apply below_drew1 | refine below_set ?_ GE319.out) | exact HB.out)))); have n3_ := Aside0.mk (blk_below (g := gb319) (o := .cells #[.int .i64 t316, .bool t317] 25 (0, 0)) (by (with_reducible repeat (first | refine blk_drewN ?_ _ | refine blk_drew ?_ | refine blk_alloc ?_ _)); refine blk_put (cs := #[.int .i64 t316, .bool false]) ?_ 1 _ rfl; (with_reducible repeat (first | refine blk_drewN ?_ _ | refine blk_drew ?_ | refine blk_alloc ?_ _)); refine blk_put (cs := #[.int .i64 0, .bool false]) ?_ 0 _ rfl; (with_reducible repeat (first | refine blk_drewN ?_ _ | refine blk_drew ?_ | refine blk_alloc ?_ _)); exact BK319.out) hb); have n4_ := Aside0.mk (below_step (by repeat (first | (with_reducible first | exact HB.out | apply below_alloc | apply pw_below_drewN | apply below_drew1 | refine below_set ?_ GE319.out) | exact HB.out)) hb); clear HO_4; clear HO_5; clear BK319; clear HB; have HO_4 := n0_; have HO_5 := n1_; have HO322 := n2_; have BK319 := n3_; have HB := n4_; clear n0_ n1_ n2_ n3_ n4_; clear hb ho19))
    go_ret2
    exact ⟨_, by first | rfl | (simp [errW_none, errW_some] <;> rfl) | (simp [*, errW_none, errW_some] <;> rfl), by (with_reducible repeat (first | apply Kd.R_alloc | apply Kd.R_drewN | apply Kd.R_drew)); exact Kd.R_mono HO322.out (fun _ hk => trivial), by repeat (first | (with_reducible first | exact HB.out | apply below_alloc | apply pw_below_drewN | apply below_drew1 | refine below_set ?_ GE319.out) | exact HB.out)⟩
   rw [if_neg c13] at H
   have c13b0 : decide (24 ≤ x6_1) = false := decide_eq_false c13
   clear c13
   by_cases c20 : x4_1.length < 8796093022208
   rotate_left
   ·rw [if_neg c20] at H
    exact absurd H (by simp)
   rw [if_pos c20] at H
   have LMc20 := Aside0.mk c20
   clear c20
   obtain ⟨y323, hy323⟩ : ∃ y_ : List (S25), y_ = (x4_1 ++ [(⟨t316, t317⟩ : S25)]) := ⟨_, rfl⟩
   replace H : (spec_MelodyFrom.l0 k1 y323 t312 (wrap64 (x6_1 + 1))) = some (r1, r2) := by first | (rw [hy323]; with_reducible exact H) | (have H2_ := (Option.bind_some _ _).symm.trans H; rw [hy323]; with_reducible exact H2_) | (have H2_ := (Option.bind_some _ _).symm.trans H; with_reducible exact H2_) | with_reducible exact H | (rw [hy323]; exact H) | exact H
   have Ny323 := Aside0.mk hy323
   clear hy323
   have H' := Aside0.mk H
   clear H
   obtain ⟨Ao21, co21, eo21⟩ := Kd.R_slice HO_5.out
   subst eo21
   have p315 : 0 ≤ (x6_1 : Int) := of_decide_eq_true (by first | (with_reducible assumption) | assumption)
   have q315 : x6_1 < (t312.length : Int) := of_decide_eq_true (by first | (with_reducible assumption) | assumption)
   obtain ⟨ad315, e315, hx315_0⟩ := Kd.at_string (Kd.R_reads' HO_5.out).2.2 x6_1 p315 q315
   cases e315
   replace p315 := eq_true p315
   replace q315 := eq_true q315
   go_wp2_with (first | ((with_reducible refine gate_callee (f := 16) rfl ?_); refine goesL_ (some 26) rfl rfl Tryd.func16 (by kernel_rfl) rfl #[.string (rdOf ByteArray.empty t312 x6_1)] rfl (by (try simp only [List.map_toArray, List.map_cons, List.map_nil]); first | done | rfl | (simp only [List.length_drop, List.length_take]; rfl)) ?_; (with_reducible refine (spec_ToneFrom.calls k1 (rdOf ByteArray.empty t312 x6_1) t316 t317 true _ A11.out).mono ?_); rintro e w22 ⟨rfl, hb⟩; refine ⟨_, rfl, ?_⟩; have n0_ := Aside0.mk (Kd.R_below (by (with_reducible repeat (first | apply Kd.R_alloc | apply Kd.R_drewN | apply Kd.R_drew)); exact HO_4.out) hb); have n1_ := Aside0.mk (Kd.R_below (by (with_reducible repeat (first | apply Kd.R_alloc | apply Kd.R_drewN | apply Kd.R_drew)); exact HO_5.out) hb); have n2_ := Aside0.mk (below_step (by repeat (first | (with_reducible first | exact HB.out | apply below_alloc | apply pw_below_drewN | apply below_drew1) | exact HB.out)) hb); clear HO_4; clear HO_5; clear HB; have HO_4 := n0_; have HO_5 := n1_; have HB := n2_; clear n0_ n1_ n2_; (try clear hb); (try clear hb2); (try clear hk); (try clear hi)) | ((with_reducible refine gate_dst (N := 7) rfl ?_); refine box_event ?hg (N := 7) ?hd (cs := #[.int .i64 0, .bool false]) (t := 25) ?hr ?_; (case hd => rfl); (case hg => rfl); (case hr => first | (go_simp; done) | (go_simp; rfl)); intro gb319 hg w23 hbox hb; have n0_ := Aside0.mk (Kd.R_below (Kd.R_elderB (by (with_reducible repeat (first | apply Kd.R_alloc | apply Kd.R_drewN | apply Kd.R_drew)); exact HO_4.out) gb319 (Nat.le_of_eq hg.symm)) hb); have n1_ := Aside0.mk (Kd.R_below (by (with_reducible repeat (first | apply Kd.R_alloc | apply Kd.R_drewN | apply Kd.R_drew)); exact HO_5.out) hb); have n2_ := Aside0.mk (below_step (by repeat (first | (with_reducible first | exact HB.out | apply below_alloc | apply pw_below_drewN | apply below_drew1) | exact HB.out)) hb); have n3_ := Aside0.mk (hbox); have n4_ := Aside0.mk ((by rw [hg]; exact (below_size (by repeat (first | (with_reducible first | exact HB.out | apply below_alloc | apply pw_below_drewN | apply below_drew1) | exact HB.out))) : w.heap.size ≤ gb319)); have n5_ := Aside0.mk ((by rw [hg]; exact (below_size (by repeat (first | (with_reducible first | exact HB.out | apply below_alloc | apply pw_below_drewN | apply below_drew1) | exact HB.out))) : w.heap.size ≤ gb319)); clear HO_4; clear HO_5; clear HB; have HO_4 := n0_; have HO_5 := n1_; have HB := n2_; have BK319 := n3_; have GW319 := n4_; have GE319 := n5_; clear n0_ n1_ n2_ n3_ n4_ n5_; clear hb hbox hg; have hcz24_0 : w23.cell? ⟨gb319, 0, none⟩ = some (.int .i64 0) := (blk_cell BK319.out 0).trans rfl; have hcz24_1 : w23.cell? ⟨gb319, 1, none⟩ = some (.bool false) := (blk_cell BK319.out 1).trans rfl; have hfz24_0 := blk_frozen BK319.out 0; have hfz24_1 := blk_frozen BK319.out 1) | ((with_reducible refine gate_builtin (b := .append) (xs := #[.tmp 36, .tmp 38]) rfl ?_); at_builtin; refine Kd.R_append k25 (w0 := w) w.heap.size rfl (.tmp 36) (.tmp 38) 41 25 (.agg #[(.int .i64 0), (.bool false)]) 16 rfl Tryd.underlying41 info25 rfl (by decide) (by omega) u4 x4_1 (⟨t316, t317⟩ : S25) [.int .i64 t316, .bool t317] (fun k_ => k_ ≠ gb319) (fun _ => False) rfl (by first | (go_simp; done) | (go_simp; rfl)) ?aP (fun _ hk => hk.elim) ?aF ?aO ?aB ?aS ?aL ?_; (case aP => exact k25_mkM _ _ _ (⟨t316, t317⟩ : S25)); (case aB => exact (by repeat (first | (with_reducible first | exact HB.out | apply below_alloc | apply pw_below_drewN | apply below_drew1 | refine below_set ?_ GE319.out) | exact HB.out))); (case aF => exact (fun k_ hk => Kd.freshB (g := gb319) (o := .cells #[.int .i64 t316, .bool t317] 25 (0, 0)) (by (with_reducible repeat (first | refine blk_drewN ?_ _ | refine blk_drew ?_ | refine blk_alloc ?_ _)); refine blk_put (cs := #[.int .i64 t316, .bool false]) ?_ 1 _ rfl; (with_reducible repeat (first | refine blk_drewN ?_ _ | refine blk_drew ?_ | refine blk_alloc ?_ _)); refine blk_put (cs := #[.int .i64 0, .bool false]) ?_ 0 _ rfl; (with_reducible repeat (first | refine blk_drewN ?_ _ | refine blk_drew ?_ | refine blk_alloc ?_ _)); exact BK319.out) k_ hk)); (case aO => exact (by (with_reducible repeat (first | apply Kd.R_alloc | apply Kd.R_drewN | apply Kd.R_drew)); exact Kd.R_mono (Kd.R_far (p := ⟨gb319, 1, none⟩) (Kd.R_far (p := ⟨gb319, 0, none⟩) (Kd.R_mono HO_4.out (fun k_ hk => (⟨hk, hk.2⟩ : _ ∧ k_ ≠ gb319))) (fun _ hk => hk.2) (.int .i64 t316)) (fun _ hk => hk.2) (.bool t317)) (fun _ hk => hk.1.2))); (case aS => exact (below_size (by repeat (first | (with_reducible first | exact HB.out | apply below_alloc | apply pw_below_drewN | apply below_drew1 | refine below_set ?_ GE319.out) | exact HB.out)))); (case aL => have := LMc20.out; omega); intro v324 w25 ho hb hg hat; rw [← Ny323.out] at ho; have n0_ := Aside0.mk (Kd.R_over' (by (with_reducible repeat (first | apply Kd.R_alloc | apply Kd.R_drewN | apply Kd.R_drew)); exact (Kd.R_mono (Kd.R_far (p := ⟨gb319, 1, none⟩) (Kd.R_far (p := ⟨gb319, 0, none⟩) (Kd.R_types HO_5.out BK319.out (by decide)) (fun _ hk => hk.2) (.int .i64 t316)) (fun _ hk => hk.2) (.bool t317)) (fun _ h_ => h_.1))) (Kd.R_typed (by (with_reducible repeat (first | apply Kd.R_alloc | apply Kd.R_drewN | apply Kd.R_drew)); exact (Kd.R_mono (Kd.R_far (p := ⟨gb319, 1, none⟩) (Kd.R_far (p := ⟨gb319, 0, none⟩) (Kd.R_mono HO_4.out (fun k_ hk => (⟨hk, hk.2⟩ : _ ∧ k_ ≠ gb319))) (fun _ hk => hk.2) (.int .i64 t316)) (fun _ hk => hk.2) (.bool t317)) (fun _ h_ => h_.1)))) (by decide) hg); have n1_ := Aside0.mk (blk_grown (g := gb319) (o := .cells #[.int .i64 t316, .bool t317] 25 (0, 0)) (by (with_reducible repeat (first | refine blk_drewN ?_ _ | refine blk_drew ?_ | refine blk_alloc ?_ _)); refine blk_put (cs := #[.int .i64 t316, .bool false]) ?_ 1 _ rfl; (with_reducible repeat (first | refine blk_drewN ?_ _ | refine blk_drew ?_ | refine blk_alloc ?_ _)); refine blk_put (cs := #[.int .i64 0, .bool false]) ?_ 0 _ rfl; (with_reducible repeat (first | refine blk_drewN ?_ _ | refine blk_drew ?_ | refine blk_alloc ?_ _)); exact BK319.out) hg (Kd.R_away HO_4.out (fun _ hk => hk.2))); have n2_ := Aside0.mk (hb); have n3_ := Aside0.mk (ho); clear HO_5; clear BK319; clear HB; clear HO_4; have HO_5 := n0_; have BK319 := n1_; have HB := n2_; have HO325 := n3_; clear n0_ n1_ n2_ n3_; clear ho hb hg hat))
   go_roundg k1
   case measure => have := HK1.out; omega
   case rel => exact ⟨(y323), (wrap64 (x6_1 + 1)), (by first | rfl | (simp; done) | (simp [*]; done)), H', ⟨by have := HK1.out; omega⟩, ⟨by (with_reducible repeat (first | apply Kd.R_alloc | apply Kd.R_drewN | apply Kd.R_drew)); exact Kd.R_mono HO325.out (fun _ hk => trivial)⟩, ⟨by (with_reducible repeat (first | apply Kd.R_alloc | apply Kd.R_drewN | apply Kd.R_drew)); exact HO_5.out⟩, ⟨by repeat (first | (with_reducible first | exact HB.out | apply below_alloc | apply pw_below_drewN | apply below_drew1 | refine below_set ?_ GE319.out) | exact HB.out)⟩⟩
end Go.Proofs.YtlinjleahnccgaaDoor.E
end
section
namespace Go.Proofs.YtlinjleahnccgaaDoor.E
open Go.RowKit Go.Proofs.YtlinjleahnccgaaDoorW.PrintWords Go.Proofs.YtlinjleahnccgaaDoorW.PrintLast Go.Proofs.YtlinjleahnccgaaDoorW.PrintMore
attribute [local go_sem] max2_int min2_int max_two min_two max_three min_three max_four min_four
set_option linter.unusedVariables false
set_option linter.unusedSimpArgs false
attribute [local go_sem] str_leq_ str_gtr_ str_geq_
def impl_Tone_valid.f (a0_0 : Int) (a0_1 : Bool) : Option (Bool) := if a0_0 ≥ 0 then (if a0_0 ≤ 20 then (if a0_1 = true then (some ((Int.tmod a0_0 7) == 2)) else (some true)) else (some false)) else (some false)
set_option maxHeartbeats 8000000 in
set_option maxRecDepth 100000 in
theorem impl_Tone_valid.calls (a0_0 : Int) (a0_1 : Bool) (r : Bool) (w : World) (h : impl_Tone_valid.f a0_0 a0_1 = some r) :
  Calls Tryd.prog 39 #[.agg #[.int .i64 a0_0, .bool a0_1]] w fun e w' => e = .returned (.bool r) ∧ Below w.heap.size w w' := by
 have hu25 := Tryd.underlying25
 have HB := Aside0.mk (Below.refl w.heap.size w)
 have H : (if a0_0 ≥ 0 then (if a0_0 ≤ 20 then (if a0_1 = true then (some ((Int.tmod a0_0 7) == 2)) else (some true)) else (some false)) else (some false)) = some r := h
 clear h
 by_cases c2 : a0_0 ≥ 0
 rotate_left
 ·rw [if_neg c2] at H
  have c2b0 : decide (0 ≤ a0_0) = false := decide_eq_false c2
  clear c2
  obtain rfl := Option.some.inj H
  go_enter Tryd.func39, Tryd.ntmps39
  go_wp2_with (first | ((with_reducible refine gate_dst (N := 1) rfl ?_); refine box_event ?hg (N := 1) ?hd (cs := #[.int .i64 a0_0, .bool a0_1]) (t := 25) ?hr ?_; (case hd => rfl); (case hg => rfl); (case hr => first | (go_simp; done) | (go_simp; rfl)); intro gb110 hg w11 hbox hb; have n0_ := Aside0.mk (below_step (by repeat (first | (with_reducible first | exact HB.out | apply below_alloc | apply pw_below_drewN | apply below_drew1) | exact HB.out)) hb); have n1_ := Aside0.mk (hbox); have n2_ := Aside0.mk ((by rw [hg]; exact (below_size (by repeat (first | (with_reducible first | exact HB.out | apply below_alloc | apply pw_below_drewN | apply below_drew1) | exact HB.out))) : w.heap.size ≤ gb110)); have n3_ := Aside0.mk ((by rw [hg]; exact (below_size (by repeat (first | (with_reducible first | exact HB.out | apply below_alloc | apply pw_below_drewN | apply below_drew1) | exact HB.out))) : w.heap.size ≤ gb110)); clear HB; have HB := n0_; have BK110 := n1_; have GW110 := n2_; have GE110 := n3_; clear n0_ n1_ n2_ n3_; clear hb hbox hg; have hcz12_0 : w11.cell? ⟨gb110, 0, none⟩ = some (.int .i64 a0_0) := (blk_cell BK110.out 0).trans rfl; have hcz12_1 : w11.cell? ⟨gb110, 1, none⟩ = some (.bool a0_1) := (blk_cell BK110.out 1).trans rfl; have hfz12_0 := blk_frozen BK110.out 0; have hfz12_1 := blk_frozen BK110.out 1))
  go_ret
  exact ⟨by first | rfl | (simp [errW_none, errW_some] <;> rfl) | (simp [*, errW_none, errW_some] <;> rfl), by repeat (first | (with_reducible first | exact HB.out | apply below_alloc | apply pw_below_drewN | apply below_drew1 | refine below_set ?_ GE110.out) | exact HB.out)⟩
 rw [if_pos c2] at H
 have c2b0 : decide (0 ≤ a0_0) = true := decide_eq_true c2
 clear c2
 by_cases c3 : a0_0 ≤ 20
 rotate_left
 ·rw [if_neg c3] at H
  have c3b0 : decide (a0_0 ≤ 20) = false := decide_eq_false c3
  clear c3
  obtain rfl := Option.some.inj H
  go_enter Tryd.func39, Tryd.ntmps39
  go_wp2_with (first | ((with_reducible refine gate_dst (N := 1) rfl ?_); refine box_event ?hg (N := 1) ?hd (cs := #[.int .i64 a0_0, .bool a0_1]) (t := 25) ?hr ?_; (case hd => rfl); (case hg => rfl); (case hr => first | (go_simp; done) | (go_simp; rfl)); intro gb110 hg w9 hbox hb; have n0_ := Aside0.mk (below_step (by repeat (first | (with_reducible first | exact HB.out | apply below_alloc | apply pw_below_drewN | apply below_drew1) | exact HB.out)) hb); have n1_ := Aside0.mk (hbox); have n2_ := Aside0.mk ((by rw [hg]; exact (below_size (by repeat (first | (with_reducible first | exact HB.out | apply below_alloc | apply pw_below_drewN | apply below_drew1) | exact HB.out))) : w.heap.size ≤ gb110)); have n3_ := Aside0.mk ((by rw [hg]; exact (below_size (by repeat (first | (with_reducible first | exact HB.out | apply below_alloc | apply pw_below_drewN | apply below_drew1) | exact HB.out))) : w.heap.size ≤ gb110)); clear HB; have HB := n0_; have BK110 := n1_; have GW110 := n2_; have GE110 := n3_; clear n0_ n1_ n2_ n3_; clear hb hbox hg; have hcz10_0 : w9.cell? ⟨gb110, 0, none⟩ = some (.int .i64 a0_0) := (blk_cell BK110.out 0).trans rfl; have hcz10_1 : w9.cell? ⟨gb110, 1, none⟩ = some (.bool a0_1) := (blk_cell BK110.out 1).trans rfl; have hfz10_0 := blk_frozen BK110.out 0; have hfz10_1 := blk_frozen BK110.out 1))
  go_ret
  exact ⟨by first | rfl | (simp [errW_none, errW_some] <;> rfl) | (simp [*, errW_none, errW_some] <;> rfl), by repeat (first | (with_reducible first | exact HB.out | apply below_alloc | apply pw_below_drewN | apply below_drew1 | refine below_set ?_ GE110.out) | exact HB.out)⟩
 rw [if_pos c3] at H
 have c3b0 : decide (a0_0 ≤ 20) = true := decide_eq_true c3
 clear c3
 by_cases c4 : a0_1 = true
 ·subst c4
  have H1 : (some ((Int.tmod a0_0 7) == 2)) = some r := by rw [if_pos rfl] at H; exact H
  clear H
  have H := H1
  clear H1
  obtain rfl := Option.some.inj H
  go_enter Tryd.func39, Tryd.ntmps39
  go_wp2_with (first | ((with_reducible refine gate_dst (N := 1) rfl ?_); refine box_event ?hg (N := 1) ?hd (cs := #[.int .i64 a0_0, .bool true]) (t := 25) ?hr ?_; (case hd => rfl); (case hg => rfl); (case hr => first | (go_simp; done) | (go_simp; rfl)); intro gb110 hg w5 hbox hb; have n0_ := Aside0.mk (below_step (by repeat (first | (with_reducible first | exact HB.out | apply below_alloc | apply pw_below_drewN | apply below_drew1) | exact HB.out)) hb); have n1_ := Aside0.mk (hbox); have n2_ := Aside0.mk ((by rw [hg]; exact (below_size (by repeat (first | (with_reducible first | exact HB.out | apply below_alloc | apply pw_below_drewN | apply below_drew1) | exact HB.out))) : w.heap.size ≤ gb110)); have n3_ := Aside0.mk ((by rw [hg]; exact (below_size (by repeat (first | (with_reducible first | exact HB.out | apply below_alloc | apply pw_below_drewN | apply below_drew1) | exact HB.out))) : w.heap.size ≤ gb110)); clear HB; have HB := n0_; have BK110 := n1_; have GW110 := n2_; have GE110 := n3_; clear n0_ n1_ n2_ n3_; clear hb hbox hg; have hcz6_0 : w5.cell? ⟨gb110, 0, none⟩ = some (.int .i64 a0_0) := (blk_cell BK110.out 0).trans rfl; have hcz6_1 : w5.cell? ⟨gb110, 1, none⟩ = some (.bool true) := (blk_cell BK110.out 1).trans rfl; have hfz6_0 := blk_frozen BK110.out 0; have hfz6_1 := blk_frozen BK110.out 1))
  go_ret
  exact ⟨by first | rfl | (simp [errW_none, errW_some] <;> rfl) | (simp [*, errW_none, errW_some] <;> rfl), by repeat (first | (with_reducible first | exact HB.out | apply below_alloc | apply pw_below_drewN | apply below_drew1 | refine below_set ?_ GE110.out) | exact HB.out)⟩
 replace c4 := Bool.eq_false_iff.mpr c4
 subst c4
 have H1 : (some true) = some r := by rw [if_neg (show ¬ (false = true) by decide)] at H; exact H
 clear H
 have H := H1
 clear H1
 obtain rfl := Option.some.inj H
 go_enter Tryd.func39, Tryd.ntmps39
 go_wp2_with (first | ((with_reducible refine gate_dst (N := 1) rfl ?_); refine box_event ?hg (N := 1) ?hd (cs := #[.int .i64 a0_0, .bool false]) (t := 25) ?hr ?_; (case hd => rfl); (case hg => rfl); (case hr => first | (go_simp; done) | (go_simp; rfl)); intro gb110 hg w7 hbox hb; have n0_ := Aside0.mk (below_step (by repeat (first | (with_reducible first | exact HB.out | apply below_alloc | apply pw_below_drewN | apply below_drew1) | exact HB.out)) hb); have n1_ := Aside0.mk (hbox); have n2_ := Aside0.mk ((by rw [hg]; exact (below_size (by repeat (first | (with_reducible first | exact HB.out | apply below_alloc | apply pw_below_drewN | apply below_drew1) | exact HB.out))) : w.heap.size ≤ gb110)); have n3_ := Aside0.mk ((by rw [hg]; exact (below_size (by repeat (first | (with_reducible first | exact HB.out | apply below_alloc | apply pw_below_drewN | apply below_drew1) | exact HB.out))) : w.heap.size ≤ gb110)); clear HB; have HB := n0_; have BK110 := n1_; have GW110 := n2_; have GE110 := n3_; clear n0_ n1_ n2_ n3_; clear hb hbox hg; have hcz8_0 : w7.cell? ⟨gb110, 0, none⟩ = some (.int .i64 a0_0) := (blk_cell BK110.out 0).trans rfl; have hcz8_1 : w7.cell? ⟨gb110, 1, none⟩ = some (.bool false) := (blk_cell BK110.out 1).trans rfl; have hfz8_0 := blk_frozen BK110.out 0; have hfz8_1 := blk_frozen BK110.out 1))
 go_ret
 exact ⟨by first | rfl | (simp [errW_none, errW_some] <;> rfl) | (simp [*, errW_none, errW_some] <;> rfl), by repeat (first | (with_reducible first | exact HB.out | apply below_alloc | apply pw_below_drewN | apply below_drew1 | refine below_set ?_ GE110.out) | exact HB.out)⟩
end Go.Proofs.YtlinjleahnccgaaDoor.E
end
section
namespace Go.Proofs.YtlinjleahnccgaaDoor.E
open Go.RowKit Go.Proofs.YtlinjleahnccgaaDoorW.PrintWords Go.Proofs.YtlinjleahnccgaaDoorW.PrintLast Go.Proofs.YtlinjleahnccgaaDoorW.PrintMore
attribute [local go_sem] max2_int min2_int max_two min_two max_three min_three max_four min_four
set_option linter.unusedVariables false
set_option linter.unusedSimpArgs false
attribute [local go_sem] str_leq_ str_gtr_ str_geq_
def impl_Tone_letter.f (a0_0 : Int) (a0_1 : Bool) : Option ByteArray := if 0 ≤ a0_0 then some (lnames.getD (a0_0 % 7).toNat ByteArray.empty) else none
set_option maxHeartbeats 8000000 in
set_option maxRecDepth 100000 in
theorem impl_Tone_letter.calls (a0_0 : Int) (a0_1 : Bool) (r : ByteArray) (w : World) (hG : GOk [0] w) (h : impl_Tone_letter.f a0_0 a0_1 = some r) :
  Calls Tryd.prog 40 #[.agg #[.int .i64 a0_0, .bool a0_1]] w fun e w' => e = .returned (.string r) ∧ Below w.heap.size w w' := by
 have hu25 := Tryd.underlying25
 unfold impl_Tone_letter.f at h
 by_cases h1 : 0 ≤ a0_0
 rotate_left
 ·rw [if_neg h1] at h; cases h
 rw [if_pos h1] at h
 obtain rfl := Option.some.inj h
 have hc : (w.alloc (Obj.cells #[Value.int IntKind.i64 a0_0, Value.bool a0_1] 25)).cell? ⟨0, (a0_0 % 7).toNat, none⟩ = some (.string (lnames.getD (a0_0 % 7).toNat ByteArray.empty)) := cell_keep (hG 0 (by decide) (a0_0 % 7).toNat (by omega)) (below_alloc (Below.refl _ _) _)
 go_enter Tryd.func40, Tryd.ntmps40
 go_wp2
 go_ret
 exact ⟨rfl, below_alloc (Below.refl _ _) _⟩
end Go.Proofs.YtlinjleahnccgaaDoor.E
end
section
namespace Go.Proofs.YtlinjleahnccgaaDoor.E
open Go.RowKit Go.Proofs.YtlinjleahnccgaaDoorW.PrintWords Go.Proofs.YtlinjleahnccgaaDoorW.PrintLast Go.Proofs.YtlinjleahnccgaaDoorW.PrintMore
attribute [local go_sem] max2_int min2_int max_two min_two max_three min_three max_four min_four
set_option linter.unusedVariables false
set_option linter.unusedSimpArgs false
attribute [local go_sem] str_leq_ str_gtr_ str_geq_
def strconv_Itoa.f (a0 : Int) : Option ByteArray := if 0 ≤ a0 then (if a0 < 100 then some ⟨(Go.Lib.decDigits a0.toNat).toArray⟩ else none) else none
theorem strconv_Itoa.calls (a0 : Int) (r : ByteArray) (w : World) (h : strconv_Itoa.f a0 = some r) :
  Calls Tryd.prog 60 #[.int .i64 a0] w fun e w' => e = .returned (.string r) ∧ Below w.heap.size w w' := by
 unfold strconv_Itoa.f at h
 by_cases h1 : 0 ≤ a0
 rotate_left
 ·rw [if_neg h1] at h; cases h
 by_cases h2 : a0 < 100
 ·rw [if_pos h1, if_pos h2] at h
  obtain rfl := Option.some.inj h
  obtain ⟨i, rfl⟩ := Int.eq_ofNat_of_zero_le h1
  refine (Go.Proofs.Any.strconv_Itoa_small Tryd.laysItoa i (by omega) w).mono ?_
  rintro e w' ⟨rfl, rfl⟩
  exact ⟨rfl, Below.refl _ _⟩
 ·rw [if_pos h1, if_neg h2] at h; cases h
end Go.Proofs.YtlinjleahnccgaaDoor.E
end
section
namespace Go.Proofs.YtlinjleahnccgaaDoor.E
open Go.RowKit Go.Proofs.YtlinjleahnccgaaDoorW.PrintWords Go.Proofs.YtlinjleahnccgaaDoorW.PrintLast Go.Proofs.YtlinjleahnccgaaDoorW.PrintMore
attribute [local go_sem] max2_int min2_int max_two min_two max_three min_three max_four min_four
set_option linter.unusedVariables false
set_option linter.unusedSimpArgs false
attribute [local go_sem] str_leq_ str_gtr_ str_geq_
def impl_Tone_text.f (a0_0 : Int) (a0_1 : Bool) : Option (ByteArray) := (impl_Tone_letter.f a0_0 a0_1).bind fun t135 => (if a0_1 = true then ((strconv_Itoa.f (wrap64 (Int.tdiv a0_0 7))).bind fun t136 => (if 1 + t136.size ≤ 9223372036854775807 then (some ((⟨#[98]⟩ : ByteArray) ++ t136)) else (none))) else ((strconv_Itoa.f (wrap64 (Int.tdiv a0_0 7))).bind fun t137 => (if t135.size + t137.size ≤ 9223372036854775807 then (some (t135 ++ t137)) else (none))))
set_option maxHeartbeats 8000000 in
set_option maxRecDepth 100000 in
theorem impl_Tone_text.calls (a0_0 : Int) (a0_1 : Bool) (r : ByteArray) (w : World) (hG : GOk [0] w) (h : impl_Tone_text.f a0_0 a0_1 = some r) :
  Calls Tryd.prog 42 #[.agg #[.int .i64 a0_0, .bool a0_1]] w fun e w' => e = .returned (.string r) ∧ Below w.heap.size w w' := by
 have hu25 := Tryd.underlying25
 have HB := Aside0.mk (Below.refl w.heap.size w)
 have HG := Aside0.mk hG
 clear hG
 have H : ((impl_Tone_letter.f a0_0 a0_1).bind fun t135 => (if a0_1 = true then ((strconv_Itoa.f (wrap64 (Int.tdiv a0_0 7))).bind fun t136 => (if 1 + t136.size ≤ 9223372036854775807 then (some ((⟨#[98]⟩ : ByteArray) ++ t136)) else (none))) else ((strconv_Itoa.f (wrap64 (Int.tdiv a0_0 7))).bind fun t137 => (if t135.size + t137.size ≤ 9223372036854775807 then (some (t135 ++ t137)) else (none))))) = some r := h
 clear h
 replace H := Option.bind_eq_some_iff.mp H
 obtain ⟨t135, A20, H⟩ := H
 replace H : (if a0_1 = true then ((strconv_Itoa.f (wrap64 (Int.tdiv a0_0 7))).bind fun t136 => (if 1 + t136.size ≤ 9223372036854775807 then (some ((⟨#[98]⟩ : ByteArray) ++ t136)) else (none))) else ((strconv_Itoa.f (wrap64 (Int.tdiv a0_0 7))).bind fun t137 => (if t135.size + t137.size ≤ 9223372036854775807 then (some (t135 ++ t137)) else (none)))) = some r := H
 have A2 := Aside0.mk A20
 clear A20
 by_cases c3 : a0_1 = true
 ·subst c3
  have H1 : ((strconv_Itoa.f (wrap64 (Int.tdiv a0_0 7))).bind fun t136 => (if 1 + t136.size ≤ 9223372036854775807 then (some ((⟨#[98]⟩ : ByteArray) ++ t136)) else (none))) = some r := by rw [if_pos rfl] at H; exact H
  clear H
  have H := H1
  clear H1
  replace H := Option.bind_eq_some_iff.mp H
  obtain ⟨t136, A40, H⟩ := H
  replace H : (if 1 + t136.size ≤ 9223372036854775807 then (some ((⟨#[98]⟩ : ByteArray) ++ t136)) else (none)) = some r := H
  have A4 := Aside0.mk A40
  clear A40
  by_cases c5 : 1 + t136.size ≤ 9223372036854775807
  rotate_left
  ·rw [if_neg c5] at H
   exact absurd H (by simp)
  rw [if_pos c5] at H
  have c5b0 := eq_true c5
  have c5b1 : decide (1 + t136.size ≤ 9223372036854775807) = true := decide_eq_true c5
  try have c5b2 : (9223372036854775807 < 1 + t136.size) = False := eq_false (Nat.not_lt.2 c5)
  obtain rfl := Option.some.inj H
  go_enter Tryd.func42, Tryd.ntmps42
  go_wp2_with (first | ((with_reducible refine gate_dst (N := 1) rfl ?_); refine box_event ?hg (N := 1) ?hd (cs := #[.int .i64 a0_0, .bool true]) (t := 25) ?hr ?_; (case hd => rfl); (case hg => rfl); (case hr => first | (go_simp; done) | (go_simp; rfl)); intro gb134 hg w6 hbox hb; have n0_ := Aside0.mk (below_step (by repeat (first | (with_reducible first | exact HB.out | apply below_alloc | apply pw_below_drewN | apply below_drew1) | exact HB.out)) hb); have n1_ := Aside0.mk (hbox); have n2_ := Aside0.mk ((by rw [hg]; exact (below_size (by repeat (first | (with_reducible first | exact HB.out | apply below_alloc | apply pw_below_drewN | apply below_drew1) | exact HB.out))) : w.heap.size ≤ gb134)); have n3_ := Aside0.mk ((by rw [hg]; exact (below_size (by repeat (first | (with_reducible first | exact HB.out | apply below_alloc | apply pw_below_drewN | apply below_drew1) | exact HB.out))) : w.heap.size ≤ gb134)); clear HB; have HB := n0_; have BK134 := n1_; have GW134 := n2_; have GE134 := n3_; clear n0_ n1_ n2_ n3_; clear hb hbox hg; have hcz7_0 : w6.cell? ⟨gb134, 0, none⟩ = some (.int .i64 a0_0) := (blk_cell BK134.out 0).trans rfl; have hcz7_1 : w6.cell? ⟨gb134, 1, none⟩ = some (.bool true) := (blk_cell BK134.out 1).trans rfl; have hfz7_0 := blk_frozen BK134.out 0; have hfz7_1 := blk_frozen BK134.out 1) | ((with_reducible refine gate_callee (f := 40) rfl ?_); refine goesL_ (some 5) rfl rfl Tryd.func40 (by kernel_rfl) rfl #[.agg #[.int .i64 a0_0, .bool true]] rfl (by (try simp only [List.map_toArray, List.map_cons, List.map_nil]); first | done | rfl | (simp only [List.length_drop, List.length_take]; rfl)) ?_; (with_reducible refine (impl_Tone_letter.calls a0_0 true t135 _ ?side1 A2.out).mono ?_); (case side1 => exact GOk.sub (GOk.below HG.out (by repeat (first | (with_reducible first | exact HB.out | apply below_alloc | apply pw_below_drewN | apply below_drew1 | refine below_set ?_ GE134.out) | exact HB.out))) (by decide)); rintro e w8 ⟨rfl, hb⟩; refine ⟨_, rfl, ?_⟩; have n0_ := Aside0.mk (blk_below (g := gb134) (o := .cells #[.int .i64 a0_0, .bool true] 25 (0, 0)) (by (with_reducible repeat (first | refine blk_drewN ?_ _ | refine blk_drew ?_ | refine blk_alloc ?_ _)); exact BK134.out) hb); have n1_ := Aside0.mk (below_step (by repeat (first | (with_reducible first | exact HB.out | apply below_alloc | apply pw_below_drewN | apply below_drew1 | refine below_set ?_ GE134.out) | exact HB.out)) hb); clear BK134; clear HB; have BK134 := n0_; have HB := n1_; clear n0_ n1_; (try clear hb); (try clear hb2); (try clear hk); (try clear hi); have hcz9_0 : w8.cell? ⟨gb134, 0, none⟩ = some (.int .i64 a0_0) := (blk_cell BK134.out 0).trans rfl; have hcz9_1 : w8.cell? ⟨gb134, 1, none⟩ = some (.bool true) := (blk_cell BK134.out 1).trans rfl; have hfz9_0 := blk_frozen BK134.out 0; have hfz9_1 := blk_frozen BK134.out 1) | ((with_reducible refine gate_callee (f := 60) rfl ?_); refine goesL_ (some 12) rfl rfl Tryd.func60 (by kernel_rfl) rfl #[.int .i64 (wrap64 (Int.tdiv a0_0 7))] rfl (by (try simp only [List.map_toArray, List.map_cons, List.map_nil]); first | done | rfl | (simp only [List.length_drop, List.length_take]; rfl)) ?_; (with_reducible refine (strconv_Itoa.calls (wrap64 (Int.tdiv a0_0 7)) t136 _ A4.out).mono ?_); rintro e w10 ⟨rfl, hb⟩; refine ⟨_, rfl, ?_⟩; have n0_ := Aside0.mk (blk_below (g := gb134) (o := .cells #[.int .i64 a0_0, .bool true] 25 (0, 0)) (by (with_reducible repeat (first | refine blk_drewN ?_ _ | refine blk_drew ?_ | refine blk_alloc ?_ _)); exact BK134.out) hb); have n1_ := Aside0.mk (below_step (by repeat (first | (with_reducible first | exact HB.out | apply below_alloc | apply pw_below_drewN | apply below_drew1 | refine below_set ?_ GE134.out) | exact HB.out)) hb); clear BK134; clear HB; have BK134 := n0_; have HB := n1_; clear n0_ n1_; (try clear hb); (try clear hb2); (try clear hk); (try clear hi)))
  go_ret
  exact ⟨by first | rfl | (simp [errW_none, errW_some] <;> rfl) | (simp [*, errW_none, errW_some] <;> rfl), by repeat (first | (with_reducible first | exact HB.out | apply below_alloc | apply pw_below_drewN | apply below_drew1 | refine below_set ?_ GE134.out) | exact HB.out)⟩
 replace c3 := Bool.eq_false_iff.mpr c3
 subst c3
 have H1 : ((strconv_Itoa.f (wrap64 (Int.tdiv a0_0 7))).bind fun t137 => (if t135.size + t137.size ≤ 9223372036854775807 then (some (t135 ++ t137)) else (none))) = some r := by rw [if_neg (show ¬ (false = true) by decide)] at H; exact H
 clear H
 have H := H1
 clear H1
 replace H := Option.bind_eq_some_iff.mp H
 obtain ⟨t137, A110, H⟩ := H
 replace H : (if t135.size + t137.size ≤ 9223372036854775807 then (some (t135 ++ t137)) else (none)) = some r := H
 have A11 := Aside0.mk A110
 clear A110
 by_cases c12 : t135.size + t137.size ≤ 9223372036854775807
 rotate_left
 ·rw [if_neg c12] at H
  exact absurd H (by simp)
 rw [if_pos c12] at H
 have c12b0 := eq_true c12
 have c12b1 : decide (t135.size + t137.size ≤ 9223372036854775807) = true := decide_eq_true c12
 try have c12b2 : (9223372036854775807 < t135.size + t137.size) = False := eq_false (Nat.not_lt.2 c12)
 obtain rfl := Option.some.inj H
 go_enter Tryd.func42, Tryd.ntmps42
 go_wp2_with (first | ((with_reducible refine gate_dst (N := 1) rfl ?_); refine box_event ?hg (N := 1) ?hd (cs := #[.int .i64 a0_0, .bool false]) (t := 25) ?hr ?_; (case hd => rfl); (case hg => rfl); (case hr => first | (go_simp; done) | (go_simp; rfl)); intro gb134 hg w13 hbox hb; have n0_ := Aside0.mk (below_step (by repeat (first | (with_reducible first | exact HB.out | apply below_alloc | apply pw_below_drewN | apply below_drew1) | exact HB.out)) hb); have n1_ := Aside0.mk (hbox); have n2_ := Aside0.mk ((by rw [hg]; exact (below_size (by repeat (first | (with_reducible first | exact HB.out | apply below_alloc | apply pw_below_drewN | apply below_drew1) | exact HB.out))) : w.heap.size ≤ gb134)); have n3_ := Aside0.mk ((by rw [hg]; exact (below_size (by repeat (first | (with_reducible first | exact HB.out | apply below_alloc | apply pw_below_drewN | apply below_drew1) | exact HB.out))) : w.heap.size ≤ gb134)); clear HB; have HB := n0_; have BK134 := n1_; have GW134 := n2_; have GE134 := n3_; clear n0_ n1_ n2_ n3_; clear hb hbox hg; have hcz14_0 : w13.cell? ⟨gb134, 0, none⟩ = some (.int .i64 a0_0) := (blk_cell BK134.out 0).trans rfl; have hcz14_1 : w13.cell? ⟨gb134, 1, none⟩ = some (.bool false) := (blk_cell BK134.out 1).trans rfl; have hfz14_0 := blk_frozen BK134.out 0; have hfz14_1 := blk_frozen BK134.out 1) | ((with_reducible refine gate_callee (f := 40) rfl ?_); refine goesL_ (some 5) rfl rfl Tryd.func40 (by kernel_rfl) rfl #[.agg #[.int .i64 a0_0, .bool false]] rfl (by (try simp only [List.map_toArray, List.map_cons, List.map_nil]); first | done | rfl | (simp only [List.length_drop, List.length_take]; rfl)) ?_; (with_reducible refine (impl_Tone_letter.calls a0_0 false t135 _ ?side1 A2.out).mono ?_); (case side1 => exact GOk.sub (GOk.below HG.out (by repeat (first | (with_reducible first | exact HB.out | apply below_alloc | apply pw_below_drewN | apply below_drew1 | refine below_set ?_ GE134.out) | exact HB.out))) (by decide)); rintro e w15 ⟨rfl, hb⟩; refine ⟨_, rfl, ?_⟩; have n0_ := Aside0.mk (blk_below (g := gb134) (o := .cells #[.int .i64 a0_0, .bool false] 25 (0, 0)) (by (with_reducible repeat (first | refine blk_drewN ?_ _ | refine blk_drew ?_ | refine blk_alloc ?_ _)); exact BK134.out) hb); have n1_ := Aside0.mk (below_step (by repeat (first | (with_reducible first | exact HB.out | apply below_alloc | apply pw_below_drewN | apply below_drew1 | refine below_set ?_ GE134.out) | exact HB.out)) hb); clear BK134; clear HB; have BK134 := n0_; have HB := n1_; clear n0_ n1_; (try clear hb); (try clear hb2); (try clear hk); (try clear hi); have hcz16_0 : w15.cell? ⟨gb134, 0, none⟩ = some (.int .i64 a0_0) := (blk_cell BK134.out 0).trans rfl; have hcz16_1 : w15.cell? ⟨gb134, 1, none⟩ = some (.bool false) := (blk_cell BK134.out 1).trans rfl; have hfz16_0 := blk_frozen BK134.out 0; have hfz16_1 := blk_frozen BK134.out 1) | ((with_reducible refine gate_callee (f := 60) rfl ?_); refine goesL_ (some 12) rfl rfl Tryd.func60 (by kernel_rfl) rfl #[.int .i64 (wrap64 (Int.tdiv a0_0 7))] rfl (by (try simp only [List.map_toArray, List.map_cons, List.map_nil]); first | done | rfl | (simp only [List.length_drop, List.length_take]; rfl)) ?_; (with_reducible refine (strconv_Itoa.calls (wrap64 (Int.tdiv a0_0 7)) t137 _ A11.out).mono ?_); rintro e w17 ⟨rfl, hb⟩; refine ⟨_, rfl, ?_⟩; have n0_ := Aside0.mk (blk_below (g := gb134) (o := .cells #[.int .i64 a0_0, .bool false] 25 (0, 0)) (by (with_reducible repeat (first | refine blk_drewN ?_ _ | refine blk_drew ?_ | refine blk_alloc ?_ _)); exact BK134.out) hb); have n1_ := Aside0.mk (below_step (by repeat (first | (with_reducible first | exact HB.out | apply below_alloc | apply pw_below_drewN | apply below_drew1 | refine below_set ?_ GE134.out) | exact HB.out)) hb); clear BK134; clear HB; have BK134 := n0_; have HB := n1_; clear n0_ n1_; (try clear hb); (try clear hb2); (try clear hk); (try clear hi)))
 go_ret
 exact ⟨by first | rfl | (simp [errW_none, errW_some] <;> rfl) | (simp [*, errW_none, errW_some] <;> rfl), by repeat (first | (with_reducible first | exact HB.out | apply below_alloc | apply pw_below_drewN | apply below_drew1 | refine below_set ?_ GE134.out) | exact HB.out)⟩
end Go.Proofs.YtlinjleahnccgaaDoor.E
end
section
namespace Go.Proofs.YtlinjleahnccgaaDoor.E
open Go.RowKit Go.Proofs.YtlinjleahnccgaaDoorW.PrintWords Go.Proofs.YtlinjleahnccgaaDoorW.PrintLast Go.Proofs.YtlinjleahnccgaaDoorW.PrintMore
attribute [local go_sem] max2_int min2_int max_two min_two max_three min_three max_four min_four
set_option linter.unusedVariables false
set_option linter.unusedSimpArgs false
attribute [local go_sem] str_leq_ str_gtr_ str_geq_
def tfTry (s : ByteArray) (i : Int) (b : Bool) (g : Option (Int × Bool × Bool)) : Option (Int × Bool × Bool) := (impl_Tone_valid.f i b).bind fun v => (if v = true then ((impl_Tone_text.f i b).bind fun t => (if t.toList = s.toList then some (i, b, true) else g)) else g)
def tfLoop (s : ByteArray) : Nat → Int → Option (Int × Bool × Bool)
 | 0, _ => some (0, false, false)
 | d + 1, i => tfTry s i false (tfTry s i true (tfLoop s d (i + 1)))
def tfIn (s : ByteArray) (d : Nat) (i : Int) : Nat → Option (Int × Bool × Bool)
 | 0 => tfTry s i false (tfTry s i true (tfLoop s d (i + 1)))
 | 1 => tfTry s i true (tfLoop s d (i + 1))
 | _ + 2 => tfLoop s d (i + 1)
def impl_ToneFrom.f (a0 : ByteArray) : Option (Int × Bool × Bool) := tfLoop a0 21 0
theorem tf_ix0 (w : World) : (Instr.index 58 (.agg #[.bool false, .bool true]) (.int .i64 0)).run Tryd.prog w = .ok (.bool false) w := by kernel_rfl
theorem tf_ix1 (w : World) : (Instr.index 58 (.agg #[.bool false, .bool true]) (.int .i64 1)).run Tryd.prog w = .ok (.bool true) w := by kernel_rfl
attribute [local go_sem] tf_ix0 tf_ix1
set_option maxHeartbeats 8000000 in
set_option maxRecDepth 100000 in
theorem impl_ToneFrom.calls (a0 : ByteArray) (r1 : Int) (r2 : Bool) (r3 : Bool) (w : World) (hG : GOk [0] w) (h : impl_ToneFrom.f a0 = some (r1, r2, r3)) :
  Calls Tryd.prog 17 #[.string a0] w fun e w' => e = .returned (.tuple #[.agg #[.int .i64 r1, .bool r2], .bool r3]) ∧ Below w.heap.size w w' := by
 have hu25 := Tryd.underlying25
 have HG := Aside0.mk hG
 have H := Aside0.mk h
 clear hG h
 go_enter Tryd.func17, Tryd.ntmps17
 go_wp2
 have BR : Aside0 ((w.alloc (.cells #[.int .i64 0, .bool false] 25)).heap[w.heap.size]? = some (.cells #[.int .i64 0, .bool false] 25 (0, 0))) := ⟨blk_new w _⟩
 have HB := Aside0.mk (below_alloc (Below.refl w.heap.size w) (.cells #[.int .i64 0, .bool false] 25))
 go_loopg [8] 21 (fun kq v8 w' => ∃ (i : Nat), v8 = .int .i64 i ∧ i + kq = 21 ∧ Aside0 (tfLoop a0 kq i = some (r1, r2, r3)) ∧ Aside0 (w'.heap[w.heap.size]? = some (.cells #[.int .i64 0, .bool false] 25 (0, 0))) ∧ Aside0 (Below w.heap.size w w'))
 case atStart => exact ⟨0, rfl, by omega, H, BR, HB⟩
 case round =>
  clear H BR HB
  obtain ⟨i, rfl, HI, H, BR, HB⟩ := hrel
  have y0 : wr.cell? ⟨w.heap.size, 0, none⟩ = some (.int .i64 0) := (blk_cell BR.out 0).trans rfl
  have y1 : wr.cell? ⟨w.heap.size, 1, none⟩ = some (.bool false) := (blk_cell BR.out 1).trans rfl
  have f0 := blk_frozen BR.out 0
  have f1 := blk_frozen BR.out 1
  cases gk with
  | zero =>
   have c1 := decide_eq_false (show ¬ ((i : Int) < 21) by omega)
   have E := H.out
   clear H
   simp only [tfLoop, Option.some.injEq, Prod.mk.injEq] at E
   obtain ⟨rfl, rfl, rfl⟩ := E
   go_wp2
   refine bodyPost_ret (results_ct rfl _ _ w.heap.size 25 #[.int .i64 0, .bool false] (0, 0) _ rfl (by refine blk_put (cs := #[.int .i64 0, .bool false]) ?_ 1 _ rfl; refine blk_put (cs := #[.int .i64 0, .bool false]) ?_ 0 _ rfl; exact BR.out) Tryd.underlying25 rfl (by kernel_rfl)) rfl ?_
   exact ⟨rfl, below_set (below_set HB.out (Nat.le_refl _)) (Nat.le_refl _)⟩
  | succ k1 =>
   have c1 := decide_eq_true (show ((i : Int) < 21) by omega)
   have HIL : Aside0 (i < 21) := ⟨by omega⟩
   have H2 : Aside0 (tfIn a0 k1 i 0 = some (r1, r2, r3)) := H
   clear H y0 y1 f0 f1
   go_wp2
   go_loopg [12] 2 (fun kq v12 w' => ∃ (j : Nat), v12 = .int .i64 j ∧ j + kq = 2 ∧ Aside0 (tfIn a0 k1 i j = some (r1, r2, r3)) ∧ Aside0 (w'.heap[w.heap.size]? = some (.cells #[.int .i64 0, .bool false] 25 (0, 0))) ∧ Aside0 (Below w.heap.size w w'))
   case atStart => exact ⟨0, rfl, by omega, H2, BR, HB⟩
   case round =>
    clear H2 BR HB
    obtain ⟨j, rfl, HJ, H2, BR, HB⟩ := hrel
    cases gk with
    | zero =>
     obtain rfl : j = 2 := by omega
     have HN : Aside0 (tfLoop a0 k1 ((i : Int) + 1) = some (r1, r2, r3)) := H2
     have wi : wrap64 ((i : Int) + 1) = ((i + 1 : Nat) : Int) := by unfold wrap64; omega
     go_wp2
     go_roundg k1
     case measure => omega
     case rel => exact ⟨i + 1, by first | (congr 1; done) | (rw [← wi]; done) | (simp; done), by omega, HN, BR, HB⟩
    | succ k2 =>
     have E := H2.out
     clear H2
     obtain rfl | rfl : j = 0 ∨ j = 1 := by omega
     ·
      unfold tfIn tfTry at E
      obtain ⟨v, A10, E⟩ := Option.bind_eq_some_iff.mp E
      have A1 := Aside0.mk A10
      clear A10
      by_cases c3 : v = true
      rotate_left
      ·replace c3 := Bool.eq_false_iff.mpr c3
       subst c3
       rw [if_neg (show ¬ (false = true) by decide)] at E
       have H3 : Aside0 (tfIn a0 k1 i 1 = some (r1, r2, r3)) := ⟨E⟩
       clear E
       go_wp2_with (first | (go_at_call 39; ((with_reducible refine (impl_Tone_valid.calls (i : Int) false false _ A1.out).mono ?_); rintro e w11 ⟨rfl, hb⟩; have n0_ : Aside0 (w11.heap[w.heap.size]? = some (.cells #[.int .i64 0, .bool false] 25 (0, 0))) := ⟨blk_below (blk_alloc BR.out _) hb⟩; have n1_ := Aside0.mk (below_step (below_alloc HB.out _) hb); have n2_ : Aside0 (w11.heap[wr.heap.size]? = some (.cells #[.int .i64 (i : Int), .bool false] 25 (0, 0))) := ⟨blk_below (blk_new wr _) hb⟩; clear BR HB hb; have BR := n0_; have HB := n1_; have B7 := n2_; clear n0_ n1_ n2_; have x0w11 : w11.cell? ⟨wr.heap.size, 0, none⟩ = some (.int .i64 (i : Int)) := (blk_cell B7.out 0).trans rfl; have x1w11 : w11.cell? ⟨wr.heap.size, 1, none⟩ = some (.bool false) := (blk_cell B7.out 1).trans rfl; have r0w11 : w11.cell? ⟨w.heap.size, 0, none⟩ = some (.int .i64 0) := (blk_cell BR.out 0).trans rfl; have r1w11 : w11.cell? ⟨w.heap.size, 1, none⟩ = some (.bool false) := (blk_cell BR.out 1).trans rfl; have r2w11 := blk_frozen BR.out 0; have r3w11 := blk_frozen BR.out 1)))
       go_roundg k2
       case measure => omega
       case rel => exact ⟨1, by first | rfl | (simp; done), by omega, H3, BR, HB⟩
      subst c3
      rw [if_pos rfl] at E
      obtain ⟨t, A20, E⟩ := Option.bind_eq_some_iff.mp E
      have A2 := Aside0.mk A20
      clear A20
      by_cases c4 : t.toList = a0.toList
      ·rw [if_pos c4] at E
       simp only [Option.some.injEq, Prod.mk.injEq] at E
       obtain ⟨rfl, rfl, rfl⟩ := E
       have c5 : (t.toList == a0.toList) = true := beq_iff_eq.mpr c4
       go_wp2_with (first | (go_at_call 39; ((with_reducible refine (impl_Tone_valid.calls (i : Int) false true _ A1.out).mono ?_); rintro e w11 ⟨rfl, hb⟩; have n0_ : Aside0 (w11.heap[w.heap.size]? = some (.cells #[.int .i64 0, .bool false] 25 (0, 0))) := ⟨blk_below (blk_alloc BR.out _) hb⟩; have n1_ := Aside0.mk (below_step (below_alloc HB.out _) hb); have n2_ : Aside0 (w11.heap[wr.heap.size]? = some (.cells #[.int .i64 (i : Int), .bool false] 25 (0, 0))) := ⟨blk_below (blk_new wr _) hb⟩; clear BR HB hb; have BR := n0_; have HB := n1_; have B7 := n2_; clear n0_ n1_ n2_; have x0w11 : w11.cell? ⟨wr.heap.size, 0, none⟩ = some (.int .i64 (i : Int)) := (blk_cell B7.out 0).trans rfl; have x1w11 : w11.cell? ⟨wr.heap.size, 1, none⟩ = some (.bool false) := (blk_cell B7.out 1).trans rfl; have r0w11 : w11.cell? ⟨w.heap.size, 0, none⟩ = some (.int .i64 0) := (blk_cell BR.out 0).trans rfl; have r1w11 : w11.cell? ⟨w.heap.size, 1, none⟩ = some (.bool false) := (blk_cell BR.out 1).trans rfl; have r2w11 := blk_frozen BR.out 0; have r3w11 := blk_frozen BR.out 1)) | (go_at_call 42; ((with_reducible refine (impl_Tone_text.calls (i : Int) false t _ (GOk.below HG.out HB.out) A2.out).mono ?_); rintro e w12 ⟨rfl, hb⟩; have n0_ : Aside0 (w12.heap[w.heap.size]? = some (.cells #[.int .i64 0, .bool false] 25 (0, 0))) := ⟨blk_below BR.out hb⟩; have n1_ := Aside0.mk (below_step HB.out hb); have n2_ : Aside0 (w12.heap[wr.heap.size]? = some (.cells #[.int .i64 (i : Int), .bool false] 25 (0, 0))) := ⟨blk_below B7.out hb⟩; clear BR HB B7 hb; have BR := n0_; have HB := n1_; have B7 := n2_; clear n0_ n1_ n2_; have x0w12 : w12.cell? ⟨wr.heap.size, 0, none⟩ = some (.int .i64 (i : Int)) := (blk_cell B7.out 0).trans rfl; have x1w12 : w12.cell? ⟨wr.heap.size, 1, none⟩ = some (.bool false) := (blk_cell B7.out 1).trans rfl; have r0w12 : w12.cell? ⟨w.heap.size, 0, none⟩ = some (.int .i64 0) := (blk_cell BR.out 0).trans rfl; have r1w12 : w12.cell? ⟨w.heap.size, 1, none⟩ = some (.bool false) := (blk_cell BR.out 1).trans rfl; have r2w12 := blk_frozen BR.out 0; have r3w12 := blk_frozen BR.out 1)))
       refine bodyPost_ret (results_ct rfl _ _ w.heap.size 25 #[.int .i64 (i : Int), .bool false] (0, 0) _ rfl (by refine blk_put (cs := #[.int .i64 (i : Int), .bool false]) ?_ 1 _ rfl; refine blk_put (cs := #[.int .i64 0, .bool false]) ?_ 0 _ rfl; exact BR.out) Tryd.underlying25 rfl (by kernel_rfl)) rfl ?_
       exact ⟨rfl, below_set (below_set HB.out (Nat.le_refl _)) (Nat.le_refl _)⟩
      rw [if_neg c4] at E
      have c5 : (t.toList == a0.toList) = false := beq_eq_false_iff_ne.mpr c4
      have H3 : Aside0 (tfIn a0 k1 i 1 = some (r1, r2, r3)) := ⟨E⟩
      clear E
      go_wp2_with (first | (go_at_call 39; ((with_reducible refine (impl_Tone_valid.calls (i : Int) false true _ A1.out).mono ?_); rintro e w11 ⟨rfl, hb⟩; have n0_ : Aside0 (w11.heap[w.heap.size]? = some (.cells #[.int .i64 0, .bool false] 25 (0, 0))) := ⟨blk_below (blk_alloc BR.out _) hb⟩; have n1_ := Aside0.mk (below_step (below_alloc HB.out _) hb); have n2_ : Aside0 (w11.heap[wr.heap.size]? = some (.cells #[.int .i64 (i : Int), .bool false] 25 (0, 0))) := ⟨blk_below (blk_new wr _) hb⟩; clear BR HB hb; have BR := n0_; have HB := n1_; have B7 := n2_; clear n0_ n1_ n2_; have x0w11 : w11.cell? ⟨wr.heap.size, 0, none⟩ = some (.int .i64 (i : Int)) := (blk_cell B7.out 0).trans rfl; have x1w11 : w11.cell? ⟨wr.heap.size, 1, none⟩ = some (.bool false) := (blk_cell B7.out 1).trans rfl; have r0w11 : w11.cell? ⟨w.heap.size, 0, none⟩ = some (.int .i64 0) := (blk_cell BR.out 0).trans rfl; have r1w11 : w11.cell? ⟨w.heap.size, 1, none⟩ = some (.bool false) := (blk_cell BR.out 1).trans rfl; have r2w11 := blk_frozen BR.out 0; have r3w11 := blk_frozen BR.out 1)) | (go_at_call 42; ((with_reducible refine (impl_Tone_text.calls (i : Int) false t _ (GOk.below HG.out HB.out) A2.out).mono ?_); rintro e w12 ⟨rfl, hb⟩; have n0_ : Aside0 (w12.heap[w.heap.size]? = some (.cells #[.int .i64 0, .bool false] 25 (0, 0))) := ⟨blk_below BR.out hb⟩; have n1_ := Aside0.mk (below_step HB.out hb); have n2_ : Aside0 (w12.heap[wr.heap.size]? = some (.cells #[.int .i64 (i : Int), .bool false] 25 (0, 0))) := ⟨blk_below B7.out hb⟩; clear BR HB B7 hb; have BR := n0_; have HB := n1_; have B7 := n2_; clear n0_ n1_ n2_; have x0w12 : w12.cell? ⟨wr.heap.size, 0, none⟩ = some (.int .i64 (i : Int)) := (blk_cell B7.out 0).trans rfl; have x1w12 : w12.cell? ⟨wr.heap.size, 1, none⟩ = some (.bool false) := (blk_cell B7.out 1).trans rfl; have r0w12 : w12.cell? ⟨w.heap.size, 0, none⟩ = some (.int .i64 0) := (blk_cell BR.out 0).trans rfl; have r1w12 : w12.cell? ⟨w.heap.size, 1, none⟩ = some (.bool false) := (blk_cell BR.out 1).trans rfl; have r2w12 := blk_frozen BR.out 0; have r3w12 := blk_frozen BR.out 1)))
      go_roundg k2
      case measure => omega
      case rel => exact ⟨1, by first | rfl | (simp; done), by omega, H3, BR, HB⟩
     ·
      unfold tfIn tfTry at E
      obtain ⟨v, A10, E⟩ := Option.bind_eq_some_iff.mp E
      have A1 := Aside0.mk A10
      clear A10
      by_cases c3 : v = true
      rotate_left
      ·replace c3 := Bool.eq_false_iff.mpr c3
       subst c3
       rw [if_neg (show ¬ (false = true) by decide)] at E
       have H3 : Aside0 (tfIn a0 k1 i 2 = some (r1, r2, r3)) := ⟨E⟩
       clear E
       go_wp2_with (first | (go_at_call 39; ((with_reducible refine (impl_Tone_valid.calls (i : Int) true false _ A1.out).mono ?_); rintro e w11 ⟨rfl, hb⟩; have n0_ : Aside0 (w11.heap[w.heap.size]? = some (.cells #[.int .i64 0, .bool false] 25 (0, 0))) := ⟨blk_below (blk_alloc BR.out _) hb⟩; have n1_ := Aside0.mk (below_step (below_alloc HB.out _) hb); have n2_ : Aside0 (w11.heap[wr.heap.size]? = some (.cells #[.int .i64 (i : Int), .bool true] 25 (0, 0))) := ⟨blk_below (blk_new wr _) hb⟩; clear BR HB hb; have BR := n0_; have HB := n1_; have B7 := n2_; clear n0_ n1_ n2_; have x0w11 : w11.cell? ⟨wr.heap.size, 0, none⟩ = some (.int .i64 (i : Int)) := (blk_cell B7.out 0).trans rfl; have x1w11 : w11.cell? ⟨wr.heap.size, 1, none⟩ = some (.bool true) := (blk_cell B7.out 1).trans rfl; have r0w11 : w11.cell? ⟨w.heap.size, 0, none⟩ = some (.int .i64 0) := (blk_cell BR.out 0).trans rfl; have r1w11 : w11.cell? ⟨w.heap.size, 1, none⟩ = some (.bool false) := (blk_cell BR.out 1).trans rfl; have r2w11 := blk_frozen BR.out 0; have r3w11 := blk_frozen BR.out 1)))
       go_roundg k2
       case measure => omega
       case rel => exact ⟨2, by first | rfl | (simp; done), by omega, H3, BR, HB⟩
      subst c3
      rw [if_pos rfl] at E
      obtain ⟨t, A20, E⟩ := Option.bind_eq_some_iff.mp E
      have A2 := Aside0.mk A20
      clear A20
      by_cases c4 : t.toList = a0.toList
      ·rw [if_pos c4] at E
       simp only [Option.some.injEq, Prod.mk.injEq] at E
       obtain ⟨rfl, rfl, rfl⟩ := E
       have c5 : (t.toList == a0.toList) = true := beq_iff_eq.mpr c4
       go_wp2_with (first | (go_at_call 39; ((with_reducible refine (impl_Tone_valid.calls (i : Int) true true _ A1.out).mono ?_); rintro e w11 ⟨rfl, hb⟩; have n0_ : Aside0 (w11.heap[w.heap.size]? = some (.cells #[.int .i64 0, .bool false] 25 (0, 0))) := ⟨blk_below (blk_alloc BR.out _) hb⟩; have n1_ := Aside0.mk (below_step (below_alloc HB.out _) hb); have n2_ : Aside0 (w11.heap[wr.heap.size]? = some (.cells #[.int .i64 (i : Int), .bool true] 25 (0, 0))) := ⟨blk_below (blk_new wr _) hb⟩; clear BR HB hb; have BR := n0_; have HB := n1_; have B7 := n2_; clear n0_ n1_ n2_; have x0w11 : w11.cell? ⟨wr.heap.size, 0, none⟩ = some (.int .i64 (i : Int)) := (blk_cell B7.out 0).trans rfl; have x1w11 : w11.cell? ⟨wr.heap.size, 1, none⟩ = some (.bool true) := (blk_cell B7.out 1).trans rfl; have r0w11 : w11.cell? ⟨w.heap.size, 0, none⟩ = some (.int .i64 0) := (blk_cell BR.out 0).trans rfl; have r1w11 : w11.cell? ⟨w.heap.size, 1, none⟩ = some (.bool false) := (blk_cell BR.out 1).trans rfl; have r2w11 := blk_frozen BR.out 0; have r3w11 := blk_frozen BR.out 1)) | (go_at_call 42; ((with_reducible refine (impl_Tone_text.calls (i : Int) true t _ (GOk.below HG.out HB.out) A2.out).mono ?_); rintro e w12 ⟨rfl, hb⟩; have n0_ : Aside0 (w12.heap[w.heap.size]? = some (.cells #[.int .i64 0, .bool false] 25 (0, 0))) := ⟨blk_below BR.out hb⟩; have n1_ := Aside0.mk (below_step HB.out hb); have n2_ : Aside0 (w12.heap[wr.heap.size]? = some (.cells #[.int .i64 (i : Int), .bool true] 25 (0, 0))) := ⟨blk_below B7.out hb⟩; clear BR HB B7 hb; have BR := n0_; have HB := n1_; have B7 := n2_; clear n0_ n1_ n2_; have x0w12 : w12.cell? ⟨wr.heap.size, 0, none⟩ = some (.int .i64 (i : Int)) := (blk_cell B7.out 0).trans rfl; have x1w12 : w12.cell? ⟨wr.heap.size, 1, none⟩ = some (.bool true) := (blk_cell B7.out 1).trans rfl; have r0w12 : w12.cell? ⟨w.heap.size, 0, none⟩ = some (.int .i64 0) := (blk_cell BR.out 0).trans rfl; have r1w12 : w12.cell? ⟨w.heap.size, 1, none⟩ = some (.bool false) := (blk_cell BR.out 1).trans rfl; have r2w12 := blk_frozen BR.out 0; have r3w12 := blk_frozen BR.out 1)))
       refine bodyPost_ret (results_ct rfl _ _ w.heap.size 25 #[.int .i64 (i : Int), .bool true] (0, 0) _ rfl (by refine blk_put (cs := #[.int .i64 (i : Int), .bool false]) ?_ 1 _ rfl; refine blk_put (cs := #[.int .i64 0, .bool false]) ?_ 0 _ rfl; exact BR.out) Tryd.underlying25 rfl (by kernel_rfl)) rfl ?_
       exact ⟨rfl, below_set (below_set HB.out (Nat.le_refl _)) (Nat.le_refl _)⟩
      rw [if_neg c4] at E
      have c5 : (t.toList == a0.toList) = false := beq_eq_false_iff_ne.mpr c4
      have H3 : Aside0 (tfIn a0 k1 i 2 = some (r1, r2, r3)) := ⟨E⟩
      clear E
      go_wp2_with (first | (go_at_call 39; ((with_reducible refine (impl_Tone_valid.calls (i : Int) true true _ A1.out).mono ?_); rintro e w11 ⟨rfl, hb⟩; have n0_ : Aside0 (w11.heap[w.heap.size]? = some (.cells #[.int .i64 0, .bool false] 25 (0, 0))) := ⟨blk_below (blk_alloc BR.out _) hb⟩; have n1_ := Aside0.mk (below_step (below_alloc HB.out _) hb); have n2_ : Aside0 (w11.heap[wr.heap.size]? = some (.cells #[.int .i64 (i : Int), .bool true] 25 (0, 0))) := ⟨blk_below (blk_new wr _) hb⟩; clear BR HB hb; have BR := n0_; have HB := n1_; have B7 := n2_; clear n0_ n1_ n2_; have x0w11 : w11.cell? ⟨wr.heap.size, 0, none⟩ = some (.int .i64 (i : Int)) := (blk_cell B7.out 0).trans rfl; have x1w11 : w11.cell? ⟨wr.heap.size, 1, none⟩ = some (.bool true) := (blk_cell B7.out 1).trans rfl; have r0w11 : w11.cell? ⟨w.heap.size, 0, none⟩ = some (.int .i64 0) := (blk_cell BR.out 0).trans rfl; have r1w11 : w11.cell? ⟨w.heap.size, 1, none⟩ = some (.bool false) := (blk_cell BR.out 1).trans rfl; have r2w11 := blk_frozen BR.out 0; have r3w11 := blk_frozen BR.out 1)) | (go_at_call 42; ((with_reducible refine (impl_Tone_text.calls (i : Int) true t _ (GOk.below HG.out HB.out) A2.out).mono ?_); rintro e w12 ⟨rfl, hb⟩; have n0_ : Aside0 (w12.heap[w.heap.size]? = some (.cells #[.int .i64 0, .bool false] 25 (0, 0))) := ⟨blk_below BR.out hb⟩; have n1_ := Aside0.mk (below_step HB.out hb); have n2_ : Aside0 (w12.heap[wr.heap.size]? = some (.cells #[.int .i64 (i : Int), .bool true] 25 (0, 0))) := ⟨blk_below B7.out hb⟩; clear BR HB B7 hb; have BR := n0_; have HB := n1_; have B7 := n2_; clear n0_ n1_ n2_; have x0w12 : w12.cell? ⟨wr.heap.size, 0, none⟩ = some (.int .i64 (i : Int)) := (blk_cell B7.out 0).trans rfl; have x1w12 : w12.cell? ⟨wr.heap.size, 1, none⟩ = some (.bool true) := (blk_cell B7.out 1).trans rfl; have r0w12 : w12.cell? ⟨w.heap.size, 0, none⟩ = some (.int .i64 0) := (blk_cell BR.out 0).trans rfl; have r1w12 : w12.cell? ⟨w.heap.size, 1, none⟩ = some (.bool false) := (blk_cell BR.out 1).trans rfl; have r2w12 := blk_frozen BR.out 0; have r3w12 := blk_frozen BR.out 1)))
      go_roundg k2
      case measure => omega
      case rel => exact ⟨2, by first | rfl | (simp; done), by omega, H3, BR, HB⟩
end Go.Proofs.YtlinjleahnccgaaDoor.E
end
section
namespace Go.Proofs.YtlinjleahnccgaaDoor.E
open Go.RowKit Go.Proofs.YtlinjleahnccgaaDoorW.PrintWords Go.Proofs.YtlinjleahnccgaaDoorW.PrintLast Go.Proofs.YtlinjleahnccgaaDoorW.PrintMore
attribute [local go_sem] max2_int min2_int max_two min_two max_three min_three max_four min_four
set_option linter.unusedVariables false
set_option linter.unusedSimpArgs false
attribute [local go_sem] str_leq_ str_gtr_ str_geq_
def strings_Split.f (a0 a1 : ByteArray) : Option (List ByteArray) := if a0.size < 4294967281 then (if 1 ≤ a1.size then some (Go.Lib.splitB a1 0 (Go.Lib.countB a0 a1) a0) else none) else none
theorem new_blk (w : World) (o : Obj) : (w.alloc o).heap[w.heap.size]? = some o := by
 show (w.heap.push o)[w.heap.size]? = some o
 exact Array.getElem?_push_size
theorem strings_Split.calls (a0 a1 : ByteArray) (r : List ByteArray) (w : World) (hG : GOk [2] w) (h : strings_Split.f a0 a1 = some r) :
  Calls Tryd.prog 53 #[.string a0, .string a1] w fun e w' => ∃ v0_ : Value, e = .returned (v0_) ∧ Kd.R Kd.string 9 w' w.heap.size (fun _ => True) v0_ r ∧ Below w.heap.size w w' := by
 unfold strings_Split.f at h
 by_cases h1 : a0.size < 4294967281
 rotate_left
 ·rw [if_neg h1] at h; cases h
 by_cases h2 : 1 ≤ a1.size
 ·rw [if_pos h1, if_pos h2] at h
  obtain rfl := Option.some.inj h
  obtain ⟨m, hm⟩ := hG 2 (by decide)
  have hle := Go.Lib.countB_le a1 h2 a0.size a0 (Nat.le_refl _)
  have hlen := Go.Lib.splitB_all a1 h2 0 _ a0 rfl
  refine (Go.Proofs.Any.strings_Split Tryd.laysSplit (by kernel_rfl) a0 a1 m w h1 hm h2).mono ?_
  rintro e w' ⟨rfl, rfl⟩
  have hn : (Go.Lib.splitB a1 0 (Go.Lib.countB a0 a1) a0).length = Go.Lib.countB a0 a1 + 1 := hlen
  refine ⟨_, rfl, ?_, below_alloc (Below.refl _ _) _⟩
  rw [← hn]
  refine Kd.R_of_own (enc := Value.string) (h1 := fun _ => rfl) ⟨by simp [encs], .inr ⟨w.heap.size, _, _, rfl, Nat.le_refl _, new_blk _ _, Nat.le_refl _, ?_, ?_, ?_⟩⟩ (fun _ _ => trivial)
  ·rw [hn]; unfold maxLen; omega
  ·simp
  ·simp only [encs, Nat.mul_one]
   exact List.take_of_length_le (by simp)
 ·rw [if_pos h1, if_neg h2] at h; cases h
end Go.Proofs.YtlinjleahnccgaaDoor.E
end
section
namespace Go.Proofs.YtlinjleahnccgaaDoor.E
open Go.RowKit Go.Proofs.YtlinjleahnccgaaDoorW.PrintWords Go.Proofs.YtlinjleahnccgaaDoorW.PrintLast Go.Proofs.YtlinjleahnccgaaDoorW.PrintMore
attribute [local go_sem] max2_int min2_int max_two min_two max_three min_three max_four min_four
set_option linter.unusedVariables false
set_option linter.unusedSimpArgs false
attribute [local go_sem] str_leq_ str_gtr_ str_geq_
def impl_MelodyFrom.l0 : Nat → List (S25) → List ByteArray → Int → Int → Option ((List (S25)) × Bool)
 | 0, _, _, _, _ => none
 | k + 1, x4, x14, x15, x16 => if x16 < x15 then (if 0 ≤ x16 then (if x16 < (x14.length : Int) then ((impl_ToneFrom.f (rdOf ByteArray.empty x14 x16)).bind fun bt336 => (if bt336.2.2 = true then (if (x4.length : Int) = 24 then (some (([] : List (S25)), false)) else (if x4.length < 8796093022208 then (impl_MelodyFrom.l0 k (x4 ++ [(⟨bt336.1, bt336.2.1⟩ : S25)]) x14 x15 (wrap64 (x16 + 1))) else (none))) else (some (([] : List (S25)), false)))) else (none)) else (none)) else (some (x4, true))
def impl_MelodyFrom.f (k : Nat) (a0 : ByteArray) : Option ((List (S25)) × Bool) := (some (([] : List (S25)) : List (S25))).bind fun y329 => (if a0.toList = ([] : List UInt8) then (some (y329, true)) else ((strings_Split.f a0 (⟨#[32]⟩ : ByteArray)).bind fun t332 => (impl_MelodyFrom.l0 k y329 t332 (t332.length : Int) 0)))
set_option maxHeartbeats 8000000 in
set_option maxRecDepth 100000 in
theorem impl_MelodyFrom.calls (k : Nat) (a0 : ByteArray) (r1 : List (S25)) (r2 : Bool) (w : World) (hG : GOk [0, 2] w) (h : impl_MelodyFrom.f k a0 = some (r1, r2)) :
  Calls Tryd.prog 29 #[.string a0] w fun e w' => ∃ v0_ : Value, e = .returned (.tuple #[v0_, .bool r2]) ∧ Kd.R k25 25 w' w.heap.size (fun _ => True) v0_ r1 ∧ Below w.heap.size w w' := by
 have hu25 := Tryd.underlying25
 have HB := Aside0.mk (Below.refl w.heap.size w)
 have HG := Aside0.mk hG
 clear hG
 have H : ((some (([] : List (S25)) : List (S25))).bind fun y329 => (if a0.toList = ([] : List UInt8) then (some (y329, true)) else ((strings_Split.f a0 (⟨#[32]⟩ : ByteArray)).bind fun t332 => (impl_MelodyFrom.l0 k y329 t332 (t332.length : Int) 0)))) = some (r1, r2) := h
 clear h
 obtain ⟨y329, hy329⟩ : ∃ y_ : List (S25), y_ = (([] : List (S25))) := ⟨_, rfl⟩
 replace H : (if a0.toList = ([] : List UInt8) then (some (y329, true)) else ((strings_Split.f a0 (⟨#[32]⟩ : ByteArray)).bind fun t332 => (impl_MelodyFrom.l0 k y329 t332 (t332.length : Int) 0))) = some (r1, r2) := by first | (rw [hy329]; with_reducible exact H) | (have H2_ := (Option.bind_some _ _).symm.trans H; rw [hy329]; with_reducible exact H2_) | (have H2_ := (Option.bind_some _ _).symm.trans H; with_reducible exact H2_) | with_reducible exact H | (rw [hy329]; exact H) | exact H
 have Ny329 := Aside0.mk hy329
 clear hy329
 by_cases c2 : a0.toList = ([] : List UInt8)
 ·rw [if_pos c2] at H
  have c2b0 : (a0.toList == ([] : List UInt8)) = true := beq_iff_eq.mpr c2
  have c2b1 : (a0.toList != ([] : List UInt8)) = false := bne_eq_false_iff_eq.mpr c2
  clear c2
  simp only [Option.some.injEq, Prod.mk.injEq] at H
  obtain ⟨rfl, rfl⟩ := H
  go_enter Tryd.func29, Tryd.ntmps29
  go_wp2_with (first | ((with_reducible refine gate_dst (N := 9) rfl ?_); (try (refine gate_guard (by rfl) ?_; dsimp only)); refine Kd.R_lit k25 _ 25 ?hg (N := 9) ?hd (xs := ([] : List (S25))) (inner := []) (ok := fun _ => True) (okp := fun _ => True) ?hr ?hp (fun _ hk => hk) trivial (Below.refl _ _) (Nat.le_refl _) (by simp) ?_; (case hd => rfl); (case hg => rfl); (case hr => first | (go_simp; done) | (go_simp; rfl)); (case hp => exact (Reps.none _ _)); intro v330 w3 ho4 hb hg_ hnew_; clear hg_ hnew_; (first | rw [← Ny329.out] at ho4 | (simp only [Int.reduceToNat] at ho4; rw [← Ny329.out] at ho4)); have n0_ := Aside0.mk (Kd.R_lower ho4 (below_size (by repeat (first | (with_reducible first | exact HB.out | apply below_alloc | apply pw_below_drewN | apply below_drew1) | exact HB.out)))); have n1_ := Aside0.mk (below_step (by repeat (first | (with_reducible first | exact HB.out | apply below_alloc | apply pw_below_drewN | apply below_drew1) | exact HB.out)) hb); clear HB; have HO331 := n0_; have HB := n1_; clear n0_ n1_; clear hb ho4))
  go_ret2
  exact ⟨_, by first | rfl | (simp [errW_none, errW_some] <;> rfl) | (simp [*, errW_none, errW_some] <;> rfl), by (with_reducible repeat (first | apply Kd.R_alloc | apply Kd.R_drewN | apply Kd.R_drew)); exact HO331.out, by repeat (first | (with_reducible first | exact HB.out | apply below_alloc | apply pw_below_drewN | apply below_drew1) | exact HB.out)⟩
 rw [if_neg c2] at H
 have c2b0 : (a0.toList == ([] : List UInt8)) = false := beq_eq_false_iff_ne.mpr c2
 have c2b1 : (a0.toList != ([] : List UInt8)) = true := bne_iff_ne.mpr c2
 replace H := Option.bind_eq_some_iff.mp H
 obtain ⟨t332, A50, H⟩ := H
 replace H : (impl_MelodyFrom.l0 k y329 t332 (t332.length : Int) 0) = some (r1, r2) := H
 have A5 := Aside0.mk A50
 clear A50
 have H' := Aside0.mk H
 clear H
 go_enter Tryd.func29, Tryd.ntmps29
 go_wp2_with (first | ((with_reducible refine gate_dst (N := 9) rfl ?_); (try (refine gate_guard (by rfl) ?_; dsimp only)); refine Kd.R_lit k25 _ 25 ?hg (N := 9) ?hd (xs := ([] : List (S25))) (inner := []) (ok := fun _ => True) (okp := fun _ => True) ?hr ?hp (fun _ hk => hk) trivial (Below.refl _ _) (Nat.le_refl _) (by simp) ?_; (case hd => rfl); (case hg => rfl); (case hr => first | (go_simp; done) | (go_simp; rfl)); (case hp => exact (Reps.none _ _)); intro v330 w6 ho7 hb hg_ hnew_; clear hg_ hnew_; (first | rw [← Ny329.out] at ho7 | (simp only [Int.reduceToNat] at ho7; rw [← Ny329.out] at ho7)); have n0_ := Aside0.mk (Kd.R_lower ho7 (below_size (by repeat (first | (with_reducible first | exact HB.out | apply below_alloc | apply pw_below_drewN | apply below_drew1) | exact HB.out)))); have n1_ := Aside0.mk (below_step (by repeat (first | (with_reducible first | exact HB.out | apply below_alloc | apply pw_below_drewN | apply below_drew1) | exact HB.out)) hb); clear HB; have HO331 := n0_; have HB := n1_; clear n0_ n1_; clear hb ho7) | ((with_reducible refine gate_callee (f := 53) rfl ?_); refine goesL_ (some 14) rfl rfl Tryd.func53 (by kernel_rfl) rfl #[.string a0, .string (⟨#[32]⟩ : ByteArray)] rfl (by (try simp only [List.map_toArray, List.map_cons, List.map_nil]); first | done | rfl | (simp only [List.length_drop, List.length_take]; rfl)) ?_; (with_reducible refine (strings_Split.calls a0 (⟨#[32]⟩ : ByteArray) t332 _ ?side1 A5.out).mono ?_); (case side1 => exact GOk.sub (GOk.below HG.out (by repeat (first | (with_reducible first | exact HB.out | apply below_alloc | apply pw_below_drewN | apply below_drew1) | exact HB.out))) (by decide)); rintro e w8 ⟨v333, rfl, ho0, hb⟩; refine ⟨_, rfl, ?_⟩; have n0_ := Aside0.mk (Kd.R_below (by (with_reducible repeat (first | apply Kd.R_alloc | apply Kd.R_drewN | apply Kd.R_drew)); exact HO331.out) hb); have n1_ := Aside0.mk (Kd.R_lower ho0 (below_size (by repeat (first | (with_reducible first | exact HB.out | apply below_alloc | apply pw_below_drewN | apply below_drew1) | exact HB.out)))); have n2_ := Aside0.mk (below_step (by repeat (first | (with_reducible first | exact HB.out | apply below_alloc | apply pw_below_drewN | apply below_drew1) | exact HB.out)) hb); clear HO331; clear HB; have HO331 := n0_; have HO334 := n1_; have HB := n2_; clear n0_ n1_ n2_; (try clear hb); (try clear hb2); (try clear hk); (try clear hi); (try clear ho0); obtain ⟨Ao9, co9, eo9⟩ := Kd.R_slice HO334.out; subst eo9))
 go_loopg [4, 16] k (fun kq v4 v16 w' => ∃ (x4_1 : List (S25)) (x16_1 : Int), v16 = .int .i64 x16_1 ∧ Aside0 (impl_MelodyFrom.l0 kq x4_1 t332 (t332.length : Int) x16_1 = some (r1, r2)) ∧ Aside0 (kq ≤ k) ∧ Aside0 (Kd.R k25 25 w' w.heap.size (fun _ => True) v4 x4_1) ∧ Aside0 (Kd.R Kd.string 9 w' w.heap.size (fun _ => True) (.slice Ao9 t332.length co9) t332) ∧ Aside0 (Below w.heap.size w w'))
 case atStart => exact ⟨(y329), (0), (by first | rfl | (simp; done) | (simp [*]; done)), H', ⟨Nat.le_refl _⟩, ⟨by (with_reducible repeat (first | apply Kd.R_alloc | apply Kd.R_drewN | apply Kd.R_drew)); exact HO331.out⟩, ⟨by (with_reducible repeat (first | apply Kd.R_alloc | apply Kd.R_drewN | apply Kd.R_drew)); exact HO334.out⟩, ⟨by repeat (first | (with_reducible first | exact HB.out | apply below_alloc | apply pw_below_drewN | apply below_drew1) | exact HB.out)⟩⟩
 case round =>
  clear H'
  try clear c2
  try clear c2b0
  try clear c2b1
  try clear p2
  try clear c5
  obtain ⟨x4_1, x16_1, rfl, HA, HK1, HO_4, HO_14, HB⟩ := hrel
  cases gk with
  | zero => exact absurd HA.out (by simp [impl_MelodyFrom.l0])
  | succ k1 =>
   have H := HA.out
   clear HA
   simp only [impl_MelodyFrom.l0] at H
   by_cases c10 : x16_1 < (t332.length : Int)
   rotate_left
   ·rw [if_neg c10] at H
    have c10b0 : decide (x16_1 < (t332.length : Int)) = false := decide_eq_false c10
    clear c10
    simp only [Option.some.injEq, Prod.mk.injEq] at H
    obtain ⟨rfl, rfl⟩ := H
    go_wp2
    go_ret2
    exact ⟨_, by first | rfl | (simp [errW_none, errW_some] <;> rfl) | (simp [*, errW_none, errW_some] <;> rfl), by (with_reducible repeat (first | apply Kd.R_alloc | apply Kd.R_drewN | apply Kd.R_drew)); exact HO_4.out, by repeat (first | (with_reducible first | exact HB.out | apply below_alloc | apply pw_below_drewN | apply below_drew1) | exact HB.out)⟩
   rw [if_pos c10] at H
   have c10b0 : decide (x16_1 < (t332.length : Int)) = true := decide_eq_true c10
   clear c10
   by_cases c11 : 0 ≤ x16_1
   rotate_left
   ·rw [if_neg c11] at H
    exact absurd H (by simp)
   rw [if_pos c11] at H
   have c11b0 : decide (0 ≤ x16_1) = true := decide_eq_true c11
   clear c11
   by_cases c12 : x16_1 < (t332.length : Int)
   rotate_left
   ·rw [if_neg c12] at H
    exact absurd H (by simp)
   rw [if_pos c12] at H
   have c12b0 : decide (x16_1 < (t332.length : Int)) = true := decide_eq_true c12
   clear c12
   replace H := Option.bind_eq_some_iff.mp H
   obtain ⟨⟨t336, t337, t338⟩, A130, H⟩ := H
   replace H : (if t338 = true then (if (x4_1.length : Int) = 24 then (some (([] : List (S25)), false)) else (if x4_1.length < 8796093022208 then (impl_MelodyFrom.l0 k1 (x4_1 ++ [(⟨t336, t337⟩ : S25)]) t332 (t332.length : Int) (wrap64 (x16_1 + 1))) else (none))) else (some (([] : List (S25)), false))) = some (r1, r2) := H
   have A13 := Aside0.mk A130
   clear A130
   by_cases c14 : t338 = true
   rotate_left
   ·replace c14 := Bool.eq_false_iff.mpr c14
    subst c14
    have H1 : (some (([] : List (S25)), false)) = some (r1, r2) := by rw [if_neg (show ¬ (false = true) by decide)] at H; exact H
    clear H
    have H := H1
    clear H1
    simp only [Option.some.injEq, Prod.mk.injEq] at H
    obtain ⟨rfl, rfl⟩ := H
    have p335 : 0 ≤ (x16_1 : Int) := of_decide_eq_true (by first | (with_reducible assumption) | assumption)
    have q335 : x16_1 < (t332.length : Int) := of_decide_eq_true (by first | (with_reducible assumption) | assumption)
    obtain ⟨ad335, e335, hx335_0⟩ := Kd.at_string (Kd.R_reads' HO_14.out).2.2 x16_1 p335 q335
    cases e335
    replace p335 := eq_true p335
    replace q335 := eq_true q335
    go_wp2_with (first | ((with_reducible refine gate_callee (f := 17) rfl ?_); refine goesL_ (some 22) rfl rfl Tryd.func17 (by kernel_rfl) rfl #[.string (rdOf ByteArray.empty t332 x16_1)] rfl (by (try simp only [List.map_toArray, List.map_cons, List.map_nil]); first | done | rfl | (simp only [List.length_drop, List.length_take]; rfl)) ?_; (with_reducible refine (impl_ToneFrom.calls (rdOf ByteArray.empty t332 x16_1) t336 t337 false _ ?side1 A13.out).mono ?_); (case side1 => exact GOk.sub (GOk.below HG.out (by repeat (first | (with_reducible first | exact HB.out | apply below_alloc | apply pw_below_drewN | apply below_drew1) | exact HB.out))) (by decide)); rintro e w26 ⟨rfl, hb⟩; refine ⟨_, rfl, ?_⟩; have n0_ := Aside0.mk (Kd.R_below (by (with_reducible repeat (first | apply Kd.R_alloc | apply Kd.R_drewN | apply Kd.R_drew)); exact HO_4.out) hb); have n1_ := Aside0.mk (Kd.R_below (by (with_reducible repeat (first | apply Kd.R_alloc | apply Kd.R_drewN | apply Kd.R_drew)); exact HO_14.out) hb); have n2_ := Aside0.mk (below_step (by repeat (first | (with_reducible first | exact HB.out | apply below_alloc | apply pw_below_drewN | apply below_drew1) | exact HB.out)) hb); clear HO_4; clear HO_14; clear HB; have HO_4 := n0_; have HO_14 := n1_; have HB := n2_; clear n0_ n1_ n2_; (try clear hb); (try clear hb2); (try clear hk); (try clear hi)) | ((with_reducible refine gate_dst (N := 7) rfl ?_); (try (refine gate_guard (by rfl) ?_; dsimp only)); refine box_event ?hg (N := 7) ?hd (cs := #[.int .i64 0, .bool false]) (t := 25) ?hr ?_; (case hd => rfl); (case hg => rfl); (case hr => first | (go_simp; done) | (go_simp; rfl)); intro gb339 hg w27 hbox hb; have n0_ := Aside0.mk (Kd.R_below (Kd.R_elderB (by (with_reducible repeat (first | apply Kd.R_alloc | apply Kd.R_drewN | apply Kd.R_drew)); exact HO_4.out) gb339 (Nat.le_of_eq hg.symm)) hb); have n1_ := Aside0.mk (Kd.R_below (by (with_reducible repeat (first | apply Kd.R_alloc | apply Kd.R_drewN | apply Kd.R_drew)); exact HO_14.out) hb); have n2_ := Aside0.mk (below_step (by repeat (first | (with_reducible first | exact HB.out | apply below_alloc | apply pw_below_drewN | apply below_drew1) | exact HB.out)) hb); have n3_ := Aside0.mk (hbox); have n4_ := Aside0.mk ((by rw [hg]; exact (below_size (by repeat (first | (with_reducible first | exact HB.out | apply below_alloc | apply pw_below_drewN | apply below_drew1) | exact HB.out))) : w.heap.size ≤ gb339)); have n5_ := Aside0.mk ((by rw [hg]; exact (below_size (by repeat (first | (with_reducible first | exact HB.out | apply below_alloc | apply pw_below_drewN | apply below_drew1) | exact HB.out))) : w.heap.size ≤ gb339)); clear HO_4; clear HO_14; clear HB; have HO_4 := n0_; have HO_14 := n1_; have HB := n2_; have BK339 := n3_; have GW339 := n4_; have GE339 := n5_; clear n0_ n1_ n2_ n3_ n4_ n5_; clear hb hbox hg; have hcz28_0 : w27.cell? ⟨gb339, 0, none⟩ = some (.int .i64 0) := (blk_cell BK339.out 0).trans rfl; have hcz28_1 : w27.cell? ⟨gb339, 1, none⟩ = some (.bool false) := (blk_cell BK339.out 1).trans rfl; have hfz28_0 := blk_frozen BK339.out 0; have hfz28_1 := blk_frozen BK339.out 1))
    go_ret2
    exact ⟨_, by first | rfl | (simp [errW_none, errW_some] <;> rfl) | (simp [*, errW_none, errW_some] <;> rfl), by first | exact Kd.R_nil _ _ _ _ _ | exact Kd.N_nil _ _ _ _ _ | exact Kd.V_nil _ _ _ _ _ | exact Kd.Q_nil _ _ _ _ _ | exact Kd.S_nil _ _ _ _ _, by repeat (first | (with_reducible first | exact HB.out | apply below_alloc | apply pw_below_drewN | apply below_drew1 | refine below_set ?_ GE339.out) | exact HB.out)⟩
   subst c14
   have H1 : (if (x4_1.length : Int) = 24 then (some (([] : List (S25)), false)) else (if x4_1.length < 8796093022208 then (impl_MelodyFrom.l0 k1 (x4_1 ++ [(⟨t336, t337⟩ : S25)]) t332 (t332.length : Int) (wrap64 (x16_1 + 1))) else (none))) = some (r1, r2) := by rw [if_pos rfl] at H; exact H
   clear H
   have H := H1
   clear H1
   by_cases c15 : (x4_1.length : Int) = 24
   ·rw [if_pos c15] at H
    have c15b0 : ((x4_1.length : Int) == 24) = true := beq_iff_eq.mpr c15
    have c15b1 : ((x4_1.length : Int) != 24) = false := bne_eq_false_iff_eq.mpr c15
    clear c15
    simp only [Option.some.injEq, Prod.mk.injEq] at H
    obtain ⟨rfl, rfl⟩ := H
    have p335 : 0 ≤ (x16_1 : Int) := of_decide_eq_true (by first | (with_reducible assumption) | assumption)
    have q335 : x16_1 < (t332.length : Int) := of_decide_eq_true (by first | (with_reducible assumption) | assumption)
    obtain ⟨ad335, e335, hx335_0⟩ := Kd.at_string (Kd.R_reads' HO_14.out).2.2 x16_1 p335 q335
    cases e335
    replace p335 := eq_true p335
    replace q335 := eq_true q335
    go_wp2_with (first | ((with_reducible refine gate_callee (f := 17) rfl ?_); refine goesL_ (some 22) rfl rfl Tryd.func17 (by kernel_rfl) rfl #[.string (rdOf ByteArray.empty t332 x16_1)] rfl (by (try simp only [List.map_toArray, List.map_cons, List.map_nil]); first | done | rfl | (simp only [List.length_drop, List.length_take]; rfl)) ?_; (with_reducible refine (impl_ToneFrom.calls (rdOf ByteArray.empty t332 x16_1) t336 t337 true _ ?side1 A13.out).mono ?_); (case side1 => exact GOk.sub (GOk.below HG.out (by repeat (first | (with_reducible first | exact HB.out | apply below_alloc | apply pw_below_drewN | apply below_drew1) | exact HB.out))) (by decide)); rintro e w16 ⟨rfl, hb⟩; refine ⟨_, rfl, ?_⟩; have n0_ := Aside0.mk (Kd.R_below (by (with_reducible repeat (first | apply Kd.R_alloc | apply Kd.R_drewN | apply Kd.R_drew)); exact HO_4.out) hb); have n1_ := Aside0.mk (Kd.R_below (by (with_reducible repeat (first | apply Kd.R_alloc | apply Kd.R_drewN | apply Kd.R_drew)); exact HO_14.out) hb); have n2_ := Aside0.mk (below_step (by repeat (first | (with_reducible first | exact HB.out | apply below_alloc | apply pw_below_drewN | apply below_drew1) | exact HB.out)) hb); clear HO_4; clear HO_14; clear HB; have HO_4 := n0_; have HO_14 := n1_; have HB := n2_; clear n0_ n1_ n2_; (try clear hb); (try clear hb2); (try clear hk); (try clear hi)) | ((with_reducible refine gate_dst (N := 7) rfl ?_); (try (refine gate_guard (by rfl) ?_; dsimp only)); refine box_event ?hg (N := 7) ?hd (cs := #[.int .i64 0, .bool false]) (t := 25) ?hr ?_; (case hd => rfl); (case hg => rfl); (case hr => first | (go_simp; done) | (go_simp; rfl)); intro gb339 hg w17 hbox hb; have n0_ := Aside0.mk (Kd.R_below (Kd.R_elderB (by (with_reducible repeat (first | apply Kd.R_alloc | apply Kd.R_drewN | apply Kd.R_drew)); exact HO_4.out) gb339 (Nat.le_of_eq hg.symm)) hb); have n1_ := Aside0.mk (Kd.R_below (by (with_reducible repeat (first | apply Kd.R_alloc | apply Kd.R_drewN | apply Kd.R_drew)); exact HO_14.out) hb); have n2_ := Aside0.mk (below_step (by repeat (first | (with_reducible first | exact HB.out | apply below_alloc | apply pw_below_drewN | apply below_drew1) | exact HB.out)) hb); have n3_ := Aside0.mk (hbox); have n4_ := Aside0.mk ((by rw [hg]; exact (below_size (by repeat (first | (with_reducible first | exact HB.out | apply below_alloc | apply pw_below_drewN | apply below_drew1) | exact HB.out))) : w.heap.size ≤ gb339)); have n5_ := Aside0.mk ((by rw [hg]; exact (below_size (by repeat (first | (with_reducible first | exact HB.out | apply below_alloc | apply pw_below_drewN | apply below_drew1) | exact HB.out))) : w.heap.size ≤ gb339)); clear HO_4; clear HO_14; clear HB; have HO_4 := n0_; have HO_14 := n1_; have HB := n2_; have BK339 := n3_; have GW339 := n4_; have GE339 := n5_; clear n0_ n1_ n2_ n3_ n4_ n5_; clear hb hbox hg; have hcz18_0 : w17.cell? ⟨gb339, 0, none⟩ = some (.int .i64 0) := (blk_cell BK339.out 0).trans rfl; have hcz18_1 : w17.cell? ⟨gb339, 1, none⟩ = some (.bool false) := (blk_cell BK339.out 1).trans rfl; have hfz18_0 := blk_frozen BK339.out 0; have hfz18_1 := blk_frozen BK339.out 1; obtain ⟨Ao19, co19, eo19⟩ := Kd.R_slice HO_4.out; subst eo19))
    go_ret2
    exact ⟨_, by first | rfl | (simp [errW_none, errW_some] <;> rfl) | (simp [*, errW_none, errW_some] <;> rfl), by first | exact Kd.R_nil _ _ _ _ _ | exact Kd.N_nil _ _ _ _ _ | exact Kd.V_nil _ _ _ _ _ | exact Kd.Q_nil _ _ _ _ _ | exact Kd.S_nil _ _ _ _ _, by repeat (first | (with_reducible first | exact HB.out | apply below_alloc | apply pw_below_drewN | apply below_drew1 | refine below_set ?_ GE339.out) | exact HB.out)⟩
   rw [if_neg c15] at H
   have c15b0 : ((x4_1.length : Int) == 24) = false := beq_eq_false_iff_ne.mpr c15
   have c15b1 : ((x4_1.length : Int) != 24) = true := bne_iff_ne.mpr c15
   by_cases c20 : x4_1.length < 8796093022208
   rotate_left
   ·rw [if_neg c20] at H
    exact absurd H (by simp)
   rw [if_pos c20] at H
   have LMc20 := Aside0.mk c20
   clear c20
   obtain ⟨y340, hy340⟩ : ∃ y_ : List (S25), y_ = (x4_1 ++ [(⟨t336, t337⟩ : S25)]) := ⟨_, rfl⟩
   replace H : (impl_MelodyFrom.l0 k1 y340 t332 (t332.length : Int) (wrap64 (x16_1 + 1))) = some (r1, r2) := by first | (rw [hy340]; with_reducible exact H) | (have H2_ := (Option.bind_some _ _).symm.trans H; rw [hy340]; with_reducible exact H2_) | (have H2_ := (Option.bind_some _ _).symm.trans H; with_reducible exact H2_) | with_reducible exact H | (rw [hy340]; exact H) | exact H
   have Ny340 := Aside0.mk hy340
   clear hy340
   have H' := Aside0.mk H
   clear H
   have p335 : 0 ≤ (x16_1 : Int) := of_decide_eq_true (by first | (with_reducible assumption) | assumption)
   have q335 : x16_1 < (t332.length : Int) := of_decide_eq_true (by first | (with_reducible assumption) | assumption)
   obtain ⟨ad335, e335, hx335_0⟩ := Kd.at_string (Kd.R_reads' HO_14.out).2.2 x16_1 p335 q335
   cases e335
   replace p335 := eq_true p335
   replace q335 := eq_true q335
   go_wp2_with (first | ((with_reducible refine gate_callee (f := 17) rfl ?_); refine goesL_ (some 22) rfl rfl Tryd.func17 (by kernel_rfl) rfl #[.string (rdOf ByteArray.empty t332 x16_1)] rfl (by (try simp only [List.map_toArray, List.map_cons, List.map_nil]); first | done | rfl | (simp only [List.length_drop, List.length_take]; rfl)) ?_; (with_reducible refine (impl_ToneFrom.calls (rdOf ByteArray.empty t332 x16_1) t336 t337 true _ ?side1 A13.out).mono ?_); (case side1 => exact GOk.sub (GOk.below HG.out (by repeat (first | (with_reducible first | exact HB.out | apply below_alloc | apply pw_below_drewN | apply below_drew1) | exact HB.out))) (by decide)); rintro e w21 ⟨rfl, hb⟩; refine ⟨_, rfl, ?_⟩; have n0_ := Aside0.mk (Kd.R_below (by (with_reducible repeat (first | apply Kd.R_alloc | apply Kd.R_drewN | apply Kd.R_drew)); exact HO_4.out) hb); have n1_ := Aside0.mk (Kd.R_below (by (with_reducible repeat (first | apply Kd.R_alloc | apply Kd.R_drewN | apply Kd.R_drew)); exact HO_14.out) hb); have n2_ := Aside0.mk (below_step (by repeat (first | (with_reducible first | exact HB.out | apply below_alloc | apply pw_below_drewN | apply below_drew1) | exact HB.out)) hb); clear HO_4; clear HO_14; clear HB; have HO_4 := n0_; have HO_14 := n1_; have HB := n2_; clear n0_ n1_ n2_; (try clear hb); (try clear hb2); (try clear hk); (try clear hi)) | ((with_reducible refine gate_dst (N := 7) rfl ?_); (try (refine gate_guard (by rfl) ?_; dsimp only)); refine box_event ?hg (N := 7) ?hd (cs := #[.int .i64 0, .bool false]) (t := 25) ?hr ?_; (case hd => rfl); (case hg => rfl); (case hr => first | (go_simp; done) | (go_simp; rfl)); intro gb339 hg w22 hbox hb; have n0_ := Aside0.mk (Kd.R_below (Kd.R_elderB (by (with_reducible repeat (first | apply Kd.R_alloc | apply Kd.R_drewN | apply Kd.R_drew)); exact HO_4.out) gb339 (Nat.le_of_eq hg.symm)) hb); have n1_ := Aside0.mk (Kd.R_below (by (with_reducible repeat (first | apply Kd.R_alloc | apply Kd.R_drewN | apply Kd.R_drew)); exact HO_14.out) hb); have n2_ := Aside0.mk (below_step (by repeat (first | (with_reducible first | exact HB.out | apply below_alloc | apply pw_below_drewN | apply below_drew1) | exact HB.out)) hb); have n3_ := Aside0.mk (hbox); have n4_ := Aside0.mk ((by rw [hg]; exact (below_size (by repeat (first | (with_reducible first | exact HB.out | apply below_alloc | apply pw_below_drewN | apply below_drew1) | exact HB.out))) : w.heap.size ≤ gb339)); have n5_ := Aside0.mk ((by rw [hg]; exact (below_size (by repeat (first | (with_reducible first | exact HB.out | apply below_alloc | apply pw_below_drewN | apply below_drew1) | exact HB.out))) : w.heap.size ≤ gb339)); clear HO_4; clear HO_14; clear HB; have HO_4 := n0_; have HO_14 := n1_; have HB := n2_; have BK339 := n3_; have GW339 := n4_; have GE339 := n5_; clear n0_ n1_ n2_ n3_ n4_ n5_; clear hb hbox hg; have hcz23_0 : w22.cell? ⟨gb339, 0, none⟩ = some (.int .i64 0) := (blk_cell BK339.out 0).trans rfl; have hcz23_1 : w22.cell? ⟨gb339, 1, none⟩ = some (.bool false) := (blk_cell BK339.out 1).trans rfl; have hfz23_0 := blk_frozen BK339.out 0; have hfz23_1 := blk_frozen BK339.out 1; obtain ⟨Ao24, co24, eo24⟩ := Kd.R_slice HO_4.out; subst eo24) | ((with_reducible refine gate_builtin (b := .append) (xs := #[.tmp 32, .tmp 34]) rfl ?_); (try (refine gate_guard (by rfl) ?_; dsimp only)); at_builtin; refine Kd.R_append k25 (w0 := w) w.heap.size rfl (.tmp 32) (.tmp 34) 41 25 (.agg #[(.int .i64 0), (.bool false)]) 16 rfl Tryd.underlying41 info25 rfl (by decide) (by omega) (.slice Ao24 x4_1.length co24) x4_1 (⟨t336, t337⟩ : S25) [.int .i64 t336, .bool t337] (fun k_ => k_ ≠ gb339) (fun _ => False) rfl (by first | (go_simp; done) | (go_simp; rfl)) ?aP (fun _ hk => hk.elim) ?aF ?aO ?aB ?aS ?aL ?_; (case aP => exact k25_mkM _ _ _ (⟨t336, t337⟩ : S25)); (case aB => exact (by repeat (first | (with_reducible first | exact HB.out | apply below_alloc | apply pw_below_drewN | apply below_drew1 | refine below_set ?_ GE339.out) | exact HB.out))); (case aF => exact (fun k_ hk => Kd.freshB (g := gb339) (o := .cells #[.int .i64 t336, .bool t337] 25 (0, 0)) (by (with_reducible repeat (first | refine blk_drewN ?_ _ | refine blk_drew ?_ | refine blk_alloc ?_ _)); refine blk_put (cs := #[.int .i64 t336, .bool false]) ?_ 1 _ rfl; (with_reducible repeat (first | refine blk_drewN ?_ _ | refine blk_drew ?_ | refine blk_alloc ?_ _)); refine blk_put (cs := #[.int .i64 0, .bool false]) ?_ 0 _ rfl; (with_reducible repeat (first | refine blk_drewN ?_ _ | refine blk_drew ?_ | refine blk_alloc ?_ _)); exact BK339.out) k_ hk)); (case aO => exact (by (with_reducible repeat (first | apply Kd.R_alloc | apply Kd.R_drewN | apply Kd.R_drew)); exact Kd.R_mono (Kd.R_far (p := ⟨gb339, 1, none⟩) (Kd.R_far (p := ⟨gb339, 0, none⟩) (Kd.R_mono HO_4.out (fun k_ hk => (⟨hk, hk.2⟩ : _ ∧ k_ ≠ gb339))) (fun _ hk => hk.2) (.int .i64 t336)) (fun _ hk => hk.2) (.bool t337)) (fun _ hk => hk.1.2))); (case aS => exact (below_size (by repeat (first | (with_reducible first | exact HB.out | apply below_alloc | apply pw_below_drewN | apply below_drew1 | refine below_set ?_ GE339.out) | exact HB.out)))); (case aL => have := LMc20.out; omega); intro v341 w25 ho hb hg hat; rw [← Ny340.out] at ho; have n0_ := Aside0.mk (Kd.R_over' (by (with_reducible repeat (first | apply Kd.R_alloc | apply Kd.R_drewN | apply Kd.R_drew)); exact (Kd.R_mono (Kd.R_far (p := ⟨gb339, 1, none⟩) (Kd.R_far (p := ⟨gb339, 0, none⟩) (Kd.R_types HO_14.out BK339.out (by decide)) (fun _ hk => hk.2) (.int .i64 t336)) (fun _ hk => hk.2) (.bool t337)) (fun _ h_ => h_.1))) (Kd.R_typed (by (with_reducible repeat (first | apply Kd.R_alloc | apply Kd.R_drewN | apply Kd.R_drew)); exact (Kd.R_mono (Kd.R_far (p := ⟨gb339, 1, none⟩) (Kd.R_far (p := ⟨gb339, 0, none⟩) (Kd.R_mono HO_4.out (fun k_ hk => (⟨hk, hk.2⟩ : _ ∧ k_ ≠ gb339))) (fun _ hk => hk.2) (.int .i64 t336)) (fun _ hk => hk.2) (.bool t337)) (fun _ h_ => h_.1)))) (by decide) hg); have n1_ := Aside0.mk (blk_grown (g := gb339) (o := .cells #[.int .i64 t336, .bool t337] 25 (0, 0)) (by (with_reducible repeat (first | refine blk_drewN ?_ _ | refine blk_drew ?_ | refine blk_alloc ?_ _)); refine blk_put (cs := #[.int .i64 t336, .bool false]) ?_ 1 _ rfl; (with_reducible repeat (first | refine blk_drewN ?_ _ | refine blk_drew ?_ | refine blk_alloc ?_ _)); refine blk_put (cs := #[.int .i64 0, .bool false]) ?_ 0 _ rfl; (with_reducible repeat (first | refine blk_drewN ?_ _ | refine blk_drew ?_ | refine blk_alloc ?_ _)); exact BK339.out) hg (Kd.R_away HO_4.out (fun _ hk => hk.2))); have n2_ := Aside0.mk (hb); have n3_ := Aside0.mk (ho); clear HO_14; clear BK339; clear HB; clear HO_4; have HO_14 := n0_; have BK339 := n1_; have HB := n2_; have HO342 := n3_; clear n0_ n1_ n2_ n3_; clear ho hb hg hat))
   go_roundg k1
   case measure => have := HK1.out; omega
   case rel => exact ⟨(y340), (wrap64 (x16_1 + 1)), (by first | rfl | (simp; done) | (simp [*]; done)), H', ⟨by have := HK1.out; omega⟩, ⟨by (with_reducible repeat (first | apply Kd.R_alloc | apply Kd.R_drewN | apply Kd.R_drew)); exact Kd.R_mono HO342.out (fun _ hk => trivial)⟩, ⟨by (with_reducible repeat (first | apply Kd.R_alloc | apply Kd.R_drewN | apply Kd.R_drew)); exact HO_14.out⟩, ⟨by repeat (first | (with_reducible first | exact HB.out | apply below_alloc | apply pw_below_drewN | apply below_drew1 | refine below_set ?_ GE339.out) | exact HB.out)⟩⟩
end Go.Proofs.YtlinjleahnccgaaDoor.E
end
section
namespace Go.Proofs.YtlinjleahnccgaaDoor.E
open Go.RowKit Go.Proofs.YtlinjleahnccgaaDoorW.PrintWords Go.Proofs.YtlinjleahnccgaaDoorW.PrintLast Go.Proofs.YtlinjleahnccgaaDoorW.PrintMore
attribute [local go_sem] max2_int min2_int max_two min_two max_three min_three max_four min_four
set_option linter.unusedVariables false
set_option linter.unusedSimpArgs false
attribute [local go_sem] str_leq_ str_gtr_ str_geq_
def laws_markToneS.l0 : Nat → List (S25) → Int → Int → Option (Int × (List (S25)))
 | 0, _, _, _ => none
 | k + 1, x0, x1, x5 => if x5 < (x0.length : Int) then (if 0 ≤ x5 then ((some (x0.set (x5 : Int).toNat (⟨x1, (rd_T25 x0 x5).f1⟩ : S25) : List (S25))).bind fun y343 => (laws_markToneS.l0 k (y343.set (x5 : Int).toNat (⟨(rd_T25 y343 x5).f0, ((Int.tmod (wrap64 (x1 + 1)) 3) == 0)⟩ : S25)) (wrap64 ((wrap64 (x1 + 1)) + 1)) (wrap64 (x5 + 1)))) else (none)) else (some (x1, x0))
def laws_markToneS.f (k : Nat) (l0 : List (S25)) (a1 : Int) : Option (Int × (List (S25))) := laws_markToneS.l0 k l0 a1 0
set_option maxHeartbeats 8000000 in
set_option maxRecDepth 100000 in
theorem laws_markToneS.calls (k : Nat) (P0_ : Nat → Prop) (u9000_ : Value) (l0 : List (S25)) (a1 : Int) (r1 : Int) (r2 : List (S25)) (w0 w : World) (hB : Below w0.heap.size w0 w) (ho0 : Kd.R k25 25 w w0.heap.size P0_ u9000_ l0) (h : laws_markToneS.f k l0 a1 = some (r1, r2)) :
  Calls Tryd.prog 30 #[u9000_, .int .i64 a1] w fun e w' => e = .returned (.int .i64 r1) ∧ Kd.R k25 25 w' w0.heap.size (fun k_ => (P0_ k_ ∨ w.heap.size ≤ k_)) u9000_ r2 ∧ Below w0.heap.size w0 w' ∧ Kept w w' (fun k_ => P0_ k_) := by
 have HO0 := Aside0.mk (show Kd.R k25 25 w w0.heap.size (fun k_ => (P0_ k_ ∨ w.heap.size ≤ k_)) u9000_ l0 from Kd.R_mono ho0 (fun k_ hk => (.inl hk)))
 have HK := Aside0.mk (Kept.refl w (fun k_ => P0_ k_))
 have HW0 := Aside0.mk hB.size
 have HB := Aside0.mk hB
 clear hB
 have H : (laws_markToneS.l0 k l0 a1 0) = some (r1, r2) := h
 clear h
 have H' := Aside0.mk H
 clear H
 go_enter Tryd.func30, Tryd.ntmps30
 go_wp2
 go_loopg [1, 5] k (fun kq v1 v5 w' => ∃ (x0_1 : List (S25)) (x1_1 : Int) (x5_1 : Int), v1 = .int .i64 x1_1 ∧ v5 = .int .i64 x5_1 ∧ Aside0 (laws_markToneS.l0 kq x0_1 x1_1 x5_1 = some (r1, r2)) ∧ Aside0 (kq ≤ k) ∧ Aside0 (Kd.R k25 25 w' w0.heap.size (fun k_ => (P0_ k_ ∨ w.heap.size ≤ k_)) u9000_ x0_1) ∧ Aside0 (Kept w w' (fun k_ => P0_ k_)) ∧ Aside0 (Below w0.heap.size w0 w'))
 case atStart => exact ⟨(l0), (a1), (0), (by first | rfl | (simp; done) | (simp [*]; done)), (by first | rfl | (simp; done) | (simp [*]; done)), H', ⟨Nat.le_refl _⟩, ⟨by (with_reducible repeat (first | apply Kd.R_alloc | apply Kd.R_drewN | apply Kd.R_drew)); exact HO0.out⟩, ⟨by repeat (first | (with_reducible first | exact HK.out | apply Kept.alloc | apply Kept.drewN | apply Kept.drew) | exact HK.out)⟩, ⟨by repeat (first | (with_reducible first | exact HB.out | apply below_alloc | apply pw_below_drewN | apply below_drew1) | exact HB.out)⟩⟩
 case round =>
  clear H'
  try clear p2
  obtain ⟨x0_1, x1_1, x5_1, rfl, rfl, HA, HK1, HO_0, HK, HB⟩ := hrel
  cases gk with
  | zero => exact absurd HA.out (by simp [laws_markToneS.l0])
  | succ k1 =>
   have H := HA.out
   clear HA
   simp only [laws_markToneS.l0] at H
   by_cases c3 : x5_1 < (x0_1.length : Int)
   rotate_left
   ·rw [if_neg c3] at H
    have c3b0 : decide (x5_1 < (x0_1.length : Int)) = false := decide_eq_false c3
    clear c3
    simp only [Option.some.injEq, Prod.mk.injEq] at H
    obtain ⟨rfl, rfl⟩ := H
    obtain ⟨Ao12, co12, eo12⟩ := Kd.R_slice HO_0.out
    subst eo12
    go_wp2
    go_ret
    exact ⟨by first | (simp only [IntKind.wrap_i64, Go.RowKit.wrap64]; rfl) | rfl | (simp [errW_none, errW_some] <;> rfl) | (simp [*, errW_none, errW_some] <;> rfl), by (with_reducible repeat (first | apply Kd.R_alloc | apply Kd.R_drewN | apply Kd.R_drew)); exact HO_0.out, by repeat (first | (with_reducible first | exact HB.out | apply below_alloc | apply pw_below_drewN | apply below_drew1) | exact HB.out), by repeat (first | (with_reducible first | exact HK.out | apply Kept.alloc | apply Kept.drewN | apply Kept.drew) | exact HK.out)⟩
   rw [if_pos c3] at H
   have c3b0 : decide (x5_1 < (x0_1.length : Int)) = true := decide_eq_true c3
   clear c3
   by_cases c4 : 0 ≤ x5_1
   rotate_left
   ·rw [if_neg c4] at H
    exact absurd H (by simp)
   rw [if_pos c4] at H
   have c4b0 : decide (0 ≤ x5_1) = true := decide_eq_true c4
   clear c4
   obtain ⟨y343, hy343⟩ : ∃ y_ : List (S25), y_ = (x0_1.set (x5_1 : Int).toNat (⟨x1_1, (rd_T25 x0_1 x5_1).f1⟩ : S25)) := ⟨_, rfl⟩
   replace H : (laws_markToneS.l0 k1 (y343.set (x5_1 : Int).toNat (⟨(rd_T25 y343 x5_1).f0, ((Int.tmod (wrap64 (x1_1 + 1)) 3) == 0)⟩ : S25)) (wrap64 ((wrap64 (x1_1 + 1)) + 1)) (wrap64 (x5_1 + 1))) = some (r1, r2) := by first | (rw [hy343]; with_reducible exact H) | (have H2_ := (Option.bind_some _ _).symm.trans H; rw [hy343]; with_reducible exact H2_) | (have H2_ := (Option.bind_some _ _).symm.trans H; with_reducible exact H2_) | with_reducible exact H | (rw [hy343]; exact H) | exact H
   have Ny343 := Aside0.mk hy343
   clear hy343
   obtain ⟨y344, hy344⟩ : ∃ y_ : List (S25), y_ = (y343.set (x5_1 : Int).toNat (⟨(rd_T25 y343 x5_1).f0, ((Int.tmod (wrap64 (x1_1 + 1)) 3) == 0)⟩ : S25)) := ⟨_, rfl⟩
   replace H : (laws_markToneS.l0 k1 y344 (wrap64 ((wrap64 (x1_1 + 1)) + 1)) (wrap64 (x5_1 + 1))) = some (r1, r2) := by first | (rw [hy344]; with_reducible exact H) | (have H2_ := (Option.bind_some _ _).symm.trans H; rw [hy344]; with_reducible exact H2_) | (have H2_ := (Option.bind_some _ _).symm.trans H; with_reducible exact H2_) | with_reducible exact H | (rw [hy344]; exact H) | exact H
   have Ny344 := Aside0.mk hy344
   clear hy344
   have H' := Aside0.mk H
   clear H
   obtain ⟨Ao7, co7, eo7⟩ := Kd.R_slice HO_0.out
   subst eo7
   have p5 : 0 ≤ (x5_1 : Int) := of_decide_eq_true (by first | (with_reducible assumption) | assumption)
   have q5 : (x5_1 : Int) < ((x0_1.length : Int) : Int) := of_decide_eq_true (by first | (with_reducible assumption) | assumption)
   obtain ⟨go5, co5, eo5, gb5, gl5, cl5, HG5⟩ := Kd.R_form HO_0.out (by omega)
   (first | cases eo5 | (injection eo5 with ea_ en_ ec_; (first | subst ea_ | (injection ea_ with ea_; subst ea_)); subst ec_; clear en_))
   have GB5 := Aside0.mk gb5
   have GG5 := Aside0.mk HG5
   clear gb5 gl5 HG5
   have HMgo5 := Aside0.mk (show (P0_ go5 ∨ w.heap.size ≤ go5) from (HO_0.out.1 _ rfl))
   obtain ⟨ce5, hcl5, hM5, hcc5, hfr5⟩ := Kd.R_elem HO_0.out z25 (x5_1 : Int) p5 q5
   obtain rfl := k25_openM hM5
   have hx5_0 : wr.cell? ⟨go5, (x5_1 : Int).toNat * 2, none⟩ = some (.int .i64 ((rd_T25 x0_1 x5_1).f0)) := hcc5 0 _ rfl
   have hx5_1 : wr.cell? ⟨go5, (x5_1 : Int).toNat * 2 + 1, none⟩ = some (.bool ((rd_T25 x0_1 x5_1).f1)) := hcc5 1 _ rfl
   have hf5_0 : wr.frozen? ⟨go5, (x5_1 : Int).toNat * 2, none⟩ = false := hfr5 0
   have hf5_1 : wr.frozen? ⟨go5, (x5_1 : Int).toNat * 2 + 1, none⟩ = false := hfr5 1
   (try clear hM5); clear hcl5 hcc5 hfr5
   replace p5 := eq_true p5
   replace q5 := eq_true q5
   have HX8 := Aside0.mk (show Kd.R k25 25 wr w0.heap.size (fun k_ => (P0_ k_ ∨ w.heap.size ≤ k_)) (.slice (some ⟨go5, 0, none⟩) x0_1.length co7) x0_1 from (by (with_reducible repeat (first | apply Kd.R_alloc | apply Kd.R_drewN | apply Kd.R_drew)); exact HO_0.out))
   obtain ⟨ce8, hcl8, hM8, hcc8, hfr8⟩ := Kd.R_elem HX8.out z25 (x5_1 : Int) (of_decide_eq_true (by first | (with_reducible assumption) | assumption)) (by have h_ : (x5_1 : Int) < ((x0_1.length : Int) : Int) := of_decide_eq_true (by first | (with_reducible assumption) | assumption); first | exact h_ | (have e_ := (Kd.R_reads' HO_0.out).1; omega) | simpa using h_)
   obtain rfl := k25_openM hM8
   have HP8 := Kd.R_seg HX8.out (x5_1 : Int) (of_decide_eq_true (by first | (with_reducible assumption) | assumption)) (by have h_ : (x5_1 : Int) < ((x0_1.length : Int) : Int) := of_decide_eq_true (by first | (with_reducible assumption) | assumption); first | exact h_ | (have e_ := (Kd.R_reads' HO_0.out).1; omega) | simpa using h_) (seg := [.int .i64 x1_1]) (j := 0) hcl8 hcc8 (show 1 ≤ 2 from by decide) (x' := (⟨x1_1, (rd_T25 x0_1 x5_1).f1⟩ : S25)) (k25_mkM _ _ _ (⟨x1_1, (rd_T25 x0_1 x5_1).f1⟩ : S25) ) (fun _ hk => hk)
   have hx8_0 := hcc8 0 _ rfl
   (try simp only [show (k25).sz = 2 from rfl, Nat.mul_one, Nat.add_zero] at hx8_0)
   have hf8_0 := hfr8 0
   (try simp only [show (k25).sz = 2 from rfl, Nat.mul_one, Nat.add_zero] at hf8_0)
   (try clear hM8); clear hcl8 hcc8 hfr8
   go_wp2_with (first | ((with_reducible refine gate_store (t := 3) (p := 16) rfl ?_); refine store_event (t := 3) (p := 16) (v := ?vo_w9) (w1 := (wr.setCell ⟨go5, (x5_1 : Int).toNat * 2, none⟩ (.int .i64 x1_1))) ?hg ?ho ?hn ?hr ?_; (case ho => rfl); (case hg => rfl); (case hn => rfl); (case hr => first | (go_simp; done) | (go_simp; rfl)); intro w9 hw; have hg : wr.grownBy w9 (some go5) := (by rw [hw]; exact HP8.2); have hp_ : Kd.R k25 25 w9 w0.heap.size (fun k_ => (P0_ k_ ∨ w.heap.size ≤ k_)) (.slice (some ⟨go5, 0, none⟩) x0_1.length co7) y343 := (by rw [hw, Ny343.out]; exact HP8.1); clear HP8; have n0_ := Aside0.mk (hp_); have n1_ := Aside0.mk ((by rw [hw]; exact below_set (HB.out) GB5.out : Below w0.heap.size w0 w9)); have n2_ := Aside0.mk (Kept.of_grown (S := (fun k_ => P0_ k_)) hg (by repeat (first | (with_reducible first | exact HK.out | apply Kept.alloc | apply Kept.drewN | apply Kept.drew) | exact HK.out)) (fun k_ e_ => (HO_0.out.1 k_ e_))); clear HO_0; clear HB; clear HK; have HO_0 := n0_; have HB := n1_; have HK := n2_; clear n0_ n1_ n2_; clear hg hw hp_; have p6 : 0 ≤ (x5_1 : Int) := of_decide_eq_true (by first | (with_reducible assumption) | assumption); have q6 : (x5_1 : Int) < ((x0_1.length : Int) : Int) := of_decide_eq_true (by first | (with_reducible assumption) | assumption); obtain ⟨ce6, hcl6, hM6, hcc6, hfr6⟩ := Kd.R_elem HO_0.out z25 (x5_1 : Int) p6 q6; obtain rfl := k25_openM hM6; have hx6_0 : w9.cell? ⟨go5, (x5_1 : Int).toNat * 2, none⟩ = some (.int .i64 ((rd_T25 y343 x5_1).f0)) := hcc6 0 _ rfl; have hx6_1 : w9.cell? ⟨go5, (x5_1 : Int).toNat * 2 + 1, none⟩ = some (.bool ((rd_T25 y343 x5_1).f1)) := hcc6 1 _ rfl; have hf6_0 : w9.frozen? ⟨go5, (x5_1 : Int).toNat * 2, none⟩ = false := hfr6 0; have hf6_1 : w9.frozen? ⟨go5, (x5_1 : Int).toNat * 2 + 1, none⟩ = false := hfr6 1; (try clear hM6); clear hcl6 hcc6 hfr6; replace p6 := eq_true p6; replace q6 := eq_true q6; have HX10 := Aside0.mk (show Kd.R k25 25 w9 w0.heap.size (fun k_ => (P0_ k_ ∨ w.heap.size ≤ k_)) (.slice (some ⟨go5, 0, none⟩) x0_1.length co7) y343 from (by (with_reducible repeat (first | apply Kd.R_alloc | apply Kd.R_drewN | apply Kd.R_drew)); exact HO_0.out)); obtain ⟨ce10, hcl10, hM10, hcc10, hfr10⟩ := Kd.R_elem HX10.out z25 (x5_1 : Int) (of_decide_eq_true (by first | (with_reducible assumption) | assumption)) (by have h_ : (x5_1 : Int) < ((x0_1.length : Int) : Int) := of_decide_eq_true (by first | (with_reducible assumption) | assumption); first | exact h_ | (have e_ := (Kd.R_reads' HO_0.out).1; omega) | simpa using h_); obtain rfl := k25_openM hM10; have HP10 := Kd.R_seg HX10.out (x5_1 : Int) (of_decide_eq_true (by first | (with_reducible assumption) | assumption)) (by have h_ : (x5_1 : Int) < ((x0_1.length : Int) : Int) := of_decide_eq_true (by first | (with_reducible assumption) | assumption); first | exact h_ | (have e_ := (Kd.R_reads' HO_0.out).1; omega) | simpa using h_) (seg := [.bool ((Int.tmod (wrap64 (x1_1 + 1)) 3) == 0)]) (j := 1) hcl10 hcc10 (show 2 ≤ 2 from by decide) (x' := (⟨(rd_T25 y343 x5_1).f0, ((Int.tmod (wrap64 (x1_1 + 1)) 3) == 0)⟩ : S25)) (k25_mkM _ _ _ (⟨(rd_T25 y343 x5_1).f0, ((Int.tmod (wrap64 (x1_1 + 1)) 3) == 0)⟩ : S25) ) (fun _ hk => hk); have hx10_1 := hcc10 1 _ rfl; (try simp only [show (k25).sz = 2 from rfl, Nat.mul_one, Nat.add_zero] at hx10_1); have hf10_1 := hfr10 1; (try simp only [show (k25).sz = 2 from rfl, Nat.mul_one, Nat.add_zero] at hf10_1); (try clear hM10); clear hcl10 hcc10 hfr10) | ((with_reducible refine gate_store (t := 4) (p := 25) rfl ?_); refine store_event (t := 4) (p := 25) (v := ?vo_w11) (w1 := (w9.setCell ⟨go5, (x5_1 : Int).toNat * 2 + 1, none⟩ (.bool ((Int.tmod (wrap64 (x1_1 + 1)) 3) == 0)))) ?hg ?ho ?hn ?hr ?_; (case ho => rfl); (case hg => rfl); (case hn => rfl); (case hr => first | (go_simp; done) | (go_simp; rfl)); intro w11 hw; have hg : w9.grownBy w11 (some go5) := (by rw [hw]; exact HP10.2); have hp_ : Kd.R k25 25 w11 w0.heap.size (fun k_ => (P0_ k_ ∨ w.heap.size ≤ k_)) (.slice (some ⟨go5, 0, none⟩) x0_1.length co7) y344 := (by rw [hw, Ny344.out]; exact HP10.1); clear HP10; have n0_ := Aside0.mk (hp_); have n1_ := Aside0.mk ((by rw [hw]; exact below_set (HB.out) GB5.out : Below w0.heap.size w0 w11)); have n2_ := Aside0.mk (Kept.of_grown (S := (fun k_ => P0_ k_)) hg (by repeat (first | (with_reducible first | exact HK.out | apply Kept.alloc | apply Kept.drewN | apply Kept.drew) | exact HK.out)) (fun k_ e_ => (HO_0.out.1 k_ e_))); clear HO_0; clear HB; clear HK; have HO_0 := n0_; have HB := n1_; have HK := n2_; clear n0_ n1_ n2_; clear hg hw hp_))
   go_roundg k1
   case measure => have := HK1.out; omega
   case rel => exact ⟨(y344), (wrap64 ((wrap64 (x1_1 + 1)) + 1)), (wrap64 (x5_1 + 1)), (by first | rfl | (simp; done) | (simp [*]; done)), (by first | rfl | (simp; done) | (simp [*]; done)), H', ⟨by have := HK1.out; omega⟩, ⟨by (with_reducible repeat (first | apply Kd.R_alloc | apply Kd.R_drewN | apply Kd.R_drew)); exact HO_0.out⟩, ⟨by repeat (first | (with_reducible first | exact HK.out | apply Kept.alloc | apply Kept.drewN | apply Kept.drew) | exact HK.out)⟩, ⟨by repeat (first | (with_reducible first | exact HB.out | apply below_alloc | apply pw_below_drewN | apply below_drew1) | exact HB.out)⟩⟩
end Go.Proofs.YtlinjleahnccgaaDoor.E
end
section
namespace Go.Proofs.YtlinjleahnccgaaDoor.E
open Go.RowKit Go.Proofs.YtlinjleahnccgaaDoorW.PrintWords Go.Proofs.YtlinjleahnccgaaDoorW.PrintLast Go.Proofs.YtlinjleahnccgaaDoorW.PrintMore
attribute [local go_sem] max2_int min2_int max_two min_two max_three min_three max_four min_four
set_option linter.unusedVariables false
set_option linter.unusedSimpArgs false
attribute [local go_sem] str_leq_ str_gtr_ str_geq_
def laws_heldToneS.l0 : Nat → List (S25) → Int → Int → Option (Int)
 | 0, _, _, _ => none
 | k + 1, x0, x1, x5 => if x5 < (x0.length : Int) then (if 0 ≤ x5 then (if ((rd_T25 x0 x5).f0) = x1 then (if (((rd_T25 x0 x5).f1) != ((Int.tmod (wrap64 (x1 + 1)) 3) == 0)) = true then (some (-1)) else (laws_heldToneS.l0 k x0 (wrap64 ((wrap64 (x1 + 1)) + 1)) (wrap64 (x5 + 1)))) else (some (-1))) else (none)) else (some x1)
def laws_heldToneS.f (k : Nat) (l0 : List (S25)) (a1 : Int) : Option (Int) := laws_heldToneS.l0 k l0 a1 0
set_option maxHeartbeats 8000000 in
set_option maxRecDepth 100000 in
theorem laws_heldToneS.calls (k : Nat) (A0 : Option Addr) (c0 : Nat) (l0 : List (S25)) (a1 : Int) (r : Int) (w : World) (hr0 : Kd.C k25 w A0 l0.length l0) (hc0 : l0.length ≤ c0) (h : laws_heldToneS.f k l0 a1 = some r) :
  Calls Tryd.prog 31 #[.slice A0 l0.length c0, .int .i64 a1] w fun e w' => e = .returned (.int .i64 r) ∧ Drawn0 w w' := by
 have HR0 := Aside0.mk hr0
 have HC0 := Aside0.mk hc0
 clear hr0 hc0
 have H : (laws_heldToneS.l0 k l0 a1 0) = some r := h
 clear h
 have H' := Aside0.mk H
 clear H
 go_enter Tryd.func31, Tryd.ntmps31
 go_wp2
 go_loopg [1, 5] k (fun kq v1 v5 w' => ∃ (x1_1 : Int) (x5_1 : Int), v1 = .int .i64 x1_1 ∧ v5 = .int .i64 x5_1 ∧ Aside0 (laws_heldToneS.l0 kq l0 x1_1 x5_1 = some r) ∧ Aside0 (kq ≤ k) ∧ Drawn0 w w')
 case atStart => exact ⟨(a1), (0), (by first | rfl | (simp; done) | (simp [*]; done)), (by first | rfl | (simp; done) | (simp [*]; done)), H', ⟨Nat.le_refl _⟩, by repeat (first | exact Drawn0.refl _ | apply Drawn0.step)⟩
 case round =>
  clear H'
  try clear p2
  obtain ⟨x1_1, x5_1, rfl, rfl, HA, HK1, ⟨m1, rfl⟩⟩ := hrel
  cases gk with
  | zero => exact absurd HA.out (by simp [laws_heldToneS.l0])
  | succ k1 =>
   have H := HA.out
   clear HA
   simp only [laws_heldToneS.l0] at H
   by_cases c3 : x5_1 < (l0.length : Int)
   rotate_left
   ·rw [if_neg c3] at H
    have c3b0 : decide (x5_1 < (l0.length : Int)) = false := decide_eq_false c3
    clear c3
    obtain rfl := Option.some.inj H
    go_wp2
    go_ret
    exact ⟨by first | rfl | (simp; done) | (simp [*]; done), by repeat (first | exact Drawn0.refl _ | apply Drawn0.step)⟩
   rw [if_pos c3] at H
   have c3b0 : decide (x5_1 < (l0.length : Int)) = true := decide_eq_true c3
   clear c3
   by_cases c4 : 0 ≤ x5_1
   rotate_left
   ·rw [if_neg c4] at H
    exact absurd H (by simp)
   rw [if_pos c4] at H
   have c4b0 : decide (0 ≤ x5_1) = true := decide_eq_true c4
   clear c4
   by_cases c5 : ((rd_T25 l0 x5_1).f0) = x1_1
   rotate_left
   ·rw [if_neg c5] at H
    have c5b0 : (((rd_T25 l0 x5_1).f0) == x1_1) = false := beq_eq_false_iff_ne.mpr c5
    have c5b1 : (((rd_T25 l0 x5_1).f0) != x1_1) = true := bne_iff_ne.mpr c5
    obtain rfl := Option.some.inj H
    have p345 : 0 ≤ (x5_1 : Int) := of_decide_eq_true (by first | (with_reducible assumption) | assumption)
    have q345 : x5_1 < (l0.length : Int) := of_decide_eq_true (by first | (with_reducible assumption) | assumption)
    obtain ⟨ad345, e345, hx345_0, hx345_1⟩ := at_T25 HR0.out x5_1 p345 q345
    cases e345
    replace p345 := eq_true p345
    replace q345 := eq_true q345
    go_wp2
    go_ret
    exact ⟨by first | rfl | (simp; done) | (simp [*]; done), by repeat (first | exact Drawn0.refl _ | apply Drawn0.step)⟩
   rw [if_pos c5] at H
   have c5b0 : (((rd_T25 l0 x5_1).f0) == x1_1) = true := beq_iff_eq.mpr c5
   have c5b1 : (((rd_T25 l0 x5_1).f0) != x1_1) = false := bne_eq_false_iff_eq.mpr c5
   clear c5
   by_cases c6 : (((rd_T25 l0 x5_1).f1) != ((Int.tmod (wrap64 (x1_1 + 1)) 3) == 0)) = true
   ·rw [if_pos c6] at H
    have c6b0 : (((rd_T25 l0 x5_1).f1) != ((Int.tmod (wrap64 (x1_1 + 1)) 3) == 0)) = true := c6
    (try (have c6b1 : decide (((rd_T25 l0 x5_1).f1) = ((Int.tmod (wrap64 (x1_1 + 1)) 3) == 0)) = false := by simpa using c6))
    (try (have c6b2 : (((rd_T25 l0 x5_1).f1) == ((Int.tmod (wrap64 (x1_1 + 1)) 3) == 0)) = false := by simpa using c6))
    (try (have c6b3 : ¬ (((rd_T25 l0 x5_1).f1) = ((Int.tmod (wrap64 (x1_1 + 1)) 3) == 0)) := by simpa using c6))
    clear c6
    obtain rfl := Option.some.inj H
    have p345 : 0 ≤ (x5_1 : Int) := of_decide_eq_true (by first | (with_reducible assumption) | assumption)
    have q345 : x5_1 < (l0.length : Int) := of_decide_eq_true (by first | (with_reducible assumption) | assumption)
    obtain ⟨ad345, e345, hx345_0, hx345_1⟩ := at_T25 HR0.out x5_1 p345 q345
    cases e345
    replace p345 := eq_true p345
    replace q345 := eq_true q345
    have p346 : 0 ≤ (x5_1 : Int) := of_decide_eq_true (by first | (with_reducible assumption) | assumption)
    have q346 : x5_1 < (l0.length : Int) := of_decide_eq_true (by first | (with_reducible assumption) | assumption)
    obtain ⟨ad346, e346, hx346_0, hx346_1⟩ := at_T25 HR0.out x5_1 p346 q346
    obtain rfl : ad345 = ad346 := (by injection e346)
    replace p346 := eq_true p346
    replace q346 := eq_true q346
    go_wp2
    go_ret
    exact ⟨by first | rfl | (simp; done) | (simp [*]; done), by repeat (first | exact Drawn0.refl _ | apply Drawn0.step)⟩
   rw [if_neg c6] at H
   have c6b0 : (((rd_T25 l0 x5_1).f1) != ((Int.tmod (wrap64 (x1_1 + 1)) 3) == 0)) = false := by simpa using c6
   (try (have c6b1 : decide (((rd_T25 l0 x5_1).f1) = ((Int.tmod (wrap64 (x1_1 + 1)) 3) == 0)) = true := by simpa using c6))
   (try (have c6b2 : (((rd_T25 l0 x5_1).f1) == ((Int.tmod (wrap64 (x1_1 + 1)) 3) == 0)) = true := by simpa using c6))
   clear c6
   have H' := Aside0.mk H
   clear H
   have p345 : 0 ≤ (x5_1 : Int) := of_decide_eq_true (by first | (with_reducible assumption) | assumption)
   have q345 : x5_1 < (l0.length : Int) := of_decide_eq_true (by first | (with_reducible assumption) | assumption)
   obtain ⟨ad345, e345, hx345_0, hx345_1⟩ := at_T25 HR0.out x5_1 p345 q345
   cases e345
   replace p345 := eq_true p345
   replace q345 := eq_true q345
   have p346 : 0 ≤ (x5_1 : Int) := of_decide_eq_true (by first | (with_reducible assumption) | assumption)
   have q346 : x5_1 < (l0.length : Int) := of_decide_eq_true (by first | (with_reducible assumption) | assumption)
   obtain ⟨ad346, e346, hx346_0, hx346_1⟩ := at_T25 HR0.out x5_1 p346 q346
   obtain rfl : ad345 = ad346 := (by injection e346)
   replace p346 := eq_true p346
   replace q346 := eq_true q346
   go_wp2
   go_roundg k1
   case measure => have := HK1.out; omega
   case rel => exact ⟨(wrap64 ((wrap64 (x1_1 + 1)) + 1)), (wrap64 (x5_1 + 1)), (by first | rfl | (simp; done) | (simp [*]; done)), (by first | rfl | (simp; done) | (simp [*]; done)), H', ⟨by have := HK1.out; omega⟩, by repeat (first | exact Drawn0.refl _ | apply Drawn0.step)⟩
end Go.Proofs.YtlinjleahnccgaaDoor.E
end
section
namespace Go.Proofs.YtlinjleahnccgaaDoor.E
open Go.RowKit Go.Proofs.YtlinjleahnccgaaDoorW.PrintWords Go.Proofs.YtlinjleahnccgaaDoorW.PrintLast Go.Proofs.YtlinjleahnccgaaDoorW.PrintMore
attribute [local go_sem] max2_int min2_int max_two min_two max_three min_three max_four min_four
set_option linter.unusedVariables false
set_option linter.unusedSimpArgs false
attribute [local go_sem] str_leq_ str_gtr_ str_geq_
mutual
def laws_FnExactMelodyFrom.j0 : Nat → ByteArray → List (S25) → Bool → List (S25) → Bool → Option (Bool)
 | 0, _, _, _, _, _ => none
 | k + 1, x0, x3, x4, x5, x32 => if x32 = true then (none) else ((laws_markToneS.f k x5 1).bind fun bt356 => ((laws_heldToneS.f k bt356.2 1).bind fun t358 => (if t358 < 0 then (none) else (if t358 = bt356.1 then ((impl_MelodyFrom.f k x0).bind fun bt359 => ((laws_eqToneS.f k bt359.1 x3).bind fun t363 => (if t363 = true then (laws_FnExactMelodyFrom.j1 k bt356.2 bt356.1 (bt359.2 != x4)) else (laws_FnExactMelodyFrom.j1 k bt356.2 bt356.1 true)))) else (none)))))
def laws_FnExactMelodyFrom.j1 : Nat → List (S25) → Int → Bool → Option (Bool)
 | 0, _, _, _ => none
 | k + 1, x5, x7, x57 => if x57 = true then (none) else ((laws_heldToneS.f k x5 1).bind fun t364 => (if t364 < 0 then (none) else (if t364 = x7 then (some true) else (none))))
end
def laws_FnExactMelodyFrom.f (k : Nat) (a0 : ByteArray) : Option (Bool) := if (a0.size : Int) > 1048576 then (some true) else ((spec_MelodyFrom.f k a0).bind fun bt347 => ((impl_MelodyFrom.f k a0).bind fun bt351 => ((laws_eqToneS.f k bt351.1 bt347.1).bind fun t355 => (if t355 = true then (laws_FnExactMelodyFrom.j0 k a0 bt347.1 bt347.2 bt351.1 (bt351.2 != bt347.2)) else (laws_FnExactMelodyFrom.j0 k a0 bt347.1 bt347.2 bt351.1 true)))))
set_option maxHeartbeats 8000000 in
set_option maxRecDepth 100000 in
theorem laws_FnExactMelodyFrom.calls (k : Nat) (a0 : ByteArray) (r : Bool) (w : World) (hG : GOk [0, 2] w) (h : laws_FnExactMelodyFrom.f k a0 = some r) :
  Calls Tryd.prog 9 #[.string a0] w fun e w' => e = .returned (.bool r) ∧ Below w.heap.size w w' := by
 have HB := Aside0.mk (Below.refl w.heap.size w)
 have HG := Aside0.mk hG
 clear hG
 have H : (if (a0.size : Int) > 1048576 then (some true) else ((spec_MelodyFrom.f k a0).bind fun bt347 => ((impl_MelodyFrom.f k a0).bind fun bt351 => ((laws_eqToneS.f k bt351.1 bt347.1).bind fun t355 => (if t355 = true then (laws_FnExactMelodyFrom.j0 k a0 bt347.1 bt347.2 bt351.1 (bt351.2 != bt347.2)) else (laws_FnExactMelodyFrom.j0 k a0 bt347.1 bt347.2 bt351.1 true)))))) = some r := h
 clear h
 by_cases c2 : (a0.size : Int) > 1048576
 ·rw [if_pos c2] at H
  have c2b0 : decide (1048576 < (a0.size : Int)) = true := decide_eq_true c2
  have c2b1 : decide (1048576 < a0.size) = true := decide_eq_true (by omega)
  clear c2
  obtain rfl := Option.some.inj H
  go_enter Tryd.func9, Tryd.ntmps9
  go_wp2
  go_ret
  exact ⟨by first | rfl | (simp [errW_none, errW_some] <;> rfl) | (simp [*, errW_none, errW_some] <;> rfl), by repeat (first | (with_reducible first | exact HB.out | apply below_alloc | apply pw_below_drewN | apply below_drew1) | exact HB.out)⟩
 rw [if_neg c2] at H
 have c2b0 : decide (1048576 < (a0.size : Int)) = false := decide_eq_false c2
 have c2b1 : decide (1048576 < a0.size) = false := decide_eq_false (by omega)
 clear c2
 replace H := Option.bind_eq_some_iff.mp H
 obtain ⟨⟨t347, t348⟩, A30, H⟩ := H
 replace H : ((impl_MelodyFrom.f k a0).bind fun bt351 => ((laws_eqToneS.f k bt351.1 t347).bind fun t355 => (if t355 = true then (laws_FnExactMelodyFrom.j0 k a0 t347 t348 bt351.1 (bt351.2 != t348)) else (laws_FnExactMelodyFrom.j0 k a0 t347 t348 bt351.1 true)))) = some r := H
 have A3 := Aside0.mk A30
 clear A30
 replace H := Option.bind_eq_some_iff.mp H
 obtain ⟨⟨t351, t352⟩, A40, H⟩ := H
 replace H : ((laws_eqToneS.f k t351 t347).bind fun t355 => (if t355 = true then (laws_FnExactMelodyFrom.j0 k a0 t347 t348 t351 (t352 != t348)) else (laws_FnExactMelodyFrom.j0 k a0 t347 t348 t351 true))) = some r := H
 have A4 := Aside0.mk A40
 clear A40
 have HC5 := Aside0.mk H
 clear H
 go_enter Tryd.func9, Tryd.ntmps9
 go_upto_region 5 with (first | ((with_reducible refine gate_callee (f := 28) rfl ?_); refine goesL_ (some 16) rfl rfl Tryd.func28 (by kernel_rfl) rfl #[.string a0] rfl (by (try simp only [List.map_toArray, List.map_cons, List.map_nil]); first | done | rfl | (simp only [List.length_drop, List.length_take]; rfl)) ?_; (with_reducible refine (spec_MelodyFrom.calls k a0 t347 t348 _ A3.out).mono ?_); rintro e w6 ⟨v349, rfl, ho0, hb⟩; refine ⟨_, rfl, ?_⟩; have n0_ := Aside0.mk (Kd.R_lower ho0 (below_size (by repeat (first | (with_reducible first | exact HB.out | apply below_alloc | apply pw_below_drewN | apply below_drew1) | exact HB.out)))); have n1_ := Aside0.mk (below_step (by repeat (first | (with_reducible first | exact HB.out | apply below_alloc | apply pw_below_drewN | apply below_drew1) | exact HB.out)) hb); clear HB; have HO350 := n0_; have HB := n1_; clear n0_ n1_; (try clear hb); (try clear hb2); (try clear hk); (try clear hi); (try clear ho0)) | ((with_reducible refine gate_callee (f := 29) rfl ?_); refine goesL_ (some 21) rfl rfl Tryd.func29 (by kernel_rfl) rfl #[.string a0] rfl (by (try simp only [List.map_toArray, List.map_cons, List.map_nil]); first | done | rfl | (simp only [List.length_drop, List.length_take]; rfl)) ?_; (with_reducible refine (impl_MelodyFrom.calls k a0 t351 t352 _ ?side1 A4.out).mono ?_); (case side1 => exact GOk.sub (GOk.below HG.out (by repeat (first | (with_reducible first | exact HB.out | apply below_alloc | apply pw_below_drewN | apply below_drew1) | exact HB.out))) (by decide)); rintro e w7 ⟨v353, rfl, ho0, hb⟩; refine ⟨_, rfl, ?_⟩; have n0_ := Aside0.mk (Kd.R_elder' (by (with_reducible repeat (first | apply Kd.R_alloc | apply Kd.R_drewN | apply Kd.R_drew)); exact HO350.out) (Kd.R_base ho0) hb); have n1_ := Aside0.mk (Kd.R_lower (Kd.R_new' ho0 (Kd.R_lt (by (with_reducible repeat (first | apply Kd.R_alloc | apply Kd.R_drewN | apply Kd.R_drew)); exact HO350.out))) (below_size (by repeat (first | (with_reducible first | exact HB.out | apply below_alloc | apply pw_below_drewN | apply below_drew1) | exact HB.out)))); have n2_ := Aside0.mk (below_step (by repeat (first | (with_reducible first | exact HB.out | apply below_alloc | apply pw_below_drewN | apply below_drew1) | exact HB.out)) hb); clear HO350; clear HB; have HO350 := n0_; have HO354 := n1_; have HB := n2_; clear n0_ n1_ n2_; (try clear hb); (try clear hb2); (try clear hk); (try clear hi); (try clear ho0)))
 (try simp only [Act.put, List.setIfInBounds_toArray, List.set_cons_zero, List.set_cons_succ])
 go_cut [32] (fun v32 wc => ∃ (kq : Nat) (x32_4 : Bool), v32 = .bool x32_4 ∧ Aside0 (laws_FnExactMelodyFrom.j0 kq a0 t347 t348 t351 x32_4 = some r) ∧ Aside0 (kq ≤ k) ∧ Aside0 (Kd.R k25 25 wc w.heap.size (fun k_ => some k_ ≠ (v353 : Value).ownBlock) v349 t347) ∧ Aside0 (Kd.R k25 25 wc w.heap.size (fun k_ => some k_ ≠ (v349 : Value).ownBlock) v353 t351) ∧ Aside0 (Below w.heap.size w wc))
 case first =>
  have H := HC5.out
  clear HC5
  replace H := Option.bind_eq_some_iff.mp H
  obtain ⟨t355, A80, H⟩ := H
  replace H : (if t355 = true then (laws_FnExactMelodyFrom.j0 k a0 t347 t348 t351 (t352 != t348)) else (laws_FnExactMelodyFrom.j0 k a0 t347 t348 t351 true)) = some r := H
  have A8 := Aside0.mk A80
  clear A80
  by_cases c9 : t355 = true
  ·subst c9
   have H1 : (laws_FnExactMelodyFrom.j0 k a0 t347 t348 t351 (t352 != t348)) = some r := by rw [if_pos rfl] at H; exact H
   clear H
   have H := H1
   clear H1
   have H' := Aside0.mk H
   clear H
   obtain ⟨Ao10, co10, eo10⟩ := Kd.R_slice HO354.out
   subst eo10
   obtain ⟨Ao11, co11, eo11⟩ := Kd.R_slice HO350.out
   subst eo11
   go_wp2_with (first | ((with_reducible refine gate_callee (f := 27) rfl ?_); refine goesL_ (some 26) rfl rfl Tryd.func27 (by kernel_rfl) rfl #[.slice Ao10 t351.length co10, .slice Ao11 t347.length co11] rfl (by (try simp only [List.map_toArray, List.map_cons, List.map_nil]); first | done | rfl | (simp only [List.length_drop, List.length_take]; rfl)) ?_; (with_reducible refine (laws_eqToneS.calls k _ _ t351 _ _ t347 true _ ?side1 ?side2 ?side3 ?side4 A8.out).mono ?_); (case side1 => repeat (first | exact (Kd.R_reads' HO354.out).2.2 | (with_reducible refine Kd.C_alloc ?_ _) | (with_reducible refine Kd.C_drewN ?_ _) | (with_reducible refine Kd.C_drew ?_))); (case side2 => exact (Kd.R_reads' HO354.out).2.1); (case side3 => repeat (first | exact (Kd.R_reads' HO350.out).2.2 | (with_reducible refine Kd.C_alloc ?_ _) | (with_reducible refine Kd.C_drewN ?_ _) | (with_reducible refine Kd.C_drew ?_))); (case side4 => exact (Kd.R_reads' HO350.out).2.1); rintro e w12 ⟨rfl, hb⟩; refine ⟨_, rfl, ?_⟩; have n0_ := Aside0.mk (Kd.R_below (by (with_reducible repeat (first | apply Kd.R_alloc | apply Kd.R_drewN | apply Kd.R_drew)); exact HO350.out) hb); have n1_ := Aside0.mk (Kd.R_below (by (with_reducible repeat (first | apply Kd.R_alloc | apply Kd.R_drewN | apply Kd.R_drew)); exact HO354.out) hb); have n2_ := Aside0.mk (below_step (by repeat (first | (with_reducible first | exact HB.out | apply below_alloc | apply pw_below_drewN | apply below_drew1) | exact HB.out)) hb); clear HO350; clear HO354; clear HB; have HO350 := n0_; have HO354 := n1_; have HB := n2_; clear n0_ n1_ n2_; (try clear hb); (try clear hb2); (try clear hk); (try clear hi)))
   go_meet
   case rel => exact ⟨_, ((t352 != t348)), (by first | rfl | (simp; done) | (simp [*]; done)), H', ⟨by first | omega | exact Nat.le_refl _⟩, ⟨by (with_reducible repeat (first | apply Kd.R_alloc | apply Kd.R_drewN | apply Kd.R_drew)); exact Kd.R_mono HO350.out (fun _ hk => hk.2)⟩, ⟨by (with_reducible repeat (first | apply Kd.R_alloc | apply Kd.R_drewN | apply Kd.R_drew)); exact Kd.R_mono HO354.out (fun _ hk => hk.2)⟩, ⟨by repeat (first | (with_reducible first | exact HB.out | apply below_alloc | apply pw_below_drewN | apply below_drew1) | exact HB.out)⟩⟩
  replace c9 := Bool.eq_false_iff.mpr c9
  subst c9
  have H1 : (laws_FnExactMelodyFrom.j0 k a0 t347 t348 t351 true) = some r := by rw [if_neg (show ¬ (false = true) by decide)] at H; exact H
  clear H
  have H := H1
  clear H1
  have H' := Aside0.mk H
  clear H
  obtain ⟨Ao13, co13, eo13⟩ := Kd.R_slice HO354.out
  subst eo13
  obtain ⟨Ao14, co14, eo14⟩ := Kd.R_slice HO350.out
  subst eo14
  go_wp2_with (first | ((with_reducible refine gate_callee (f := 27) rfl ?_); refine goesL_ (some 26) rfl rfl Tryd.func27 (by kernel_rfl) rfl #[.slice Ao13 t351.length co13, .slice Ao14 t347.length co14] rfl (by (try simp only [List.map_toArray, List.map_cons, List.map_nil]); first | done | rfl | (simp only [List.length_drop, List.length_take]; rfl)) ?_; (with_reducible refine (laws_eqToneS.calls k _ _ t351 _ _ t347 false _ ?side1 ?side2 ?side3 ?side4 A8.out).mono ?_); (case side1 => repeat (first | exact (Kd.R_reads' HO354.out).2.2 | (with_reducible refine Kd.C_alloc ?_ _) | (with_reducible refine Kd.C_drewN ?_ _) | (with_reducible refine Kd.C_drew ?_))); (case side2 => exact (Kd.R_reads' HO354.out).2.1); (case side3 => repeat (first | exact (Kd.R_reads' HO350.out).2.2 | (with_reducible refine Kd.C_alloc ?_ _) | (with_reducible refine Kd.C_drewN ?_ _) | (with_reducible refine Kd.C_drew ?_))); (case side4 => exact (Kd.R_reads' HO350.out).2.1); rintro e w15 ⟨rfl, hb⟩; refine ⟨_, rfl, ?_⟩; have n0_ := Aside0.mk (Kd.R_below (by (with_reducible repeat (first | apply Kd.R_alloc | apply Kd.R_drewN | apply Kd.R_drew)); exact HO350.out) hb); have n1_ := Aside0.mk (Kd.R_below (by (with_reducible repeat (first | apply Kd.R_alloc | apply Kd.R_drewN | apply Kd.R_drew)); exact HO354.out) hb); have n2_ := Aside0.mk (below_step (by repeat (first | (with_reducible first | exact HB.out | apply below_alloc | apply pw_below_drewN | apply below_drew1) | exact HB.out)) hb); clear HO350; clear HO354; clear HB; have HO350 := n0_; have HO354 := n1_; have HB := n2_; clear n0_ n1_ n2_; (try clear hb); (try clear hb2); (try clear hk); (try clear hi)))
  go_meet
  case rel => exact ⟨_, (true), (by first | rfl | (simp; done) | (simp [*]; done)), H', ⟨by first | omega | exact Nat.le_refl _⟩, ⟨by (with_reducible repeat (first | apply Kd.R_alloc | apply Kd.R_drewN | apply Kd.R_drew)); exact Kd.R_mono HO350.out (fun _ hk => hk.2)⟩, ⟨by (with_reducible repeat (first | apply Kd.R_alloc | apply Kd.R_drewN | apply Kd.R_drew)); exact Kd.R_mono HO354.out (fun _ hk => hk.2)⟩, ⟨by repeat (first | (with_reducible first | exact HB.out | apply below_alloc | apply pw_below_drewN | apply below_drew1) | exact HB.out)⟩⟩
 case rest =>
  clear HC5
  try clear c2
  try clear c2b0
  try clear c2b1
  try clear p2
  try clear c9
  obtain ⟨kq, x32_4, rfl, HA, HJ4, HO_3, HO_5, HB⟩ := hcut
  cases kq with
  | zero => exact absurd HA.out (by simp [laws_FnExactMelodyFrom.j0])
  | succ kj4 =>
   have H := HA.out
   clear HA
   simp only [laws_FnExactMelodyFrom.j0] at H
   by_cases c16 : x32_4 = true
   ·subst c16
    have H1 : (none) = some r := by rw [if_pos rfl] at H; exact H
    clear H
    have H := H1
    clear H1
    exact absurd H (by simp)
   replace c16 := Bool.eq_false_iff.mpr c16
   subst c16
   have H1 : ((laws_markToneS.f kj4 t351 1).bind fun bt356 => ((laws_heldToneS.f kj4 bt356.2 1).bind fun t358 => (if t358 < 0 then (none) else (if t358 = bt356.1 then ((impl_MelodyFrom.f kj4 a0).bind fun bt359 => ((laws_eqToneS.f kj4 bt359.1 t347).bind fun t363 => (if t363 = true then (laws_FnExactMelodyFrom.j1 kj4 bt356.2 bt356.1 (bt359.2 != t348)) else (laws_FnExactMelodyFrom.j1 kj4 bt356.2 bt356.1 true)))) else (none))))) = some r := by rw [if_neg (show ¬ (false = true) by decide)] at H; exact H
   clear H
   have H := H1
   clear H1
   replace H := Option.bind_eq_some_iff.mp H
   obtain ⟨⟨t356, t357⟩, A170, H⟩ := H
   replace H : ((laws_heldToneS.f kj4 t357 1).bind fun t358 => (if t358 < 0 then (none) else (if t358 = t356 then ((impl_MelodyFrom.f kj4 a0).bind fun bt359 => ((laws_eqToneS.f kj4 bt359.1 t347).bind fun t363 => (if t363 = true then (laws_FnExactMelodyFrom.j1 kj4 t357 t356 (bt359.2 != t348)) else (laws_FnExactMelodyFrom.j1 kj4 t357 t356 true)))) else (none)))) = some r := H
   have A17 := Aside0.mk A170
   clear A170
   replace H := Option.bind_eq_some_iff.mp H
   obtain ⟨t358, A180, H⟩ := H
   replace H : (if t358 < 0 then (none) else (if t358 = t356 then ((impl_MelodyFrom.f kj4 a0).bind fun bt359 => ((laws_eqToneS.f kj4 bt359.1 t347).bind fun t363 => (if t363 = true then (laws_FnExactMelodyFrom.j1 kj4 t357 t356 (bt359.2 != t348)) else (laws_FnExactMelodyFrom.j1 kj4 t357 t356 true)))) else (none))) = some r := H
   have A18 := Aside0.mk A180
   clear A180
   by_cases c19 : t358 < 0
   ·rw [if_pos c19] at H
    exact absurd H (by simp)
   rw [if_neg c19] at H
   have c19b0 : decide (t358 < 0) = false := decide_eq_false c19
   clear c19
   by_cases c20 : t358 = t356
   rotate_left
   ·rw [if_neg c20] at H
    exact absurd H (by simp)
   rw [if_pos c20] at H
   have c20b0 : (t358 == t356) = true := beq_iff_eq.mpr c20
   have c20b1 : (t358 != t356) = false := bne_eq_false_iff_eq.mpr c20
   clear c20
   replace H := Option.bind_eq_some_iff.mp H
   obtain ⟨⟨t359, t360⟩, A210, H⟩ := H
   replace H : ((laws_eqToneS.f kj4 t359 t347).bind fun t363 => (if t363 = true then (laws_FnExactMelodyFrom.j1 kj4 t357 t356 (t360 != t348)) else (laws_FnExactMelodyFrom.j1 kj4 t357 t356 true))) = some r := H
   have A21 := Aside0.mk A210
   clear A210
   have HC22 := Aside0.mk H
   clear H
   obtain ⟨Ao23, co23, eo23⟩ := Kd.R_slice HO_5.out
   subst eo23
   go_upto_region 16 with (first | ((with_reducible refine gate_callee (f := 30) rfl ?_); refine goesL_ (some 35) rfl rfl Tryd.func30 (by kernel_rfl) rfl #[.slice Ao23 t351.length co23, .int .i64 1] rfl (by (try simp only [List.map_toArray, List.map_cons, List.map_nil]); first | done | rfl | (simp only [List.length_drop, List.length_take]; rfl)) ?_; (with_reducible refine (laws_markToneS.calls kj4 (fun k_ => some k_ = (.slice Ao23 t351.length co23 : Value).ownBlock) (.slice Ao23 t351.length co23) t351 1 t356 t357 w _ ?side1 ?side2 A17.out).mono ?_); (case side1 => repeat (first | (with_reducible first | exact HB.out | apply below_alloc | apply pw_below_drewN | apply below_drew1) | exact HB.out)); (case side2 => exact Kd.R_tight rfl HO_5.out); rintro e w24 ⟨rfl, hy0, hb, hkp⟩; refine ⟨_, rfl, ?_⟩; have n0_ := Aside0.mk (Kd.R_mono (ok' := fun k_ => some k_ ≠ (.slice Ao23 t351.length co23 : Value).ownBlock) (Kd.R_keptB (HO_3.out) hkp (fun k_ hk_ hs_ => (hk_) hs_)) (fun k_ hk_ => hk_.1)); have n1_ := Aside0.mk (Kd.R_reok rfl hy0 (fun k_ e_ => HO_5.out.1 k_ e_)); have n2_ := Aside0.mk (hb); clear HO_3; clear HO_5; clear HB; have HO_3 := n0_; have HO_5 := n1_; have HB := n2_; clear n0_ n1_ n2_; (try clear hb); (try clear hkp); (try clear hy0)) | ((with_reducible refine gate_callee (f := 31) rfl ?_); refine goesL_ (some 38) rfl rfl Tryd.func31 (by kernel_rfl) rfl #[.slice Ao23 t357.length co23, .int .i64 1] rfl (by (try simp only [List.map_toArray, List.map_cons, List.map_nil]); first | done | (rw [show t357.length = t351.length from (Kd.R_reads' HO_5.out).1.symm] <;> rfl) | rfl | (simp only [List.length_drop, List.length_take]; rfl)) ?_; (with_reducible refine (laws_heldToneS.calls kj4 _ _ t357 1 t358 _ ?side1 ?side2 A18.out).mono ?_); (case side1 => repeat (first | exact (Kd.R_reads' HO_5.out).2.2 | (with_reducible refine Kd.C_alloc ?_ _) | (with_reducible refine Kd.C_drewN ?_ _) | (with_reducible refine Kd.C_drew ?_))); (case side2 => rw [show t357.length = t351.length from (Kd.R_reads' HO_5.out).1.symm]; exact (Kd.R_reads' HO_5.out).2.1); rintro e w' ⟨rfl, ⟨nd, rfl⟩⟩; refine ⟨_, rfl, ?_⟩) | ((with_reducible refine gate_callee (f := 29) rfl ?_); refine goesL_ (some 46) rfl rfl Tryd.func29 (by kernel_rfl) rfl #[.string a0] rfl (by (try simp only [List.map_toArray, List.map_cons, List.map_nil]); first | done | rfl | (simp only [List.length_drop, List.length_take]; rfl)) ?_; (with_reducible refine (impl_MelodyFrom.calls kj4 a0 t359 t360 _ ?side1 A21.out).mono ?_); (case side1 => exact GOk.sub (GOk.below HG.out (by repeat (first | (with_reducible first | exact HB.out | apply below_alloc | apply pw_below_drewN | apply below_drew1) | exact HB.out))) (by decide)); rintro e w25 ⟨v361, rfl, ho0, hb⟩; refine ⟨_, rfl, ?_⟩; have n0_ := Aside0.mk (Kd.R_elder' (by (with_reducible repeat (first | apply Kd.R_alloc | apply Kd.R_drewN | apply Kd.R_drew)); exact HO_3.out) (Kd.R_base ho0) hb); have n1_ := Aside0.mk (Kd.R_elder' (by (with_reducible repeat (first | apply Kd.R_alloc | apply Kd.R_drewN | apply Kd.R_drew)); exact HO_5.out) (Kd.R_base ho0) hb); have n2_ := Aside0.mk (Kd.R_lower (Kd.R_new' (Kd.R_new' ho0 (Kd.R_lt (by (with_reducible repeat (first | apply Kd.R_alloc | apply Kd.R_drewN | apply Kd.R_drew)); exact HO_3.out))) (Kd.R_lt (by (with_reducible repeat (first | apply Kd.R_alloc | apply Kd.R_drewN | apply Kd.R_drew)); exact HO_5.out))) (below_size (by repeat (first | (with_reducible first | exact HB.out | apply below_alloc | apply pw_below_drewN | apply below_drew1) | exact HB.out)))); have n3_ := Aside0.mk (below_step (by repeat (first | (with_reducible first | exact HB.out | apply below_alloc | apply pw_below_drewN | apply below_drew1) | exact HB.out)) hb); clear HO_3; clear HO_5; clear HB; have HO_3 := n0_; have HO_5 := n1_; have HO362 := n2_; have HB := n3_; clear n0_ n1_ n2_ n3_; (try clear hb); (try clear hb2); (try clear hk); (try clear hi); (try clear ho0)))
   (try simp only [Act.put, List.setIfInBounds_toArray, List.set_cons_zero, List.set_cons_succ])
   go_cut [57] (fun v57 wc => ∃ (kq : Nat) (x57_21 : Bool), v57 = .bool x57_21 ∧ Aside0 (laws_FnExactMelodyFrom.j1 kq t357 t356 x57_21 = some r) ∧ Aside0 (kq ≤ kj4) ∧ Aside0 (Kd.R k25 25 wc w.heap.size (fun _ => True) (.slice Ao23 t351.length co23) t357) ∧ Aside0 (Below w.heap.size w wc))
   case first =>
    have H := HC22.out
    clear HC22
    replace H := Option.bind_eq_some_iff.mp H
    obtain ⟨t363, A260, H⟩ := H
    replace H : (if t363 = true then (laws_FnExactMelodyFrom.j1 kj4 t357 t356 (t360 != t348)) else (laws_FnExactMelodyFrom.j1 kj4 t357 t356 true)) = some r := H
    have A26 := Aside0.mk A260
    clear A260
    by_cases c27 : t363 = true
    ·subst c27
     have H1 : (laws_FnExactMelodyFrom.j1 kj4 t357 t356 (t360 != t348)) = some r := by rw [if_pos rfl] at H; exact H
     clear H
     have H := H1
     clear H1
     have H' := Aside0.mk H
     clear H
     obtain ⟨Ao28, co28, eo28⟩ := Kd.R_slice HO362.out
     subst eo28
     obtain ⟨Ao29, co29, eo29⟩ := Kd.R_slice HO_3.out
     subst eo29
     go_wp2_with (first | ((with_reducible refine gate_callee (f := 27) rfl ?_); refine goesL_ (some 51) rfl rfl Tryd.func27 (by kernel_rfl) rfl #[.slice Ao28 t359.length co28, .slice Ao29 t347.length co29] rfl (by (try simp only [List.map_toArray, List.map_cons, List.map_nil]); first | done | rfl | (simp only [List.length_drop, List.length_take]; rfl)) ?_; (with_reducible refine (laws_eqToneS.calls kj4 _ _ t359 _ _ t347 true _ ?side1 ?side2 ?side3 ?side4 A26.out).mono ?_); (case side1 => repeat (first | exact (Kd.R_reads' HO362.out).2.2 | (with_reducible refine Kd.C_alloc ?_ _) | (with_reducible refine Kd.C_drewN ?_ _) | (with_reducible refine Kd.C_drew ?_))); (case side2 => exact (Kd.R_reads' HO362.out).2.1); (case side3 => repeat (first | exact (Kd.R_reads' HO_3.out).2.2 | (with_reducible refine Kd.C_alloc ?_ _) | (with_reducible refine Kd.C_drewN ?_ _) | (with_reducible refine Kd.C_drew ?_))); (case side4 => exact (Kd.R_reads' HO_3.out).2.1); rintro e w30 ⟨rfl, hb⟩; refine ⟨_, rfl, ?_⟩; have n0_ := Aside0.mk (Kd.R_below (by (with_reducible repeat (first | apply Kd.R_alloc | apply Kd.R_drewN | apply Kd.R_drew)); exact HO_3.out) hb); have n1_ := Aside0.mk (Kd.R_below (by (with_reducible repeat (first | apply Kd.R_alloc | apply Kd.R_drewN | apply Kd.R_drew)); exact HO_5.out) hb); have n2_ := Aside0.mk (Kd.R_below (by (with_reducible repeat (first | apply Kd.R_alloc | apply Kd.R_drewN | apply Kd.R_drew)); exact HO362.out) hb); have n3_ := Aside0.mk (below_step (by repeat (first | (with_reducible first | exact HB.out | apply below_alloc | apply pw_below_drewN | apply below_drew1) | exact HB.out)) hb); clear HO_3; clear HO_5; clear HO362; clear HB; have HO_3 := n0_; have HO_5 := n1_; have HO362 := n2_; have HB := n3_; clear n0_ n1_ n2_ n3_; (try clear hb); (try clear hb2); (try clear hk); (try clear hi)))
     go_meet
     case rel => exact ⟨_, ((t360 != t348)), (by first | rfl | (simp; done) | (simp [*]; done)), H', ⟨by have := HJ4.out; first | omega | exact Nat.le_refl _⟩, ⟨by (with_reducible repeat (first | apply Kd.R_alloc | apply Kd.R_drewN | apply Kd.R_drew)); exact Kd.R_mono HO_5.out (fun _ hk => trivial)⟩, ⟨by repeat (first | (with_reducible first | exact HB.out | apply below_alloc | apply pw_below_drewN | apply below_drew1) | exact HB.out)⟩⟩
    replace c27 := Bool.eq_false_iff.mpr c27
    subst c27
    have H1 : (laws_FnExactMelodyFrom.j1 kj4 t357 t356 true) = some r := by rw [if_neg (show ¬ (false = true) by decide)] at H; exact H
    clear H
    have H := H1
    clear H1
    have H' := Aside0.mk H
    clear H
    obtain ⟨Ao31, co31, eo31⟩ := Kd.R_slice HO362.out
    subst eo31
    obtain ⟨Ao32, co32, eo32⟩ := Kd.R_slice HO_3.out
    subst eo32
    go_wp2_with (first | ((with_reducible refine gate_callee (f := 27) rfl ?_); refine goesL_ (some 51) rfl rfl Tryd.func27 (by kernel_rfl) rfl #[.slice Ao31 t359.length co31, .slice Ao32 t347.length co32] rfl (by (try simp only [List.map_toArray, List.map_cons, List.map_nil]); first | done | rfl | (simp only [List.length_drop, List.length_take]; rfl)) ?_; (with_reducible refine (laws_eqToneS.calls kj4 _ _ t359 _ _ t347 false _ ?side1 ?side2 ?side3 ?side4 A26.out).mono ?_); (case side1 => repeat (first | exact (Kd.R_reads' HO362.out).2.2 | (with_reducible refine Kd.C_alloc ?_ _) | (with_reducible refine Kd.C_drewN ?_ _) | (with_reducible refine Kd.C_drew ?_))); (case side2 => exact (Kd.R_reads' HO362.out).2.1); (case side3 => repeat (first | exact (Kd.R_reads' HO_3.out).2.2 | (with_reducible refine Kd.C_alloc ?_ _) | (with_reducible refine Kd.C_drewN ?_ _) | (with_reducible refine Kd.C_drew ?_))); (case side4 => exact (Kd.R_reads' HO_3.out).2.1); rintro e w33 ⟨rfl, hb⟩; refine ⟨_, rfl, ?_⟩; have n0_ := Aside0.mk (Kd.R_below (by (with_reducible repeat (first | apply Kd.R_alloc | apply Kd.R_drewN | apply Kd.R_drew)); exact HO_3.out) hb); have n1_ := Aside0.mk (Kd.R_below (by (with_reducible repeat (first | apply Kd.R_alloc | apply Kd.R_drewN | apply Kd.R_drew)); exact HO_5.out) hb); have n2_ := Aside0.mk (Kd.R_below (by (with_reducible repeat (first | apply Kd.R_alloc | apply Kd.R_drewN | apply Kd.R_drew)); exact HO362.out) hb); have n3_ := Aside0.mk (below_step (by repeat (first | (with_reducible first | exact HB.out | apply below_alloc | apply pw_below_drewN | apply below_drew1) | exact HB.out)) hb); clear HO_3; clear HO_5; clear HO362; clear HB; have HO_3 := n0_; have HO_5 := n1_; have HO362 := n2_; have HB := n3_; clear n0_ n1_ n2_ n3_; (try clear hb); (try clear hb2); (try clear hk); (try clear hi)))
    go_meet
    case rel => exact ⟨_, (true), (by first | rfl | (simp; done) | (simp [*]; done)), H', ⟨by have := HJ4.out; first | omega | exact Nat.le_refl _⟩, ⟨by (with_reducible repeat (first | apply Kd.R_alloc | apply Kd.R_drewN | apply Kd.R_drew)); exact Kd.R_mono HO_5.out (fun _ hk => trivial)⟩, ⟨by repeat (first | (with_reducible first | exact HB.out | apply below_alloc | apply pw_below_drewN | apply below_drew1) | exact HB.out)⟩⟩
   case rest =>
    clear HC22
    try clear c1
    try clear c2
    try clear c2b0
    try clear c2b1
    try clear p2
    try clear c3
    try clear c9
    try clear c16
    try clear c19
    try clear c19b0
    try clear c20
    try clear c20b0
    try clear c20b1
    try clear c27
    try clear c28
    try clear c29
    try clear c30
    try clear c31
    try clear p2
    obtain ⟨kq, x57_21, rfl, HA, HJ21, HO_5, HB⟩ := hcut
    have hl5_21 := (Kd.R_reads' HO_5.out).1
    rw [hl5_21] at HO_5
    (try simp only [hl5_21])
    cases kq with
    | zero => exact absurd HA.out (by simp [laws_FnExactMelodyFrom.j1])
    | succ kj21 =>
     have H := HA.out
     clear HA
     simp only [laws_FnExactMelodyFrom.j1] at H
     by_cases c34 : x57_21 = true
     ·subst c34
      have H1 : (none) = some r := by rw [if_pos rfl] at H; exact H
      clear H
      have H := H1
      clear H1
      exact absurd H (by simp)
     replace c34 := Bool.eq_false_iff.mpr c34
     subst c34
     have H1 : ((laws_heldToneS.f kj21 t357 1).bind fun t364 => (if t364 < 0 then (none) else (if t364 = t356 then (some true) else (none)))) = some r := by rw [if_neg (show ¬ (false = true) by decide)] at H; exact H
     clear H
     have H := H1
     clear H1
     replace H := Option.bind_eq_some_iff.mp H
     obtain ⟨t364, A350, H⟩ := H
     replace H : (if t364 < 0 then (none) else (if t364 = t356 then (some true) else (none))) = some r := H
     have A35 := Aside0.mk A350
     clear A350
     by_cases c36 : t364 < 0
     ·rw [if_pos c36] at H
      exact absurd H (by simp)
     rw [if_neg c36] at H
     have c36b0 : decide (t364 < 0) = false := decide_eq_false c36
     clear c36
     by_cases c37 : t364 = t356
     rotate_left
     ·rw [if_neg c37] at H
      exact absurd H (by simp)
     rw [if_pos c37] at H
     have c37b0 : (t364 == t356) = true := beq_iff_eq.mpr c37
     have c37b1 : (t364 != t356) = false := bne_eq_false_iff_eq.mpr c37
     clear c37
     obtain rfl := Option.some.inj H
     go_wp2_with (first | ((with_reducible refine gate_callee (f := 31) rfl ?_); refine goesL_ (some 60) rfl rfl Tryd.func31 (by kernel_rfl) rfl #[.slice Ao23 t357.length co23, .int .i64 1] rfl (by (try simp only [List.map_toArray, List.map_cons, List.map_nil]); first | done | rfl | (simp only [List.length_drop, List.length_take]; rfl)) ?_; (with_reducible refine (laws_heldToneS.calls kj21 _ _ t357 1 t364 _ ?side1 ?side2 A35.out).mono ?_); (case side1 => repeat (first | exact (Kd.R_reads' HO_5.out).2.2 | (with_reducible refine Kd.C_alloc ?_ _) | (with_reducible refine Kd.C_drewN ?_ _) | (with_reducible refine Kd.C_drew ?_))); (case side2 => exact (Kd.R_reads' HO_5.out).2.1); rintro e w' ⟨rfl, ⟨nd, rfl⟩⟩; refine ⟨_, rfl, ?_⟩))
     go_ret
     exact ⟨by first | rfl | (simp [errW_none, errW_some] <;> rfl) | (simp [*, errW_none, errW_some] <;> rfl), by repeat (first | (with_reducible first | exact HB.out | apply below_alloc | apply pw_below_drewN | apply below_drew1) | exact HB.out)⟩
def laws_FnExactMelodyFrom.Pure : Prop := ∀ (a0 : ByteArray), a0.size ≤ 140737488351232 → ∃ k, laws_FnExactMelodyFrom.f k a0 = some true
end Go.Proofs.YtlinjleahnccgaaDoor.E
end
section
namespace Go.Proofs.YtlinjleahnccgaaDoor.Pur
open Go.RowKit Go.Proofs.YtlinjleahnccgaaDoorW.PrintWords
def EvP {α : Type} (g : Nat → Option α) (P : α → Prop) : Prop := ∃ r, Ev g r ∧ P r
section
variable {α β : Type}
theorem EvP.bind {g : Nat → Option α} {f : Nat → α → Option β} {P : α → Prop} {Q : β → Prop} (h : EvP g P) (k : ∀ a, P a → EvP (fun n => f n a) Q) : EvP (fun n => (g n).bind (f n)) Q := by
  obtain ⟨a, ha, hp⟩ := h
  obtain ⟨b, hb, hq⟩ := k a hp
  exact ⟨b, Ev.bind ha hb, hq⟩
theorem EvP.ret {P : α → Prop} {r : α} (h : P r) : EvP (fun _ => some r) P := ⟨r, Ev.now r, h⟩
theorem EvP.con {o : Option α} {P : α → Prop} {r : α} (h : o = some r) (hp : P r) : EvP (fun _ => o) P := by subst h; exact .ret hp
theorem EvP.ite {c : Prop} [Decidable c] {f g : Nat → Option α} {P : α → Prop} (h : c → EvP f P) (k : ¬ c → EvP g P) : EvP (fun n => if c then f n else g n) P := by
  by_cases hc : c
  · obtain ⟨r, hr, hp⟩ := h hc
    exact ⟨r, Ev.congr (fun n => if_pos hc) hr, hp⟩
  · obtain ⟨r, hr, hp⟩ := k hc
    exact ⟨r, Ev.congr (fun n => if_neg hc) hr, hp⟩
theorem EvP.yes {c : Prop} [Decidable c] {f g : Nat → Option α} {P : α → Prop} (hc : c) (h : EvP f P) : EvP (fun n => if c then f n else g n) P := .ite (fun _ => h) (fun k => absurd hc k)
theorem EvP.no {c : Prop} [Decidable c] {f g : Nat → Option α} {P : α → Prop} (hc : ¬ c) (h : EvP g P) : EvP (fun n => if c then f n else g n) P := .ite (fun k => absurd k hc) (fun _ => h)
theorem EvP.step {g f : Nat → Option α} {P : α → Prop} (h : ∀ k, g (k + 1) = f k) (k : EvP f P) : EvP g P := by
  obtain ⟨r, hr, hp⟩ := k
  exact ⟨r, Ev.step h hr, hp⟩
theorem EvP.succ {g : Nat → Option α} {P : α → Prop} (k : EvP (fun n => g (n + 1)) P) : EvP g P := EvP.step (fun _ => rfl) k
theorem EvP.mono {g : Nat → Option α} {P Q : α → Prop} (h : EvP g P) (k : ∀ r, P r → Q r) : EvP g Q := by
  obtain ⟨r, hr, hp⟩ := h
  exact ⟨r, hr, k r hp⟩
theorem EvP.rounds {g : Nat → Option α} {r : α} (h : EvP g (· = r)) : ∃ k, g k = some r := by
  obtain ⟨_, hr, rfl⟩ := h
  exact hr.rounds
theorem EvP.of {g : Nat → Option α} {P : α → Prop} {r : α} (h : Ev g r) (hp : P r) : EvP g P := ⟨r, h, hp⟩
end
structure Hd (p : Prop) : Prop where mk :: (out : p)
theorem w64 {i : Int} (h0 : -9223372036854775808 ≤ i) (h1 : i ≤ 9223372036854775807) : wrap64 i = i := by unfold wrap64; omega
theorem tmod_pos {a : Int} (b : Int) (h : 0 ≤ a) : Int.tmod a b = a % b := Int.tmod_eq_emod_of_nonneg h
theorem tdiv_pos {a : Int} (b : Int) (h : 0 ≤ a) : Int.tdiv a b = a / b := Int.tdiv_eq_ediv_of_nonneg h
theorem toNat_nat (n : Nat) : ((n : Int)).toNat = n := rfl
theorem toNat_succ (n : Nat) : ((n : Int) + 1).toNat = n + 1 := by omega
end Go.Proofs.YtlinjleahnccgaaDoor.Pur
end
section
namespace Go.Proofs.YtlinjleahnccgaaDoor.E
open Go.RowKit Go.Proofs.YtlinjleahnccgaaDoorW.PrintWords Go.Proofs.YtlinjleahnccgaaDoorW.PrintLast Go.Proofs.YtlinjleahnccgaaDoorW.PrintMore
attribute [local go_sem] max2_int min2_int max_two min_two max_three min_three max_four min_four
set_option linter.unusedVariables false
set_option linter.unusedSimpArgs false
attribute [local go_sem] str_leq_ str_gtr_ str_geq_
def spec_MelodyValid.l0 : Nat → List (S25) → Int → Option (Bool)
 | 0, _, _ => none
 | k + 1, x0, x3 => if x3 < (x0.length : Int) then (if 0 ≤ x3 then ((spec_ToneValid.f ((rd_T25 x0 x3).f0) ((rd_T25 x0 x3).f1)).bind fun t268 => (if t268 = true then (spec_MelodyValid.l0 k x0 (wrap64 (x3 + 1))) else (some false))) else (none)) else (some (decide ((x0.length : Int) ≤ 24)))
def spec_MelodyValid.f (k : Nat) (l0 : List (S25)) : Option (Bool) := spec_MelodyValid.l0 k l0 0
end Go.Proofs.YtlinjleahnccgaaDoor.E
end
section
namespace Go.Proofs.YtlinjleahnccgaaDoor.E
open Go.RowKit Go.Proofs.YtlinjleahnccgaaDoorW.PrintWords Go.Proofs.YtlinjleahnccgaaDoorW.PrintLast Go.Proofs.YtlinjleahnccgaaDoorW.PrintMore
attribute [local go_sem] max2_int min2_int max_two min_two max_three min_three max_four min_four
set_option linter.unusedVariables false
set_option linter.unusedSimpArgs false
attribute [local go_sem] str_leq_ str_gtr_ str_geq_
def impl_MelodyValid.l0 : Nat → List (S25) → Int → Int → Option (Bool)
 | 0, _, _, _ => none
 | k + 1, x8, x9, x10 => if x10 < x9 then (if 0 ≤ x10 then (if x10 < (x8.length : Int) then ((impl_Tone_valid.f ((rd_T25 x8 x10).f0) ((rd_T25 x8 x10).f1)).bind fun t283 => (if t283 = true then (impl_MelodyValid.l0 k x8 x9 (wrap64 (x10 + 1))) else (some false))) else (none)) else (none)) else (some true)
def impl_MelodyValid.f (k : Nat) (l0 : List (S25)) : Option (Bool) := if (l0.length : Int) > 24 then (some false) else (impl_MelodyValid.l0 k l0 (l0.length : Int) 0)
end Go.Proofs.YtlinjleahnccgaaDoor.E
end
section
namespace Go.Proofs.YtlinjleahnccgaaDoor.Pur
open Go.RowKit Go.Proofs.YtlinjleahnccgaaDoorW.PrintWords Go.Proofs.YtlinjleahnccgaaDoor.E
def okT (t : S25) : Bool := decide (0 ≤ t.f0) && decide (t.f0 ≤ 20) && (!t.f1 || decide (t.f0 % 7 = 2))
def okM (l : List S25) : Bool := l.all okT && decide (l.length ≤ 24)
theorem spec_valid (t : S25) : spec_ToneValid.f t.f0 t.f1 = some (okT t) := by
  obtain ⟨s, b⟩ := t
  unfold spec_ToneValid.f spec_l6In.f spec_l1Letter.f okT
  by_cases h0 : s ≥ 0
  · rw [if_pos h0]
    by_cases h1 : s ≤ 20
    · cases b <;> simp [h0, h1, tmod_pos, Bool.beq_eq_decide_eq]
    · simp [h0, h1]
  · simp [h0]
theorem impl_valid (t : S25) : impl_Tone_valid.f t.f0 t.f1 = some (okT t) := by
  obtain ⟨s, b⟩ := t
  unfold impl_Tone_valid.f okT
  by_cases h0 : s ≥ 0
  · rw [if_pos h0]
    by_cases h1 : s ≤ 20
    · cases b <;> simp [h0, h1, tmod_pos, Bool.beq_eq_decide_eq]
    · simp [h0, h1]
  · simp [h0]
theorem rdT_lt {l : List S25} {i : Nat} (h : i < l.length) : rd_T25 l (i : Int) = l[i] := by
  unfold rd_T25
  rw [toNat_nat, List.getD_eq_getElem?_getD, List.getElem?_eq_getElem h]
  rfl
end Go.Proofs.YtlinjleahnccgaaDoor.Pur
end
section
namespace Go.Proofs.YtlinjleahnccgaaDoor.E
open Go.RowKit Go.Proofs.YtlinjleahnccgaaDoorW.PrintWords Go.Proofs.YtlinjleahnccgaaDoorW.PrintLast Go.Proofs.YtlinjleahnccgaaDoorW.PrintMore
attribute [local go_sem] max2_int min2_int max_two min_two max_three min_three max_four min_four
set_option linter.unusedVariables false
set_option linter.unusedSimpArgs false
attribute [local go_sem] str_leq_ str_gtr_ str_geq_
def impl_ToneText.f (a0_0 : Int) (a0_1 : Bool) : Option (ByteArray) := (impl_Tone_valid.f a0_0 a0_1).bind fun t139 => (if t139 = true then ((impl_Tone_text.f a0_0 a0_1).bind fun t140 => (some t140)) else (some (⟨#[]⟩ : ByteArray)))
end Go.Proofs.YtlinjleahnccgaaDoor.E
end
section
namespace Go.Proofs.YtlinjleahnccgaaDoor.E
open Go.RowKit Go.Proofs.YtlinjleahnccgaaDoorW.PrintWords Go.Proofs.YtlinjleahnccgaaDoorW.PrintLast Go.Proofs.YtlinjleahnccgaaDoorW.PrintMore
attribute [local go_sem] max2_int min2_int max_two min_two max_three min_three max_four min_four
set_option linter.unusedVariables false
set_option linter.unusedSimpArgs false
attribute [local go_sem] str_leq_ str_gtr_ str_geq_
def impl_ToneLetter.f (a0_0 : Int) (a0_1 : Bool) : Option (ByteArray) := (impl_Tone_valid.f a0_0 a0_1).bind fun t112 => (if t112 = true then ((impl_Tone_letter.f a0_0 a0_1).bind fun t113 => (some t113)) else (some (⟨#[]⟩ : ByteArray)))
end Go.Proofs.YtlinjleahnccgaaDoor.E
end
section
namespace Go.Proofs.YtlinjleahnccgaaDoor.Pur
open Go.RowKit Go.Proofs.YtlinjleahnccgaaDoorW.PrintWords Go.Proofs.YtlinjleahnccgaaDoor.E
abbrev Tn := S25
def lett (s : Int) : ByteArray := lnames.getD (s % 7).toNat ByteArray.empty
def dig (s : Int) : ByteArray := ⟨#[UInt8.ofNat (48 + (s / 7).toNat)]⟩
def txt (t : Tn) : ByteArray := (if t.f1 = true then ⟨#[98]⟩ else lett t.f0) ++ dig t.f0
theorem ok_parts {t : Tn} (h : okT t = true) : 0 ≤ t.f0 ∧ t.f0 ≤ 20 ∧ (t.f1 = true → t.f0 % 7 = 2) := by
  unfold okT at h
  simp only [Bool.and_eq_true, decide_eq_true_eq, Bool.or_eq_true, Bool.not_eq_true'] at h
  obtain ⟨⟨h1, h2⟩, h3⟩ := h
  refine ⟨h1, h2, fun e => ?_⟩
  rcases h3 with h3 | h3
  · rw [e] at h3; cases h3
  · exact h3
theorem lett_size (s : Int) : (lett s).size ≤ 1 := by
  unfold lett lnames
  match (s % 7).toNat with
  | 0 => decide
  | 1 => decide
  | 2 => decide
  | 3 => decide
  | 4 => decide
  | 5 => decide
  | 6 => decide
  | _ + 7 => simp
theorem oct {s : Int} (h0 : 0 ≤ s) (h1 : s ≤ 20) : wrap64 (Int.tdiv s 7) = s / 7 := by
  rw [tdiv_pos 7 h0, w64 (by omega) (by omega)]
theorem itoa_s {s : Int} (h0 : 0 ≤ s) (h1 : s ≤ 20) : strconv_Itoa.f (wrap64 (Int.tdiv s 7)) = some (dig s) := by
  rw [oct h0 h1]
  unfold strconv_Itoa.f dig
  rw [if_pos (by omega), if_pos (by omega), Go.Lib.decDigits_one (by omega)]
theorem dec_0 : strOfNums [wrap64 (48 + 0) % 256] = ⟨#[UInt8.ofNat (48 + Int.toNat 0)]⟩ := by kernel_rfl
theorem dec_1 : strOfNums [wrap64 (48 + 1) % 256] = ⟨#[UInt8.ofNat (48 + Int.toNat 1)]⟩ := by kernel_rfl
theorem dec_2 : strOfNums [wrap64 (48 + 2) % 256] = ⟨#[UInt8.ofNat (48 + Int.toNat 2)]⟩ := by kernel_rfl
theorem dec_s {s : Int} (h0 : 0 ≤ s) (h1 : s ≤ 20) : EvP (fun k => spec_l6Dec.f k (wrap64 (Int.tdiv s 7))) (· = dig s) := by
  rw [oct h0 h1]
  refine EvP.step (fun k => rfl) (EvP.no (by omega) (EvP.no (by omega) (EvP.yes (by omega) (EvP.ret ?_))))
  unfold dig
  have h : s / 7 = 0 ∨ s / 7 = 1 ∨ s / 7 = 2 := by omega
  rcases h with h | h | h <;> rw [h]
  · exact dec_0
  · exact dec_1
  · exact dec_2
theorem impl_text {t : Tn} (h : okT t = true) : impl_Tone_text.f t.f0 t.f1 = some (txt t) := by
  obtain ⟨h0, h1, h2⟩ := ok_parts h
  unfold impl_Tone_text.f impl_Tone_letter.f
  rw [if_pos h0, itoa_s h0 h1]
  have hs : (lett t.f0).size ≤ 1 := lett_size _
  unfold txt
  unfold lett at hs ⊢
  by_cases hb : t.f1 = true
  · simp only [Option.bind_some, hb, if_true]
    exact if_pos (by rw [show (dig t.f0).size = 1 from rfl]; decide)
  · have hb' := Bool.eq_false_iff.mpr hb
    simp only [Option.bind_some, hb', Bool.false_eq_true, if_false]
    refine if_pos ?_
    have : (dig t.f0).size = 1 := rfl
    omega
theorem cut_letter : ∀ m : Nat, m < 7 → (⟨#[71, 65, 66, 67, 68, 69, 70]⟩ : ByteArray).extract m (m + 1) = lnames.getD m ByteArray.empty
  | 0, _ => by kernel_rfl
  | 1, _ => by kernel_rfl
  | 2, _ => by kernel_rfl
  | 3, _ => by kernel_rfl
  | 4, _ => by kernel_rfl
  | 5, _ => by kernel_rfl
  | 6, _ => by kernel_rfl
  | _ + 7, h => absurd h (by omega)
theorem spec_letter {t : Tn} (h : okT t = true) : spec_ToneLetter.f t.f0 t.f1 = some (lett t.f0) := by
  obtain ⟨h0, h1, h2⟩ := ok_parts h
  unfold spec_ToneLetter.f spec_l1Letter.f lett
  rw [spec_valid, h]
  simp only [Option.bind_some, if_true]
  rw [tmod_pos 7 h0]
  have hm0 : 0 ≤ t.f0 % 7 := by omega
  have hm1 : t.f0 % 7 < 7 := by omega
  generalize t.f0 % 7 = m at hm0 hm1
  obtain ⟨n, rfl⟩ := Int.eq_ofNat_of_zero_le hm0
  rw [w64 (by omega) (by omega), if_pos hm0, if_pos (by omega), if_pos (by omega), toNat_nat, toNat_succ, cut_letter n (by omega)]
theorem spec_ttext (t : Tn) : EvP (fun k => spec_ToneText.f k t.f0 t.f1) (· = (if okT t = true then txt t else ⟨#[]⟩)) := by
  simp only [spec_ToneText.f]
  refine EvP.bind (P := (· = okT t)) (EvP.con (spec_valid t) rfl) (fun _ e => ?_)
  subst e
  refine EvP.ite (fun h => ?_) (fun h => EvP.ret (by rw [if_neg h]))
  obtain ⟨h0, h1, h2⟩ := ok_parts h
  rw [if_pos h]
  unfold txt
  have hd : (dig t.f0).size = 1 := rfl
  refine EvP.ite (fun hb => ?_) (fun hb => ?_)
  · refine EvP.bind (dec_s h0 h1) (fun _ e => ?_)
    subst e
    refine EvP.yes (by omega) (EvP.ret ?_)
    rw [if_pos hb]
  · refine EvP.bind (P := (· = lett t.f0)) (EvP.con (spec_letter h) rfl) (fun _ e => ?_)
    subst e
    refine EvP.bind (dec_s h0 h1) (fun _ e => ?_)
    subst e
    have := lett_size t.f0
    refine EvP.yes (by omega) (EvP.ret ?_)
    rw [if_neg hb]
def tonesFrom : Nat → Int → List Tn
  | 0, _ => []
  | d + 1, i => (if okT ⟨i, false⟩ = true then [⟨i, false⟩] else []) ++ ((if okT ⟨i, true⟩ = true then [⟨i, true⟩] else []) ++ tonesFrom d (i + 1))
def tones : List Tn := [⟨0, false⟩, ⟨1, false⟩, ⟨2, false⟩, ⟨2, true⟩, ⟨3, false⟩, ⟨4, false⟩, ⟨5, false⟩, ⟨6, false⟩, ⟨7, false⟩, ⟨8, false⟩, ⟨9, false⟩, ⟨9, true⟩, ⟨10, false⟩, ⟨11, false⟩, ⟨12, false⟩, ⟨13, false⟩, ⟨14, false⟩, ⟨15, false⟩, ⟨16, false⟩, ⟨16, true⟩, ⟨17, false⟩, ⟨18, false⟩, ⟨19, false⟩, ⟨20, false⟩]
def stones : List Tn := [⟨0, false⟩, ⟨1, false⟩, ⟨2, true⟩, ⟨2, false⟩, ⟨3, false⟩, ⟨4, false⟩, ⟨5, false⟩, ⟨6, false⟩, ⟨7, false⟩, ⟨8, false⟩, ⟨9, true⟩, ⟨9, false⟩, ⟨10, false⟩, ⟨11, false⟩, ⟨12, false⟩, ⟨13, false⟩, ⟨14, false⟩, ⟨15, false⟩, ⟨16, true⟩, ⟨16, false⟩, ⟨17, false⟩, ⟨18, false⟩, ⟨19, false⟩, ⟨20, false⟩]
theorem tones_is : tonesFrom 21 0 = tones := by kernel_rfl
def fnd (L : List UInt8) : List Tn → Int × Bool × Bool
  | [] => (0, false, false)
  | t :: ts => if (txt t).toList = L then (t.f0, t.f1, true) else fnd L ts
theorem try_is (a0 : ByteArray) (i : Int) (b : Bool) (g : Int × Bool × Bool) : tfTry a0 i b (some g) = some (if okT ⟨i, b⟩ = true then (if (txt ⟨i, b⟩).toList = a0.toList then (i, b, true) else g) else g) := by
  unfold tfTry
  rw [show impl_Tone_valid.f i b = some (okT ⟨i, b⟩) from impl_valid ⟨i, b⟩]
  by_cases h : okT ⟨i, b⟩ = true
  · simp only [Option.bind_some, h, if_true]
    rw [show impl_Tone_text.f i b = some (txt ⟨i, b⟩) from impl_text h, Option.bind_some]
    by_cases e : (txt ⟨i, b⟩).toList = a0.toList
    · rw [if_pos e, if_pos e]
    · rw [if_neg e, if_neg e]
  · simp only [Option.bind_some, h]
    rfl
theorem loop_is (a0 : ByteArray) : ∀ (d : Nat) (i : Int), tfLoop a0 d i = some (fnd a0.toList (tonesFrom d i))
  | 0, i => rfl
  | d + 1, i => by
    unfold tfLoop tonesFrom
    rw [loop_is a0 d (i + 1), try_is, try_is]
    by_cases h1 : okT ⟨i, false⟩ = true
    · rw [if_pos h1, if_pos h1, List.singleton_append]
      simp only [fnd]
      by_cases h2 : okT ⟨i, true⟩ = true
      · rw [if_pos h2, if_pos h2, List.singleton_append]
        rfl
      · rw [if_neg h2, if_neg h2, List.nil_append]
    · rw [if_neg h1, if_neg h1, List.nil_append]
      by_cases h2 : okT ⟨i, true⟩ = true
      · rw [if_pos h2, if_pos h2, List.singleton_append]
        rfl
      · rw [if_neg h2, if_neg h2, List.nil_append]
theorem impl_from (s : ByteArray) : impl_ToneFrom.f s = some (fnd s.toList tones) := by
  unfold impl_ToneFrom.f
  rw [loop_is, tones_is]
theorem l1All_is : EvP (fun k => spec_l1All.f k) (· = stones) := EvP.of (Ev.of (fun k => spec_l1All.mono k) (k := 30) (by kernel_rfl)) rfl
theorem ok_stones : ∀ t ∈ stones, okT t = true := by
  have h : stones.all okT = true := by kernel_rfl
  exact List.all_eq_true.mp h
theorem spec_from_loop (s : ByteArray) (l : List Tn) (hl : l.length ≤ 100) (hk : ∀ t ∈ l, okT t = true) : ∀ d i : Nat, i + d = l.length → EvP (fun k => spec_ToneFrom.l0 k s l (i : Int)) (· = fnd s.toList (l.drop i)) := by
  intro d
  induction d with
  | zero =>
    intro i hi
    refine EvP.step (fun k => rfl) (EvP.no (by omega) (EvP.ret ?_))
    rw [List.drop_of_length_le (by omega)]
    rfl
  | succ d ih =>
    intro i hi
    have hlt : i < l.length := by omega
    have hok : okT l[i] = true := hk _ (List.getElem_mem hlt)
    refine EvP.step (fun k => rfl) (EvP.yes (by omega) (EvP.yes (by omega) ?_))
    rw [rdT_lt hlt, List.drop_eq_getElem_cons hlt]
    refine EvP.bind (spec_ttext l[i]) (fun _ e => ?_)
    rw [if_pos hok] at e
    subst e
    simp only [fnd]
    refine EvP.ite (fun h => EvP.ret (by rw [if_pos h])) (fun h => ?_)
    rw [if_neg h, w64 (by omega) (by omega)]
    exact ih (i + 1) (by omega)
theorem fnd_miss (L : List UInt8) : ∀ (l : List Tn), (∀ t ∈ l, (txt t).toList ≠ L) → fnd L l = (0, false, false)
  | [], _ => rfl
  | t :: ts, h => by
    unfold fnd
    rw [if_neg (h t List.mem_cons_self)]
    exact fnd_miss L ts (fun u hu => h u (List.mem_cons_of_mem _ hu))
theorem fnd_hits : ∀ t ∈ tones, fnd (txt t).toList tones = (t.f0, t.f1, true) ∧ fnd (txt t).toList stones = (t.f0, t.f1, true) := by
  have h : tones.all (fun t => decide (fnd (txt t).toList tones = (t.f0, t.f1, true)) && decide (fnd (txt t).toList stones = (t.f0, t.f1, true))) = true := by kernel_rfl
  intro t ht
  have := List.all_eq_true.mp h t ht
  rw [Bool.and_eq_true, decide_eq_true_eq, decide_eq_true_eq] at this
  exact this
theorem mem_tones {t : Tn} (h : okT t = true) : t ∈ tones := by
  obtain ⟨h0, h1, h2⟩ := ok_parts h
  obtain ⟨s, b⟩ := t
  simp only at h0 h1 h2
  obtain ⟨n, rfl⟩ := Int.eq_ofNat_of_zero_le h0
  have hn : n ≤ 20 := by omega
  cases b with
  | false =>
    have : n = 0 ∨ n = 1 ∨ n = 2 ∨ n = 3 ∨ n = 4 ∨ n = 5 ∨ n = 6 ∨ n = 7 ∨ n = 8 ∨ n = 9 ∨ n = 10 ∨ n = 11 ∨ n = 12 ∨ n = 13 ∨ n = 14 ∨ n = 15 ∨ n = 16 ∨ n = 17 ∨ n = 18 ∨ n = 19 ∨ n = 20 := by omega
    rcases this with rfl | rfl | rfl | rfl | rfl | rfl | rfl | rfl | rfl | rfl | rfl | rfl | rfl | rfl | rfl | rfl | rfl | rfl | rfl | rfl | rfl <;> simp [tones]
  | true =>
    have h3 := h2 rfl
    have : n = 2 ∨ n = 9 ∨ n = 16 := by omega
    rcases this with rfl | rfl | rfl <;> simp [tones]
theorem fnd_same (L : List UInt8) : fnd L stones = fnd L tones := by
  by_cases h : ∃ t ∈ tones, (txt t).toList = L
  · obtain ⟨t, ht, rfl⟩ := h
    rw [(fnd_hits t ht).1, (fnd_hits t ht).2]
  · have h' : ∀ t ∈ tones, (txt t).toList ≠ L := fun t ht e => h ⟨t, ht, e⟩
    rw [fnd_miss L tones h', fnd_miss L stones (fun t ht => h' t (mem_tones (ok_stones t ht)))]
theorem spec_from (s : ByteArray) : EvP (fun k => spec_ToneFrom.f k s) (· = fnd s.toList tones) := by
  simp only [spec_ToneFrom.f]
  refine EvP.bind l1All_is (fun _ e => ?_)
  subst e
  rw [← fnd_same]
  exact spec_from_loop s stones (by decide) ok_stones stones.length 0 (by omega)
end Go.Proofs.YtlinjleahnccgaaDoor.Pur
end
section
namespace Go.Proofs.YtlinjleahnccgaaDoor.E
open Go.RowKit Go.Proofs.YtlinjleahnccgaaDoorW.PrintWords Go.Proofs.YtlinjleahnccgaaDoorW.PrintLast Go.Proofs.YtlinjleahnccgaaDoorW.PrintMore
attribute [local go_sem] max2_int min2_int max_two min_two max_three min_three max_four min_four
set_option linter.unusedVariables false
set_option linter.unusedSimpArgs false
attribute [local go_sem] str_leq_ str_gtr_ str_geq_
mutual
def spec_MelodyText.l0 : Nat → List (S25) → ByteArray → Int → Option (ByteArray)
 | 0, _, _, _ => none
 | k + 1, x0, x3, x4 => if x4 < (x0.length : Int) then ((spec_MelodyValid.f k x0).bind fun t269 => (spec_MelodyText.j1 k x0 x3 x4 t269)) else (spec_MelodyText.j1 k x0 x3 x4 false)
def spec_MelodyText.j1 : Nat → List (S25) → ByteArray → Int → Bool → Option (ByteArray)
 | 0, _, _, _, _ => none
 | k + 1, x0, x3, x4, x12 => if x12 = true then (if x4 > 0 then (if x3.size + 1 ≤ 9223372036854775807 then (if 0 ≤ x4 then (if x4 < (x0.length : Int) then ((spec_ToneText.f k ((rd_T25 x0 x4).f0) ((rd_T25 x0 x4).f1)).bind fun t271 => (if (x3 ++ (⟨#[32]⟩ : ByteArray)).size + t271.size ≤ 9223372036854775807 then (spec_MelodyText.l0 k x0 ((x3 ++ (⟨#[32]⟩ : ByteArray)) ++ t271) (wrap64 (x4 + 1))) else (none))) else (none)) else (none)) else (none)) else (if 0 ≤ x4 then (if x4 < (x0.length : Int) then ((spec_ToneText.f k ((rd_T25 x0 x4).f0) ((rd_T25 x0 x4).f1)).bind fun t273 => (if x3.size + t273.size ≤ 9223372036854775807 then (spec_MelodyText.l0 k x0 (x3 ++ t273) (wrap64 (x4 + 1))) else (none))) else (none)) else (none))) else (some x3)
end
def spec_MelodyText.f (k : Nat) (l0 : List (S25)) : Option (ByteArray) := spec_MelodyText.l0 k l0 (⟨#[]⟩ : ByteArray) 0
end Go.Proofs.YtlinjleahnccgaaDoor.E
end
section
namespace Go.Proofs.YtlinjleahnccgaaDoor.E
open Go.RowKit Go.Proofs.YtlinjleahnccgaaDoorW.PrintWords Go.Proofs.YtlinjleahnccgaaDoorW.PrintLast Go.Proofs.YtlinjleahnccgaaDoorW.PrintMore
attribute [local go_sem] max2_int min2_int max_two min_two max_three min_three max_four min_four
set_option linter.unusedVariables false
set_option linter.unusedSimpArgs false
attribute [local go_sem] str_leq_ str_gtr_ str_geq_
def strings_Join.f (l0 : List ByteArray) (a1 : ByteArray) : Option ByteArray := if l0.length ≤ 140737488355328 then (if (Go.Lib.join (l0.map (·.data.toList)) a1.data.toList).length ≤ 140737488355328 then some ⟨(Go.Lib.join (l0.map (·.data.toList)) a1.data.toList).toArray⟩ else none) else none
end Go.Proofs.YtlinjleahnccgaaDoor.E
end
section
namespace Go.Proofs.YtlinjleahnccgaaDoor.E
open Go.RowKit Go.Proofs.YtlinjleahnccgaaDoorW.PrintWords Go.Proofs.YtlinjleahnccgaaDoorW.PrintLast Go.Proofs.YtlinjleahnccgaaDoorW.PrintMore
attribute [local go_sem] max2_int min2_int max_two min_two max_three min_three max_four min_four
set_option linter.unusedVariables false
set_option linter.unusedSimpArgs false
attribute [local go_sem] str_leq_ str_gtr_ str_geq_
def mtWords : List S25 → Option (List ByteArray)
 | [] => some []
 | t :: ts => (impl_Tone_text.f t.f0 t.f1).bind fun x => (mtWords ts).bind fun xs => some (x :: xs)
def impl_MelodyText.f (k : Nat) (l0 : List (S25)) : Option ByteArray := (impl_MelodyValid.f k l0).bind fun v => (if v = true then (if l0.length ≤ 1000000 then ((mtWords l0).bind fun ws => strings_Join.f ws ⟨#[32]⟩) else none) else some ⟨#[]⟩)
def pr (t : S25) : Int × Bool := (t.f0, t.f1)
end Go.Proofs.YtlinjleahnccgaaDoor.E
end
section
namespace Go.Proofs.YtlinjleahnccgaaDoor.Pur
open Go.RowKit Go.Proofs.YtlinjleahnccgaaDoorW.PrintWords Go.Proofs.YtlinjleahnccgaaDoorW.PrintMore Go.Proofs.YtlinjleahnccgaaDoor.E
theorem ba_ext {a b : ByteArray} (h : a.data.toList = b.data.toList) : a = b := by
  cases a; cases b
  congr 1
  exact Array.toList_inj.mp h
theorem list_len (t : ByteArray) : t.data.toList.length = t.size := Array.length_toList
def tailL : List Tn → List UInt8
  | [] => []
  | t :: ts => 32 :: ((txt t).data.toList ++ tailL ts)
def melL : List Tn → List UInt8
  | [] => []
  | t :: ts => (txt t).data.toList ++ tailL ts
def cutW : List UInt8 → List (List UInt8)
  | [] => [[]]
  | x :: xs => if x = 32 then [] :: cutW xs else match cutW xs with
    | [] => [[x]]
    | w :: ws => (x :: w) :: ws
theorem cutW_blank (xs : List UInt8) : cutW (32 :: xs) = [] :: cutW xs := rfl
theorem cutW_other {x : UInt8} (h : x ≠ 32) {xs w : List UInt8} {ws : List (List UInt8)} (e : cutW xs = w :: ws) : cutW (x :: xs) = (x :: w) :: ws := by
  rw [cutW, if_neg h, e]
theorem cutW_ne : ∀ l, cutW l ≠ []
  | [] => by simp [cutW]
  | x :: xs => by
    unfold cutW
    split
    · simp
    · split <;> simp
theorem cutW_miss : ∀ l : List UInt8, (∀ x ∈ l, x ≠ 32) → cutW l = [l]
  | [], _ => rfl
  | x :: xs, h => by
    exact cutW_other (h x List.mem_cons_self) (cutW_miss xs (fun y hy => h y (List.mem_cons_of_mem _ hy)))
theorem cutW_hit : ∀ (i : Nat) (l : List UInt8), l[i]? = some 32 → (∀ j, j < i → l[j]? ≠ some 32) → cutW l = l.take i :: cutW (l.drop (i + 1))
  | i, [], h, _ => by simp at h
  | 0, x :: xs, h, _ => by
    have e : x = 32 := by simpa using h
    subst e
    simp [cutW]
  | i + 1, x :: xs, h, hn => by
    have e : x ≠ 32 := fun e => hn 0 (by omega) (by simp [e])
    have ih := cutW_hit i xs (by simpa using h) (fun j hj => by have := hn (j + 1) (by omega); simpa using this)
    rw [cutW_other e ih]
    rfl
theorem occ_byte (s : List UInt8) (j : Nat) : Go.Lib.occAt s [32] j = true ↔ s[j]? = some 32 := by
  unfold Go.Lib.occAt
  cases h : s.drop j with
  | nil =>
    have : s.length ≤ j := List.drop_eq_nil_iff.mp h
    simp [List.isPrefixOf, List.getElem?_eq_none this]
  | cons y ys =>
    have hj : j < s.length := by
      refine Nat.lt_of_not_le (fun hle => ?_)
      rw [List.drop_of_length_le hle] at h
      cases h
    have : s[j]? = some y := by
      rw [List.getElem?_eq_getElem hj]
      rw [List.drop_eq_getElem_cons hj] at h
      simp only [List.cons.injEq] at h
      rw [h.1]
    rw [this]
    simp [List.isPrefixOf]
    exact eq_comm
theorem split_is : ∀ (n : Nat) (s : List UInt8), s.length ≤ n → Go.Lib.splitK [32] 0 (Go.Lib.count s [32]) s = cutW s := by
  intro n
  induction n with
  | zero =>
    intro s hs
    obtain rfl := List.eq_nil_of_length_eq_zero (by omega : s.length = 0)
    rfl
  | succ n ih =>
    intro s hs
    rcases Go.Lib.index_spec s [32] with ⟨h1, h2⟩ | ⟨i, h1, h2, h3, h4⟩
    · rw [Go.Lib.count_miss h1]
      rw [cutW_miss s (fun x hx e => ?_)]
      · rfl
      · subst e
        obtain ⟨j, hj, he⟩ := List.getElem_of_mem hx
        have := h2 j (by omega)
        rw [(occ_byte s j).mpr (by rw [List.getElem?_eq_getElem hj, he])] at this
        cases this
    · have h5 := (occ_byte s i).mp h3
      have hlt : i < s.length := by
        refine Nat.lt_of_not_le (fun hle => ?_)
        rw [List.getElem?_eq_none hle] at h5
        cases h5
      rw [Go.Lib.count_hit (by simp) h1, Nat.add_comm]
      unfold Go.Lib.splitK
      rw [if_neg (by rw [h1]; simp), h1]
      simp only [List.length_cons, List.length_nil]
      rw [show ((i : Int)).toNat = i from rfl, ih _ (by rw [List.length_drop]; omega), cutW_hit i s h5 (fun j hj e => ?_)]
      · rfl
      · have := h4 j hj
        rw [(occ_byte s j).mpr e] at this
        cases this
def pre (p : List UInt8) : List (List UInt8) → List (List UInt8)
  | [] => []
  | w :: ws => (p ++ w) :: ws
theorem bt_at (t : ByteArray) (i : Nat) (h : i < t.size) : bt t (i : Int) = ((t.data.toList[i]'(by rw [Array.length_toList]; exact h)).toNat : Int) := by
  unfold bt
  rw [toNat_nat, dif_pos h, Array.getElem_toList]
  rfl
theorem ext_data (t : ByteArray) (a b : Nat) : (t.extract a b).data.toList = (t.data.toList.take b).drop a := by
  first | rw [ByteArray.data_extract, Array.toList_extract, List.extract_eq_drop_take'] | simp [ByteArray.data_extract]
theorem take_snoc {l : List UInt8} {i : Nat} (h : i < l.length) (f : Nat) (hf : f ≤ i) : (l.take (i + 1)).drop f = (l.take i).drop f ++ [l[i]] := by
  rw [List.take_succ_eq_append_getElem h, List.drop_append_of_le_length (by simp; omega)]
theorem cut_loop (s : ByteArray) (hs : s.size ≤ 100000000) : ∀ (d i f : Nat) (acc : List ByteArray), i + d = s.size → f ≤ i → acc.length ≤ i → EvP (fun k => spec_l2Cut.l0 k s 32 acc (f : Int) (i : Int)) (fun r => r.map (·.data.toList) = acc.map (·.data.toList) ++ pre ((s.data.toList.take i).drop f) (cutW (s.data.toList.drop i))) := by
  have hL := list_len s
  intro d
  induction d with
  | zero =>
    intro i f acc hi hf ha
    refine EvP.succ ?_
    simp only [spec_l2Cut.l0]
    refine EvP.no (by omega) (EvP.yes (by omega) (EvP.yes (by omega) (EvP.yes (by omega) (EvP.ret ?_))))
    rw [List.drop_of_length_le (by omega : s.data.toList.length ≤ i)]
    simp only [List.map_append, List.map_cons, List.map_nil, toNat_nat, ext_data, cutW, pre, List.append_nil]
    rw [show s.size = i by omega]
  | succ d ih =>
    intro i f acc hi hf ha
    have hlt : i < s.size := by omega
    have hlt' : i < s.data.toList.length := by omega
    have e1 : Hd (wrap64 ((i : Int) + 1) = ((i + 1 : Nat) : Int)) := ⟨w64 (by omega) (by omega)⟩
    refine EvP.succ ?_
    simp only [spec_l2Cut.l0]
    rw [e1.out]
    refine EvP.yes (by omega) (EvP.yes (by omega) ?_)
    rw [List.drop_eq_getElem_cons hlt', bt_at s i hlt]
    refine EvP.ite (fun h => ?_) (fun h => ?_)
    · have hx : s.data.toList[i] = 32 := by
        apply UInt8.toNat_inj.mp
        have : (32 : UInt8).toNat = 32 := rfl
        omega
      refine EvP.yes (by omega) (EvP.yes (by omega) (EvP.yes (by omega) (EvP.yes (by omega) ?_)))
      refine (ih (i + 1) (i + 1) _ (by omega) (Nat.le_refl _) (by simp; omega)).mono (fun r hr => ?_)
      rw [hr, hx]
      have hp : ∀ ws : List (List UInt8), pre ((s.data.toList.take (i + 1)).drop (i + 1)) ws = ws := by
        intro ws
        rw [List.drop_of_length_le (by rw [List.length_take]; omega)]
        cases ws <;> rfl
      rw [hp, cutW_blank]
      simp only [List.map_append, List.map_cons, List.map_nil, ext_data, toNat_nat, pre, List.append_assoc, List.append_nil, List.singleton_append]
    · have hx : s.data.toList[i] ≠ 32 := fun e => h (by rw [e]; rfl)
      refine (ih (i + 1) f _ (by omega) (by omega) (by omega)).mono (fun r hr => ?_)
      rw [hr, take_snoc hlt' f hf]
      congr 1
      have hne := cutW_ne (s.data.toList.drop (i + 1))
      cases hc : cutW (s.data.toList.drop (i + 1)) with
      | nil => exact absurd hc hne
      | cons w ws =>
        rw [cutW_other hx hc]
        simp [pre]
theorem split_words (s : ByteArray) : (Go.Lib.splitB ⟨#[32]⟩ 0 (Go.Lib.countB s ⟨#[32]⟩) s).map (·.data.toList) = cutW s.data.toList := by
  rw [Go.Lib.splitB_data]
  exact split_is _ _ (Nat.le_refl _)
theorem map_inj {a b : List ByteArray} (h : a.map (·.data.toList) = b.map (·.data.toList)) : a = b := by
  induction a generalizing b with
  | nil => cases b with
    | nil => rfl
    | cons _ _ => simp at h
  | cons x xs ih => cases b with
    | nil => simp at h
    | cons y ys =>
      simp only [List.map_cons, List.cons.injEq] at h
      rw [ba_ext h.1, ih h.2]
theorem spec_cut (s : ByteArray) (hs : s.size ≤ 100000000) : EvP (fun k => spec_l2Cut.f k s 32) (· = Go.Lib.splitB ⟨#[32]⟩ 0 (Go.Lib.countB s ⟨#[32]⟩) s) := by
  simp only [spec_l2Cut.f]
  refine (cut_loop s hs s.size 0 0 [] (by omega) (Nat.le_refl _) (by simp)).mono (fun r hr => map_inj ?_)
  rw [hr, split_words]
  have := cutW_ne s.data.toList
  cases hc : cutW s.data.toList with
  | nil => exact absurd hc this
  | cons w ws => simp [pre, hc]
def ofW : List Tn → List ByteArray → List Tn × Bool
  | acc, [] => (acc, true)
  | acc, w :: ws => if (fnd w.toList tones).2.2 = true then (if acc.length = 24 then ([], false) else ofW (acc ++ [⟨(fnd w.toList tones).1, (fnd w.toList tones).2.1⟩]) ws) else ([], false)
theorem rdS_at {l : List ByteArray} {i : Nat} (h : i < l.length) : rdOf ByteArray.empty l (i : Int) = l[i] := by
  unfold rdOf
  rw [toNat_nat, List.getD_eq_getElem?_getD, List.getElem?_eq_getElem h]
  rfl
theorem impl_of_loop (ws : List ByteArray) (hw : ws.length ≤ 200000000) : ∀ (d i : Nat) (acc : List Tn), i + d = ws.length → acc.length ≤ 24 → EvP (fun k => impl_MelodyFrom.l0 k acc ws (ws.length : Int) (i : Int)) (· = ofW acc (ws.drop i)) := by
  intro d
  induction d with
  | zero =>
    intro i acc hi ha
    refine EvP.succ ?_
    simp only [impl_MelodyFrom.l0]
    refine EvP.no (by omega) (EvP.ret ?_)
    rw [List.drop_of_length_le (by omega)]
    rfl
  | succ d ih =>
    intro i acc hi ha
    have hlt : i < ws.length := by omega
    refine EvP.succ ?_
    simp only [impl_MelodyFrom.l0]
    refine EvP.yes (by omega) (EvP.yes (by omega) (EvP.yes (by omega) ?_))
    rw [rdS_at hlt, List.drop_eq_getElem_cons hlt]
    unfold ofW
    refine EvP.bind (P := (· = fnd ws[i].toList tones)) (EvP.con (impl_from _) rfl) (fun _ e => ?_)
    subst e
    refine EvP.ite (fun h => ?_) (fun h => EvP.ret (by rw [if_neg h]))
    rw [if_pos h]
    refine EvP.ite (fun h2 => EvP.ret (by rw [if_pos (by omega)])) (fun h2 => ?_)
    rw [if_neg (by omega)]
    refine EvP.yes (by omega) ?_
    rw [w64 (by omega) (by omega)]
    exact ih (i + 1) _ (by omega) (by simp; omega)
theorem spec_of_loop (ws : List ByteArray) (hw : ws.length ≤ 200000000) : ∀ (d i : Nat) (acc : List Tn), i + d = ws.length → acc.length = i → i ≤ 24 → EvP (fun k => spec_MelodyFrom.l0 k acc ws (i : Int)) (· = ofW acc (ws.drop i)) := by
  intro d
  induction d with
  | zero =>
    intro i acc hi ha h24
    refine EvP.succ ?_
    simp only [spec_MelodyFrom.l0]
    refine EvP.no (by omega) (EvP.ret ?_)
    rw [List.drop_of_length_le (by omega)]
    rfl
  | succ d ih =>
    intro i acc hi ha h24
    have hlt : i < ws.length := by omega
    refine EvP.succ ?_
    simp only [spec_MelodyFrom.l0]
    refine EvP.yes (by omega) (EvP.yes (by omega) ?_)
    rw [rdS_at hlt, List.drop_eq_getElem_cons hlt]
    unfold ofW
    refine EvP.bind (spec_from _) (fun _ e => ?_)
    subst e
    refine EvP.ite (fun h => ?_) (fun h => EvP.ret (by rw [if_neg h]))
    rw [if_pos h]
    refine EvP.ite (fun h2 => EvP.ret (by rw [if_pos (by omega)])) (fun h2 => ?_)
    rw [if_neg (by omega)]
    refine EvP.yes (by omega) ?_
    rw [w64 (by omega) (by omega)]
    exact ih (i + 1) _ (by omega) (by simp; omega) (by omega)
def melOf (s : ByteArray) : List Tn × Bool := if s.toList = [] then ([], true) else ofW [] (Go.Lib.splitB ⟨#[32]⟩ 0 (Go.Lib.countB s ⟨#[32]⟩) s)
theorem split_len (s : ByteArray) : (Go.Lib.splitB ⟨#[32]⟩ 0 (Go.Lib.countB s ⟨#[32]⟩) s).length ≤ s.size + 2 := by
  have h1 := Go.Lib.splitB_length_le ⟨#[32]⟩ 0 (Go.Lib.countB s ⟨#[32]⟩) s
  have h2 := Go.Lib.count_le s.data.toList [32]
  have h3 := list_len s
  have h4 : Go.Lib.countB s ⟨#[32]⟩ = Go.Lib.count s.data.toList [32] := rfl
  omega
theorem impl_mfrom (s : ByteArray) (hs : s.size ≤ 100000000) : EvP (fun k => impl_MelodyFrom.f k s) (· = melOf s) := by
  simp only [impl_MelodyFrom.f]
  refine EvP.bind (P := (· = [])) (EvP.con rfl rfl) (fun _ e => ?_)
  subst e
  unfold melOf
  refine EvP.ite (fun h => EvP.ret (by rw [if_pos h])) (fun h => ?_)
  rw [if_neg h]
  refine EvP.bind (P := (· = Go.Lib.splitB ⟨#[32]⟩ 0 (Go.Lib.countB s ⟨#[32]⟩) s)) (EvP.con (r := Go.Lib.splitB ⟨#[32]⟩ 0 (Go.Lib.countB s ⟨#[32]⟩) s) ?_ rfl) (fun _ e => ?_)
  · unfold strings_Split.f
    rw [if_pos (by omega), if_pos (by decide)]
  · subst e
    have := split_len s
    exact impl_of_loop _ (by omega) _ 0 [] (Nat.zero_add _) (by simp)
theorem spec_mfrom (s : ByteArray) (hs : s.size ≤ 100000000) : EvP (fun k => spec_MelodyFrom.f k s) (· = melOf s) := by
  simp only [spec_MelodyFrom.f]
  refine EvP.bind (P := (· = [])) (EvP.con rfl rfl) (fun _ e => ?_)
  subst e
  unfold melOf
  refine EvP.ite (fun h => EvP.ret (by rw [if_pos h])) (fun h => ?_)
  rw [if_neg h]
  refine EvP.bind (spec_cut s hs) (fun _ e => ?_)
  subst e
  have := split_len s
  exact spec_of_loop _ (by omega) _ 0 [] (Nat.zero_add _) rfl (by omega)
theorem ofW_len : ∀ (ws : List ByteArray) (acc : List Tn), acc.length ≤ 24 → (ofW acc ws).1.length ≤ 24
  | [], acc, h => h
  | w :: ws, acc, h => by
    unfold ofW
    split
    · split
      · exact Nat.zero_le _
      · exact ofW_len ws _ (by simp; omega)
    · exact Nat.zero_le _
theorem melOf_len (s : ByteArray) : (melOf s).1.length ≤ 24 := by
  unfold melOf
  split
  · exact Nat.zero_le _
  · exact ofW_len _ _ (Nat.zero_le _)
end Go.Proofs.YtlinjleahnccgaaDoor.Pur
end
section
namespace Go.Proofs.YtlinjleahnccgaaDoor.E
open Go.RowKit Go.Proofs.YtlinjleahnccgaaDoorW.PrintWords Go.Proofs.YtlinjleahnccgaaDoorW.PrintLast Go.Proofs.YtlinjleahnccgaaDoorW.PrintMore
attribute [local go_sem] max2_int min2_int max_two min_two max_three min_three max_four min_four
set_option linter.unusedVariables false
set_option linter.unusedSimpArgs false
attribute [local go_sem] str_leq_ str_gtr_ str_geq_
def laws_szToneS.f (l0 : List (S23)) (a1 : Int) : Option (Int) := if (wrap64 (a1 - (l0.length : Int))) < 0 then (some (-1)) else (some (wrap64 (a1 - (l0.length : Int))))
end Go.Proofs.YtlinjleahnccgaaDoor.E
end
section
namespace Go.Proofs.YtlinjleahnccgaaDoor.E
open Go.RowKit Go.Proofs.YtlinjleahnccgaaDoorW.PrintWords Go.Proofs.YtlinjleahnccgaaDoorW.PrintLast Go.Proofs.YtlinjleahnccgaaDoorW.PrintMore
attribute [local go_sem] max2_int min2_int max_two min_two max_three min_three max_four min_four
set_option linter.unusedVariables false
set_option linter.unusedSimpArgs false
attribute [local go_sem] str_leq_ str_gtr_ str_geq_
def laws_toTone.f (a0_0 : Int) (a0_1 : Bool) : Option (Int × Bool) := some (a0_0, a0_1)
end Go.Proofs.YtlinjleahnccgaaDoor.E
end
section
namespace Go.Proofs.YtlinjleahnccgaaDoor.E
open Go.RowKit Go.Proofs.YtlinjleahnccgaaDoorW.PrintWords Go.Proofs.YtlinjleahnccgaaDoorW.PrintLast Go.Proofs.YtlinjleahnccgaaDoorW.PrintMore
attribute [local go_sem] max2_int min2_int max_two min_two max_three min_three max_four min_four
set_option linter.unusedVariables false
set_option linter.unusedSimpArgs false
attribute [local go_sem] str_leq_ str_gtr_ str_geq_
def laws_toToneS.l0 : Nat → List (S23) → List (S25) → Int → Option ((List (S25)))
 | 0, _, _, _ => none
 | k + 1, x0, x3, x4 => if x4 < (x0.length : Int) then (if 0 ≤ x4 then ((laws_toTone.f ((rd_T23 x0 x4).f0) ((rd_T23 x0 x4).f1)).bind fun bt278 => (if x4 < (x3.length : Int) then (laws_toToneS.l0 k x0 (x3.set (x4 : Int).toNat (⟨bt278.1, bt278.2⟩ : S25)) (wrap64 (x4 + 1))) else (none))) else (none)) else (some x3)
def laws_toToneS.f (k : Nat) (l0 : List (S23)) : Option ((List (S25))) := if 0 ≤ (l0.length : Int) then (if ((l0.length : Int) : Int).toNat ≤ 17592186044416 then (laws_toToneS.l0 k l0 (List.replicate ((l0.length : Int) : Int).toNat z25) 0) else (none)) else (none)
end Go.Proofs.YtlinjleahnccgaaDoor.E
end
section
namespace Go.Proofs.YtlinjleahnccgaaDoor.Pur
open Go.RowKit Go.Proofs.YtlinjleahnccgaaDoorW.PrintWords Go.Proofs.YtlinjleahnccgaaDoor.E
abbrev Tn' := S25
def cv (t : S23) : S25 := ⟨t.f0, t.f1⟩
theorem eq_loop (l : List S25) (hl : l.length ≤ 1048576) : ∀ d i : Nat, i + d = l.length → EvP (fun k => laws_eqToneS.l0 k l l (i : Int)) (· = true) := by
  intro d
  induction d with
  | zero =>
    intro i hi
    refine EvP.succ ?_
    simp only [laws_eqToneS.l0]
    exact EvP.no (by omega) (EvP.ret rfl)
  | succ d ih =>
    intro i hi
    refine EvP.succ ?_
    simp only [laws_eqToneS.l0]
    refine EvP.yes (by omega) (EvP.yes (by omega) (EvP.yes (by omega) ?_))
    refine EvP.bind (P := (· = true)) (EvP.con (by simp [laws_eqTone.f]) rfl) (fun _ e => ?_)
    subst e
    refine EvP.yes rfl ?_
    rw [w64 (by omega) (by omega)]
    exact ih (i + 1) (by omega)
theorem eq_ok (l : List S25) (hl : l.length ≤ 1048576) : EvP (fun k => laws_eqToneS.f k l l) (· = true) := by
  unfold laws_eqToneS.f
  exact EvP.yes rfl (eq_loop l hl l.length 0 (by omega))
end Go.Proofs.YtlinjleahnccgaaDoor.Pur
end
section
namespace Go.Proofs.YtlinjleahnccgaaDoor.Pur
open Go.RowKit Go.Proofs.YtlinjleahnccgaaDoorW.PrintWords Go.Proofs.YtlinjleahnccgaaDoor.E
def toneM (j : Nat) : Tn' := ⟨1 + 2 * (j : Int), (Int.tmod (2 + 2 * (j : Int)) 3 == 0)⟩
def MarkedT (i : Nat) (xs : List Tn') : Prop := ∀ j : Nat, j < i → xs[j]? = some (toneM j)
theorem marked_loop (m : Nat) (hm : m ≤ 1048576) : ∀ (d i : Nat) (xs : List Tn'), i + d = m → xs.length = m → MarkedT i xs → EvP (fun k => laws_markToneS.l0 k xs (1 + 2 * (i : Int)) (i : Int)) (fun r => r.1 = 1 + 2 * (m : Int) ∧ r.2.length = m ∧ MarkedT m r.2) := by
  intro d
  induction d with
  | zero =>
    intro i xs hi hl h
    obtain rfl : i = m := by omega
    refine EvP.succ ?_
    simp only [laws_markToneS.l0]
    exact EvP.no (by omega) (EvP.ret ⟨rfl, hl, h⟩)
  | succ d ih =>
    intro i xs hi hl h
    refine EvP.succ ?_
    simp only [laws_markToneS.l0]
    have e1 : Hd (wrap64 (1 + 2 * (i : Int) + 1) = 2 + 2 * (i : Int)) := ⟨by rw [w64 (by omega) (by omega)]; omega⟩
    have e2 : Hd (wrap64 (2 + 2 * (i : Int) + 1) = 1 + 2 * ((i + 1 : Nat) : Int)) := ⟨by rw [w64 (by omega) (by omega)]; omega⟩
    have e3 : Hd (wrap64 ((i : Int) + 1) = ((i + 1 : Nat) : Int)) := ⟨w64 (by omega) (by omega)⟩
    rw [e1.out, e2.out, e3.out]
    refine EvP.yes (by omega) (EvP.yes (by omega) ?_)
    refine EvP.bind (P := fun y => y = xs.set i ⟨1 + 2 * (i : Int), (rd_T25 xs (i : Int)).f1⟩) (EvP.con rfl rfl) (fun y hy => ?_)
    subst hy
    have hlt : i < (xs.set i ⟨1 + 2 * (i : Int), (rd_T25 xs (i : Int)).f1⟩).length := by rw [List.length_set]; omega
    rw [rdT_lt hlt, List.getElem_set_self, toNat_nat]
    refine ih (i + 1) _ (by omega) (by rw [List.length_set, List.length_set]; exact hl) (fun j hj => ?_)
    by_cases e : j = i
    · subst e
      rw [List.getElem?_set_self hlt]
      rfl
    · rw [List.getElem?_set_ne (Ne.symm e), List.getElem?_set_ne (Ne.symm e)]
      exact h j (by omega)
theorem marked_tones (xs : List Tn') (hl : xs.length ≤ 1048576) : EvP (fun k => laws_markToneS.f k xs 1) (fun r => r.1 = 1 + 2 * (xs.length : Int) ∧ r.2.length = xs.length ∧ MarkedT xs.length r.2) := by
  simp only [laws_markToneS.f]
  exact marked_loop xs.length hl xs.length 0 xs (by omega) rfl (fun j hj => by omega)
theorem held_loop (xs : List Tn') (m : Nat) (hm : m ≤ 1048576) (hl : xs.length = m) (h : MarkedT m xs) : ∀ d i : Nat, i + d = m → EvP (fun k => laws_heldToneS.l0 k xs (1 + 2 * (i : Int)) (i : Int)) (· = 1 + 2 * (m : Int)) := by
  intro d
  induction d with
  | zero =>
    intro i hi
    obtain rfl : i = m := by omega
    refine EvP.succ ?_
    simp only [laws_heldToneS.l0]
    exact EvP.no (by omega) (EvP.ret rfl)
  | succ d ih =>
    intro i hi
    refine EvP.succ ?_
    simp only [laws_heldToneS.l0]
    have e1 : Hd (wrap64 (1 + 2 * (i : Int) + 1) = 2 + 2 * (i : Int)) := ⟨by rw [w64 (by omega) (by omega)]; omega⟩
    have e2 : Hd (wrap64 (2 + 2 * (i : Int) + 1) = 1 + 2 * ((i + 1 : Nat) : Int)) := ⟨by rw [w64 (by omega) (by omega)]; omega⟩
    have e3 : Hd (wrap64 ((i : Int) + 1) = ((i + 1 : Nat) : Int)) := ⟨w64 (by omega) (by omega)⟩
    have hlt : i < xs.length := by omega
    have hv : xs[i] = toneM i := Option.some.inj ((List.getElem?_eq_getElem hlt).symm.trans (h i (by omega)))
    rw [e1.out, e2.out, e3.out, rdT_lt hlt, hv]
    refine EvP.yes (by omega) (EvP.yes (by omega) (EvP.yes rfl (EvP.no (by simp [toneM]) ?_)))
    exact ih (i + 1) (by omega)
theorem held_tones (xs : List Tn') (m : Nat) (hm : m ≤ 1048576) (hl : xs.length = m) (h : MarkedT m xs) : EvP (fun k => laws_heldToneS.f k xs 1) (· = 1 + 2 * (m : Int)) := by
  simp only [laws_heldToneS.f]
  exact held_loop xs m hm hl h m 0 (by omega)
end Go.Proofs.YtlinjleahnccgaaDoor.Pur
end
section
namespace Go.Proofs.YtlinjleahnccgaaDoor.Pur
open Go.RowKit Go.Proofs.YtlinjleahnccgaaDoorW.PrintWords Go.Proofs.YtlinjleahnccgaaDoorW.PrintMore Go.Proofs.YtlinjleahnccgaaDoor.E
theorem exact_mfrom (s : ByteArray) (_ : s.size ≤ 140737488351232) : ∃ k, laws_FnExactMelodyFrom.f k s = some true := by
  refine EvP.rounds ?_
  simp only [laws_FnExactMelodyFrom.f]
  refine EvP.ite (fun _ => EvP.ret rfl) (fun hs => ?_)
  have h1 := impl_mfrom s (by omega)
  have hn := melOf_len s
  refine EvP.bind (spec_mfrom s (by omega)) (fun _ e => ?_)
  subst e
  refine EvP.bind h1 (fun _ e => ?_)
  subst e
  have heq := eq_ok (melOf s).1 (by omega)
  refine EvP.bind heq (fun _ e => ?_)
  subst e
  refine EvP.yes rfl (EvP.succ ?_)
  simp only [laws_FnExactMelodyFrom.j0]
  refine EvP.no (by simp) ?_
  refine EvP.bind (marked_tones (melOf s).1 (by omega)) (fun r hr => ?_)
  obtain ⟨r1, r2, r3⟩ := hr
  have hh := held_tones r.2 (melOf s).1.length (by omega) r2 r3
  refine EvP.bind hh (fun _ e => ?_)
  subst e
  refine EvP.no (by omega) (EvP.yes r1.symm ?_)
  refine EvP.bind h1 (fun _ e => ?_)
  subst e
  refine EvP.bind heq (fun _ e => ?_)
  subst e
  refine EvP.yes rfl (EvP.succ ?_)
  simp only [laws_FnExactMelodyFrom.j1]
  refine EvP.no (by simp) ?_
  refine EvP.bind hh (fun _ e => ?_)
  subst e
  exact EvP.no (by omega) (EvP.yes r1.symm (EvP.ret rfl))
end Go.Proofs.YtlinjleahnccgaaDoor.Pur
end
section
namespace Go.Proofs.YtlinjleahnccgaaDoor.Head
set_option maxRecDepth 100000
theorem and_t {a b : Bool} (h : a = true) (k : b = true) : (a && b) = true := by rw [h, k]; rfl
theorem mayEnter_of {P : Program} {l : List String} {W rest : List (List Char)} (h : behindMainWord (wordsSigns P.initOrder.toList) = W) (hc : ∃ c r, W = c :: r ∧ (c == "gc".toList || c == "spec".toList) = false ∧ (c == "carried".toList) = false) (hs : stripLifts liftWords W = (l, "cut".toList :: rest))
    (hl : (l.contains "finals" || !P.laysLater) = true) (hb : (l.contains "reflectrows" || !P.bearsReflect) = true) (hr : (l.contains "reflectrows" || !l.contains "leanrows") = true) (hd : P.doorFits l = true) : P.mayEnter = true := by
  obtain ⟨c, r, rfl, h1, h2⟩ := hc
  unfold Program.mayEnter
  rw [h]
  dsimp only
  rw [hs, hl, hb, hr, hd, h1, h2]
  simp
theorem headLifts_of {P : Program} {l : List String} {W rest : List (List Char)} (h : behindMainWord (wordsSigns P.initOrder.toList) = W) (hs : stripLifts liftWords W = (l, "cut".toList :: rest)) : P.headLifts = l := by
  unfold Program.headLifts
  rw [h]
  dsimp only
  rw [hs]
  simp
theorem liftsFinal_of {P : Program} {l : List String} {W rest : List (List Char)} (h : behindMainWord (wordsSigns P.initOrder.toList) = W) (hc : ∃ c r, W = c :: r ∧ (c == "gc".toList || c == "spec".toList) = false ∧ (c == "carried".toList) = false) (hs : stripLifts liftWords W = (l, "cut".toList :: rest)) : P.liftsFinal = l.contains "finals" := by
  unfold Program.liftsFinal
  rw [headLifts_of h hs, h]
  obtain ⟨c, r, rfl, h1, h2⟩ := hc
  have h3 : ((c :: r).head? == some "carried".toList) = false := by
    rw [beq_eq_false_iff_ne] at h2 ⊢
    exact fun e => h2 (Option.some.inj e)
  dsimp only
  rw [h3, Bool.false_and, Bool.false_or]
theorem make_of {P : Program} {rest : List (List Char)} (h : behindMainWord (wordsSigns P.initOrder.toList) = "cut".toList :: rest) : P.make = some .cut := by
  unfold Program.make
  rw [h]
  dsimp only
  rw [if_neg (by decide), if_pos (by simp)]
theorem mainIs_of {P : Program} {s : List Char} {rest : List (List Char)} (h : wordsSigns P.initOrder.toList = "harness".toList :: s :: rest) (hs : isSumSigns s = true) : P.mainIs = some (true, s) := by
  unfold Program.mainIs
  rw [h]
  dsimp only
  rw [hs]
  simp
def io : List Nat := [104, 97, 114, 110, 101, 115, 115, 32, 98, 101, 49, 57, 49, 50, 55, 99, 99, 48, 99, 52, 52, 56, 99, 55, 56, 57, 99, 97, 98, 97, 54, 57, 98, 97, 102, 102, 51, 56, 56, 54, 56, 97, 49, 50, 102, 102, 52, 99, 54, 100, 98, 97, 50, 101, 54, 52, 99, 52, 55, 99, 49, 50, 53, 49, 98, 48, 49, 49, 55, 100, 52, 55, 32, 99, 117, 116, 32, 97, 116, 32, 108, 111, 111, 112, 46, 101, 120, 97, 109, 112, 108, 101, 47, 110, 101, 117, 109, 101, 115, 47, 108, 97, 119, 115, 46, 70, 110, 69, 120, 97, 99, 116, 84, 111, 110, 101, 76, 101, 116, 116, 101, 114, 32, 108, 111, 111, 112, 46, 101, 120, 97, 109, 112, 108, 101, 47, 110, 101, 117, 109, 101, 115, 47, 108, 97, 119, 115, 46, 70, 110, 69, 120, 97, 99, 116, 84, 111, 110, 101, 84, 101, 120, 116, 32, 108, 111, 111, 112, 46, 101, 120, 97, 109, 112, 108, 101, 47, 110, 101, 117, 109, 101, 115, 47, 108, 97, 119, 115, 46, 70, 110, 69, 120, 97, 99, 116, 84, 111, 110, 101, 70, 114, 111, 109, 32, 108, 111, 111, 112, 46, 101, 120, 97, 109, 112, 108, 101, 47, 110, 101, 117, 109, 101, 115, 47, 108, 97, 119, 115, 46, 70, 110, 84, 111, 110, 101, 84, 101, 120, 116, 32, 108, 111, 111, 112, 46, 101, 120, 97, 109, 112, 108, 101, 47, 110, 101, 117, 109, 101, 115, 47, 108, 97, 119, 115, 46, 70, 110, 84, 111, 110, 101, 70, 114, 111, 109, 32, 108, 111, 111, 112, 46, 101, 120, 97, 109, 112, 108, 101, 47, 110, 101, 117, 109, 101, 115, 47, 108, 97, 119, 115, 46, 70, 110, 69, 120, 97, 99, 116, 77, 101, 108, 111, 100, 121, 84, 101, 120, 116, 32, 108, 111, 111, 112, 46, 101, 120, 97, 109, 112, 108, 101, 47, 110, 101, 117, 109, 101, 115, 47, 108, 97, 119, 115, 46, 70, 110, 69, 120, 97, 99, 116, 77, 101, 108, 111, 100, 121, 70, 114, 111, 109, 32, 108, 111, 111, 112, 46, 101, 120, 97, 109, 112, 108, 101, 47, 110, 101, 117, 109, 101, 115, 47, 108, 97, 119, 115, 46, 70, 110, 77, 101, 108, 111, 100, 121, 77, 111, 118, 101, 79, 99, 116, 97, 118, 101]
def ws : List (List Nat) := [[104, 97, 114, 110, 101, 115, 115], [98, 101, 49, 57, 49, 50, 55, 99, 99, 48, 99, 52, 52, 56, 99, 55, 56, 57, 99, 97, 98, 97, 54, 57, 98, 97, 102, 102, 51, 56, 56, 54, 56, 97, 49, 50, 102, 102, 52, 99, 54, 100, 98, 97, 50, 101, 54, 52, 99, 52, 55, 99, 49, 50, 53, 49, 98, 48, 49, 49, 55, 100, 52, 55], [99, 117, 116], [97, 116], [108, 111, 111, 112, 46, 101, 120, 97, 109, 112, 108, 101, 47, 110, 101, 117, 109, 101, 115, 47, 108, 97, 119, 115, 46, 70, 110, 69, 120, 97, 99, 116, 84, 111, 110, 101, 76, 101, 116, 116, 101, 114], [108, 111, 111, 112, 46, 101, 120, 97, 109, 112, 108, 101, 47, 110, 101, 117, 109, 101, 115, 47, 108, 97, 119, 115, 46, 70, 110, 69, 120, 97, 99, 116, 84, 111, 110, 101, 84, 101, 120, 116], [108, 111, 111, 112, 46, 101, 120, 97, 109, 112, 108, 101, 47, 110, 101, 117, 109, 101, 115, 47, 108, 97, 119, 115, 46, 70, 110, 69, 120, 97, 99, 116, 84, 111, 110, 101, 70, 114, 111, 109], [108, 111, 111, 112, 46, 101, 120, 97, 109, 112, 108, 101, 47, 110, 101, 117, 109, 101, 115, 47, 108, 97, 119, 115, 46, 70, 110, 84, 111, 110, 101, 84, 101, 120, 116], [108, 111, 111, 112, 46, 101, 120, 97, 109, 112, 108, 101, 47, 110, 101, 117, 109, 101, 115, 47, 108, 97, 119, 115, 46, 70, 110, 84, 111, 110, 101, 70, 114, 111, 109], [108, 111, 111, 112, 46, 101, 120, 97, 109, 112, 108, 101, 47, 110, 101, 117, 109, 101, 115, 47, 108, 97, 119, 115, 46, 70, 110, 69, 120, 97, 99, 116, 77, 101, 108, 111, 100, 121, 84, 101, 120, 116], [108, 111, 111, 112, 46, 101, 120, 97, 109, 112, 108, 101, 47, 110, 101, 117, 109, 101, 115, 47, 108, 97, 119, 115, 46, 70, 110, 69, 120, 97, 99, 116, 77, 101, 108, 111, 100, 121, 70, 114, 111, 109], [108, 111, 111, 112, 46, 101, 120, 97, 109, 112, 108, 101, 47, 110, 101, 117, 109, 101, 115, 47, 108, 97, 119, 115, 46, 70, 110, 77, 101, 108, 111, 100, 121, 77, 111, 118, 101, 79, 99, 116, 97, 118, 101]]
def ch (w : List Nat) : List Char := w.map Char.ofNat
theorem io_is : Tryd.prog.initOrder = String.ofList (ch io) := by kernel_rfl
theorem io_ws : wordsSigns (ch io) = ws.map ch := by kernel_rfl
theorem io_all : wordsSigns Tryd.prog.initOrder.toList = ws.map ch := by rw [io_is, String.toList_ofList, io_ws]
theorem be : behindMainWord (ws.map ch) = (ws.drop 2).map ch := by kernel_rfl
theorem io_be : behindMainWord (wordsSigns Tryd.prog.initOrder.toList) = (ws.drop 2).map ch := by rw [io_all, be]
theorem first : ∃ c r, (ws.drop 2).map ch = c :: r ∧ (c == "gc".toList || c == "spec".toList) = false ∧ (c == "carried".toList) = false := ⟨ch (ws.getD 2 []), (ws.drop 3).map ch, by kernel_rfl, by kernel_rfl, by kernel_rfl⟩
theorem st : stripLifts liftWords ((ws.drop 2).map ch) = ([], "cut".toList :: ((ws.drop 3).map ch)) := by kernel_rfl
theorem ll : ([].contains "finals" || !Tryd.prog.laysLater) = true := by kernel_rfl
theorem br : ([].contains "reflectrows" || !Tryd.prog.bearsReflect) = true := by kernel_rfl
theorem rr : ([].contains "reflectrows" || ![].contains "leanrows") = true := by kernel_rfl
theorem df : Tryd.prog.doorFits [] = true := by kernel_rfl
theorem mayE : Tryd.prog.mayEnter = true := mayEnter_of io_be first st ll br rr df
theorem finE : Tryd.prog.liftsFinal = [].contains "finals" := liftsFinal_of io_be first st
theorem mainE : Tryd.prog.mainIs = some (true, ch [98, 101, 49, 57, 49, 50, 55, 99, 99, 48, 99, 52, 52, 56, 99, 55, 56, 57, 99, 97, 98, 97, 54, 57, 98, 97, 102, 102, 51, 56, 56, 54, 56, 97, 49, 50, 102, 102, 52, 99, 54, 100, 98, 97, 50, 101, 54, 52, 99, 52, 55, 99, 49, 50, 53, 49, 98, 48, 49, 49, 55, 100, 52, 55]) := mainIs_of (rest := (ws.drop 2).map ch) (io_all.trans (by kernel_rfl)) (by kernel_rfl)
theorem makeE : Tryd.prog.make = some .cut := make_of (io_be.trans (by kernel_rfl : (ws.drop 2).map ch = "cut".toList :: ((ws.drop 3).map ch)))
end Go.Proofs.YtlinjleahnccgaaDoor.Head
end
section
namespace Go.Proofs.YtlinjleahnccgaaDoor.Pur
open Go
variable {H : Type} {enc : TypeId × Value → H}
theorem handed_shaped_and {a : Assume} {C : Checked} {os : Os} {f : FuncId} {fn : Func} {s : ChangeSpec} {conds : List PathCond} {apart fresh handsOn again : Bool} {X : World → Array Value → Prop}
    (hX : ∀ (w w' : World) (args : Array Value), w.heap = w'.heap → X w args → X w' args)
    (own : ownKnob C.prog.godebug = none) (started : os.Started) (noInit : C.prog.inits.idxOf? f = none) (hfn : C.prog.funcs[f]? = some fn)
    (witness : ∃ (w : World) (tape : Tape) (i : Input), w.os = os ∧ (w.forCall tape i).Shaped C.prog ∧ i.vars = [] ∧ Input.okWide C.prog (w.forCall tape i) .any w.heap.size f i ∧
      ((s.pre enc C.prog fn conds apart (w.forCall tape i).memory i.args ∧ X (w.forCall tape i).memory i.args) ∧ sizedMet enc C.prog fn (OpenSpec.ofChange s) apart (w.forCall tape i).memory i.args) ∧ a.holds C.prog (lone (Frame.enter C.prog f i.args .normal) [] (w.forCall tape i)))
    (contract : ∀ (W : World) (base : Nat) (args : Array Value) (ds gs : List (DataW H)) (before : List MemPlace),
      (∀ (j : Nat) t v, fn.params[j]? = some t → args[j]? = some v → Value.okWide C.prog W .any base t v) →
      DataW.Whole enc C.prog fn.params.toList s.vars apart W args.toList ds gs before →
      conds.all (PathCond.test C.prog ⟨fn.params.toList, ds, s.plain.varTypes C.prog, gs⟩) = true →
      (DataW.weightsEach C.prog (fn.params.toList ++ s.plain.varTypes C.prog) (ds ++ gs)).all (· ≤ reachBytes) = true → X W args → W.ShapedOpen C.prog →
      a.holds C.prog (lone (Frame.enter C.prog f args .normal) [] W) →
      Calls C.prog f args W fun e W' => ∃ v, e = .returned v ∧ s.post enc C.prog fn apart fresh handsOn again W args v W') :
    ReturnsInHanded a C os f .any (fun w args => (s.pre enc C.prog fn conds apart w args ∧ X w args) ∧ sizedMet enc C.prog fn (OpenSpec.ofChange s) apart w args) (s.post enc C.prog fn apart fresh handsOn again) := by
  refine returnsInHanded_of_calls own started noInit witness ?_
  intro w tape i _ hsh _ hok hpre hholds
  obtain ⟨_, _, _, fn', hfn', _, _, _, _, hval⟩ := hok
  have e : fn' = fn := Option.some.inj (hfn'.symm.trans hfn)
  subst e
  obtain ⟨⟨⟨ds, gs, before, hw, hc⟩, hx⟩, hz⟩ := hpre
  have hw' := DataW.Whole.of_heap (w' := w.forCall tape i) (by rfl) hw
  refine (contract (w.forCall tape i) w.heap.size i.args ds gs before hval hw' hc (hz.weights hw) (hX _ _ _ (by rfl) hx) hsh hholds).mono fun e W' ⟨v, he, hp⟩ => ?_
  subst he
  exact ChangeSpec.post_blind hp
end Go.Proofs.YtlinjleahnccgaaDoor.Pur
end
section
namespace Go.Proofs.YtlinjleahnccgaaDoor.Pur
open Go.Proofs.YtlinjleahnccgaaDoor.E Go Go.RowKit
theorem laid_mem {P : Program} {W : World} {n : String} {d : DataW Unit} : ∀ {l : List (String × DataW Unit)} {ps : List MemPlace}, DataW.LaidVars P W l ps → (n, d) ∈ l →
    ∃ g t cs fuel p, P.globalNamed n = some g ∧ (P.globals[g]?).map (·.type) = some t ∧ W.var? P n = some cs ∧ DataW.trod (fun _ => ()) P W 0 (fun _ => true) false fuel t cs.toList = some (d, p)
  | [], _, _, h => by cases h
  | (n', d') :: r, ps, ⟨g, t, cs, fuel, p, q, h1, h2, h3, h4, h5, _⟩, h => by
    rcases List.mem_cons.mp h with e | e
    · cases e
      exact ⟨g, t, cs, fuel, p, h1, h2, h3, h4⟩
    · exact laid_mem h5 e
theorem vars_cons {H : Type} {enc : TypeId × Value → H} {P : Program} {w : World} {sp : Nat → Bool} {n : String} {ns : List String} {gs : List (DataW H)} {ps : List MemPlace} (h : DataW.TrodVars enc P w sp (n :: ns) gs ps) : ∃ g gs' q, gs = g :: gs' ∧ DataW.TrodVars enc P w sp ns gs' q := by
  cases gs with
  | nil => exact h.elim
  | cons g r =>
    obtain ⟨_, _, _, _, _, q, _, _, _, _, hs, _⟩ := h
    exact ⟨g, r, q, rfl, hs⟩
theorem vars_nil {H : Type} {enc : TypeId × Value → H} {P : Program} {w : World} {sp : Nat → Bool} {gs : List (DataW H)} {ps : List MemPlace} (h : DataW.TrodVars enc P w sp [] gs ps) : gs = [] := by
  cases gs with
  | nil => rfl
  | cons _ _ => exact h.elim
theorem laid_vars {P : Program} {l : List (String × DataW Unit)} {W : World} (h : laidMetH P l W) (hp : (l.all fun x => x.2.handleName?.isNone) = true) : ∃ ps, DataW.LaidVars P W l ps := by
  rw [MakeChecks.laidMetH_plain _ _ _ hp] at h
  obtain ⟨ps, h, _⟩ := h
  exact ⟨ps, h⟩
theorem ba_of_list {s : ByteArray} {l : List UInt8} (h : s.data.toList = l) : s = ⟨l.toArray⟩ := by
  obtain ⟨⟨d⟩⟩ := s
  subst h
  rfl
def names7 : Array Value := #[.string ⟨#[71]⟩, .string ⟨#[65]⟩, .string ⟨#[66]⟩, .string ⟨#[67]⟩, .string ⟨#[68]⟩, .string ⟨#[69]⟩, .string ⟨#[70]⟩]
theorem cells_s : Tryd.prog.cellsOf 9 = 1 := by kernel_rfl
theorem cells_n7 : Tryd.prog.cellsOf 78 = 7 := by kernel_rfl
theorem seven {l : List Value} (h : l.length = 7) : ∃ c0 c1 c2 c3 c4 c5 c6, l = [c0, c1, c2, c3, c4, c5, c6] := by
  match l, h with
  | [a, b, c, d, e, f, g], _ => exact ⟨a, b, c, d, e, f, g, rfl⟩
theorem names_cells {W : World} {l : List (String × DataW Unit)} {ps : List MemPlace} (h : DataW.LaidVars Tryd.prog W l ps) (hm : ("loop.example/neumes/impl.letterNames", Rows.laid_loop_example_neumes_impl_letterNames) ∈ l) :
    W.var? Tryd.prog "loop.example/neumes/impl.letterNames" = some names7 := by
  obtain ⟨g, t, cs, fuel, p, hg, ht, hvar, hd⟩ := laid_mem h hm
  obtain rfl := Option.some.inj ((show Tryd.prog.globalNamed "loop.example/neumes/impl.letterNames" = some 0 by kernel_rfl).symm.trans hg)
  obtain rfl := Option.some.inj ((show (Tryd.prog.globals[0]?).map (·.type) = some 78 by kernel_rfl).symm.trans ht)
  rw [hvar]
  congr 1
  obtain ⟨l⟩ := cs
  cases fuel with
  | zero => simp [DataW.trod] at hd
  | succ fuel =>
    simp only [DataW.trod, Tryd.underlying78, cells_n7, cells_s] at hd
    split at hd
    · rename_i hl
      obtain ⟨c0, c1, c2, c3, c4, c5, c6, rfl⟩ := seven hl
      have e : List.range 7 = [0, 1, 2, 3, 4, 5, 6] := rfl
      rw [e] at hd
      simp only [Option.map_eq_some_iff, List.mapM_cons, List.mapM_nil, Option.bind_eq_bind, Option.bind_eq_some_iff, Option.pure_def, Option.some.injEq] at hd
      obtain ⟨xs, ⟨y0, h0, _, ⟨y1, h1, _, ⟨y2, h2, _, ⟨y3, h3, _, ⟨y4, h4, _, ⟨y5, h5, _, ⟨y6, h6, _, rfl, rfl⟩, rfl⟩, rfl⟩, rfl⟩, rfl⟩, rfl⟩, rfl⟩, hx⟩ := hd
      obtain ⟨n0, e0, rfl, _⟩ := DataW.trod_string Tryd.underlying9 h0
      obtain ⟨n1, e1, rfl, _⟩ := DataW.trod_string Tryd.underlying9 h1
      obtain ⟨n2, e2, rfl, _⟩ := DataW.trod_string Tryd.underlying9 h2
      obtain ⟨n3, e3, rfl, _⟩ := DataW.trod_string Tryd.underlying9 h3
      obtain ⟨n4, e4, rfl, _⟩ := DataW.trod_string Tryd.underlying9 h4
      obtain ⟨n5, e5, rfl, _⟩ := DataW.trod_string Tryd.underlying9 h5
      obtain ⟨n6, e6, rfl, _⟩ := DataW.trod_string Tryd.underlying9 h6
      simp at e0 e1 e2 e3 e4 e5 e6
      subst e0 e1 e2 e3 e4 e5 e6
      simp [Rows.laid_loop_example_neumes_impl_letterNames] at hx
      obtain ⟨⟨e0, e1, e2, e3, e4, e5, e6⟩, _⟩ := hx
      rw [ba_of_list e0, ba_of_list e1, ba_of_list e2, ba_of_list e3, ba_of_list e4, ba_of_list e5, ba_of_list e6]
      rfl
    · cases hd
theorem gok_names {W : World} {l : List (String × DataW Unit)} (h : laidMetH Tryd.prog l W) (hp : (l.all fun x => x.2.handleName?.isNone) = true) (hm : ("loop.example/neumes/impl.letterNames", Rows.laid_loop_example_neumes_impl_letterNames) ∈ l) : GOk [0] W := by
  obtain ⟨ps, hv⟩ := laid_vars h hp
  intro n hn
  obtain rfl := List.mem_singleton.mp hn
  intro i hi
  rw [var?_cell (show Tryd.prog.globalNamed "loop.example/neumes/impl.letterNames" = some 0 by kernel_rfl) (names_cells hv hm)]
  match i, hi with
  | 0, _ => rfl
  | 1, _ => rfl
  | 2, _ => rfl
  | 3, _ => rfl
  | 4, _ => rfl
  | 5, _ => rfl
  | 6, _ => rfl
  | _ + 7, hi => exact absurd hi (by omega)
def heights7 : Array Value := #[.int .i64 0, .int .i64 2, .int .i64 4, .int .i64 5, .int .i64 7, .int .i64 9, .int .i64 10]
theorem gok_maxlen {W : World} (h : W.ShapedOpen Tryd.prog) : GOk [2] W := by
  intro n hn
  obtain rfl := List.mem_singleton.mp hn
  exact Go.Proofs.cell_of_shapedOpen_int (zero := #[.int .i64 0]) (t := 3) h (of_decide_eq_true (by kernel_rfl)) (by kernel_rfl) rfl (by kernel_rfl) (by kernel_rfl) Tryd.underlying3
theorem gok_and {S T : List Nat} {W : World} (h : GOk S W) (k : GOk T W) : GOk (S ++ T) W := by
  intro n hn
  rcases List.mem_append.mp hn with e | e
  · exact h n e
  · exact k n e
end Go.Proofs.YtlinjleahnccgaaDoor.Pur
end
section
namespace Go.Proofs.YtlinjleahnccgaaDoor.fnExactMelodyFrom
open Go.ChangeShapes Go.WideShapes Go.ChangeAt Go.RowKit
open Go.ChangeMaps (open_string shut_string)
set_option linter.unusedVariables false
theorem own : ownKnob Tryd.prog.godebug = none := by kernel_rfl
theorem laidOut : laidOutB Tryd.prog = true := by kernel_rfl
set_option maxRecDepth 100000 in
theorem lifted (os : Os) (started : os.Started) (H : Type) (enc : TypeId × Value → H) :
    ReturnsInHanded {} Tryd.checked os 9 .any (fun w args => (Rows.fnExactMelodyFromSpec.pre enc Tryd.prog Tryd.f9 Rows.fnExactMelodyFromRow.domain false w args ∧ laidMetH Tryd.prog Rows.fnExactMelodyFromRow.laid w) ∧ sizedMet enc Tryd.prog Tryd.f9 (OpenSpec.ofChange Rows.fnExactMelodyFromSpec) false w args) (Rows.fnExactMelodyFromSpec.post enc Tryd.prog Tryd.f9 false true false false) := by
  refine Pur.handed_shaped_and (C := Tryd.checked) (X := fun w _ => laidMetH Tryd.prog Rows.fnExactMelodyFromRow.laid w) (fun _ _ _ hh h => h.of_heap hh) own started (by kernel_rfl) Tryd.func9
    (ChangeSpec.witness_shaped (enc := enc) (C := Tryd.checked) (os := os) (X := fun w _ => laidMetH Tryd.prog Rows.fnExactMelodyFromRow.laid w) false (World.laidAll Tryd.prog os Rows.fnExactMelodyFromRow.laid) #[.string ByteArray.empty] 8 (World.laidAll_os _ _ _) (World.shaped_of_ZipB (by kernel_rfl) (by kernel_rfl)) (by kernel_rfl) (by kernel_rfl) (by kernel_rfl) (by rw [MakeChecks.laidMetH_plain _ _ _ (by kernel_rfl)]; exact laidMet_laidAll _ (by kernel_rfl) (by kernel_rfl))) ?_
  intro W base args ds gs before hval0 hW hcnd hsz0 hL hSh _
  have hsz : (DataW.weightsEach Tryd.prog (Tryd.f9.params.toList ++ Rows.fnExactMelodyFromSpec.plain.varTypes Tryd.prog) (ds ++ gs)).all (· ≤ reachBytes) = true := hsz0
  have hval : ∀ (j : Nat) t v, Tryd.f9.params[j]? = some t → args[j]? = some v → Value.okWide Tryd.prog W .any base t v := hval0
  have hW' := hW
  obtain ⟨p, q, hA0, hV, rfl, hfz, hnd⟩ := hW
  have hA : DataW.TrodAll enc Tryd.prog W 0 (fun _ => true) true Tryd.f9.params.toList args.toList ds p := hA0
  rw [Tryd.params9] at hA hval hsz
  obtain ⟨v0, vs0, d0, ds0, p0, q0, hargs, rfl, rfl, h0, r0⟩ := trodAll_cons hA
  obtain ⟨rfl, rfl, rfl⟩ := trodAll_nil r0
  obtain rfl : args = #[v0] := by cases args; simp_all
  obtain ⟨g0, gs0, vq0, rfl, hV0⟩ := Pur.vars_cons hV
  obtain rfl := Pur.vars_nil hV0
  have k0 := h0
  have lt0 : ∀ x ∈ p0, x.block < W.heap.size := by obtain ⟨m, hm⟩ := k0; exact DataW.trod_lt m _ _ _ hm
  obtain ⟨a0, rfl, rfl, rfl, y0⟩ := open_string Tryd.underlying9 (hval 0 9 v0 rfl rfl) h0
  have w0 : a0.size ≤ 140737488351232 := by
    have z := sized_string hsz (j := 0) (t := 9) rfl rfl
    rw [Array.length_toList] at z
    exact z
  clear hA0 hval0 hsz0 hsz
  obtain ⟨k, hk⟩ := Pur.exact_mfrom a0 w0
  refine (E.laws_FnExactMelodyFrom.calls k a0 true W  (Pur.gok_and (Pur.gok_names hL (by kernel_rfl) (by first | exact .head _ | exact .tail _ (.head _) | exact .tail _ (.tail _ (.head _)) | exact .tail _ (.tail _ (.tail _ (.head _))) | exact .tail _ (.tail _ (.tail _ (.tail _ (.head _)))) | exact .tail _ (.tail _ (.tail _ (.tail _ (.tail _ (.head _))))) | exact .tail _ (.tail _ (.tail _ (.tail _ (.tail _ (.tail _ (.head _)))))) | exact .tail _ (.tail _ (.tail _ (.tail _ (.tail _ (.tail _ (.tail _ (.head _))))))))) (Pur.gok_maxlen hSh)) hk).mono fun e W' ⟨he, bel⟩ => ?_
  subst he
  exact ⟨_, rfl, _, _, _, [], _, _, hW', trodAll_mk1 (shut_bool Tryd.underlying4 _), (trodAll_cons_mk (shut_string Tryd.underlying9 y0) trodAll_mk0), (Below.trodVars laidOut bel (by kernel_rfl) hV), bel.frame _, fun h => by cases h⟩
set_option maxRecDepth 100000 in
theorem closed : joinedFacts Tryd.prog 9 Tryd.f9 Rows.fnExactMelodyFromSpec Rows.fnExactMelodyFromRow = true := by
  have hf : (Rows.fnExactMelodyFromRow.lifted == Tryd.prog.liftsFinal) = true := by rw [Head.finE]; kernel_rfl
  have hm : (Tryd.prog.make == some Rows.fnExactMelodyFromRow.make) = true := by rw [Head.makeE]; kernel_rfl
  unfold joinedFacts
  repeat' (with_reducible refine Head.and_t ?_ ?_)
  all_goals first | with_reducible exact Head.mayE | with_reducible exact hf | with_reducible exact hm | (as_aux_lemma => kernel_rfl)
theorem over : Rows.fnExactMelodyFromRow.holds Tryd.pinned (OpenSpec.ofChange Rows.fnExactMelodyFromSpec) :=
  OpenClaim.holds_of_wide 9 Tryd.f9 rfl rfl rfl rfl rfl rfl rfl ⟨rfl, rfl, rfl, rfl, rfl⟩ rfl rfl rfl rfl rfl (by kernel_rfl) Tryd.func9 closed
    (of_decide_eq_true (by kernel_rfl)) (by unfold Func.isWrapper; first | (rw [if_pos (by decide +kernel)]; kernel_rfl) | (rw [if_neg (by decide +kernel)]; exact ⟨rfl, rfl⟩))
    (fun os started H enc _ => lifted os started H enc)
theorem card_ : Rows.FnExactMelodyFromCardSaid :=
  Claim7.holds_tied_plain_at .later [] [.data, .data, .data, .data, .data, .pinned] true (true, "be19127cc0c448c789caba69baff38868a12ff4c6dba2e64c47c1251b0117d47") false
    over (fun _ h => by cases h) (by as_aux_lemma => kernel_rfl) (fun _ h => by cases h) fnExactMelodyFrom_row_tie rfl ⟨rfl, rfl⟩ (Head.mainE.trans (by as_aux_lemma => kernel_rfl)) rfl
    (fun f fn hf hfn => by
      obtain rfl : f = 9 := Option.some.inj ((show Tryd.prog.funcNamed "loop.example/neumes/laws.FnExactMelodyFrom" = some 9 by kernel_rfl).symm.trans hf) |>.symm
      obtain rfl : fn = Tryd.f9 := (Option.some.inj (Tryd.func9.symm.trans hfn)).symm
      exact ⟨by kernel_rfl, fun j t ht => by
        rw [Tryd.params9] at ht
        have hm : t ∈ [9] := by simpa using Array.mem_of_getElem? ht
        have hall : ([9].all fun u => !Tryd.prog.wantsStandIn u) = true := by kernel_rfl
        exact (show Tryd.prog.wantsStandIn t = false by simpa using List.all_eq_true.1 hall t hm)⟩)
    (by kernel_rfl)
theorem proved : Rows.FnExactMelodyFromCardSaid := card_
#print axioms proved
end Go.Proofs.YtlinjleahnccgaaDoor.fnExactMelodyFrom
namespace Go.Proofs.YtlinjleahnccgaaDoor
theorem fnExactMelodyFrom_holds : Rows.FnExactMelodyFromCardSaid := fnExactMelodyFrom.proved
end Go.Proofs.YtlinjleahnccgaaDoor
end
