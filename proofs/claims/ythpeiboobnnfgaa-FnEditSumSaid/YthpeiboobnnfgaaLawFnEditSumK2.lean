/- Texts of this claim, joined by a program of this session's (wip/tools/pack.py). -/
import Derived.Test.YthpeiboobnnfgaaLawFnEditSumK1
section
namespace Go.Proofs.Ythpeiboobnnfgaa.E
open Go.RowKit Go.Proofs.YthpeiboobnnfgaaW.PrintWords Go.Proofs.YthpeiboobnnfgaaW.PrintLast Go.Proofs.YthpeiboobnnfgaaW.PrintMore
attribute [local go_sem] max2_int min2_int max_two min_two max_three min_three max_four min_four
set_option linter.unusedVariables false
set_option linter.unusedSimpArgs false
attribute [local go_sem] en63_mk1 en63_mk2 en63_mk3 en63_mk4
attribute [local go_sem] str_leq_ str_gtr_ str_geq_
mutual
def impl_leastSums_lessKept.l0 : Nat → List (S36) → List (S36) → List (List Int) → Int → Option ((List (List Int)))
 | 0, _, _, _, _ => none
 | k + 1, x0, x1, x7, x8 => if x8 ≥ 0 then (if 0 ≤ (wrap64 ((x1.length : Int) + 1)) then (if (wrap64 ((x1.length : Int) + 1) : Int).toNat ≤ 35184372088832 then (if 0 ≤ x8 then (if x8 < (x7.length : Int) then (impl_leastSums_lessKept.l1 k x0 x1 (x7.set (x8 : Int).toNat (List.replicate (wrap64 ((x1.length : Int) + 1) : Int).toNat 0)) x8 (x1.length : Int)) else (none)) else (none)) else (none)) else (none)) else (some x7)
def impl_leastSums_lessKept.l1 : Nat → List (S36) → List (S36) → List (List Int) → Int → Int → Option ((List (List Int)))
 | 0, _, _, _, _, _ => none
 | k + 1, x0, x1, x7, x8, x9 => if x9 ≥ 0 then ((impl_allEdits.f).bind fun t286 => (impl_leastSums_lessKept.l2 k x0 x1 x7 x8 x9 false t286 (t286.length : Int) 0)) else (impl_leastSums_lessKept.l0 k x0 x1 x7 (wrap64 (x8 - 1)))
def impl_leastSums_lessKept.l2 : Nat → List (S36) → List (S36) → List (List Int) → Int → Int → Bool → List Int → Int → Int → Option ((List (List Int)))
 | 0, _, _, _, _, _, _, _, _, _ => none
 | k + 1, x0, x1, x7, x8, x9, x10, x39, x40, x41 => if x41 < x40 then (if 0 ≤ x41 then (if x41 < (x39.length : Int) then (if 0 ≤ x8 then (if x8 ≤ (x0.length : Int) then (if 0 ≤ x9 then (if x9 ≤ (x1.length : Int) then ((impl_useOf.f k (rd x39 x41) (x0.drop (x8 : Int).toNat) (x1.drop (x9 : Int).toNat)).bind fun bt298 => (if bt298.2.2.2 = true then ((impl_lessKept.f (rd x39 x41) bt298.1 bt298.2.1 bt298.2.2.1).bind fun t303 => (if 0 ≤ (wrap64 (x8 + bt298.1)) then (if (wrap64 (x8 + bt298.1)) < (x7.length : Int) then (if 0 ≤ (wrap64 (x9 + bt298.2.1)) then (if (wrap64 (x9 + bt298.2.1)) < ((rd_L4 x7 (wrap64 (x8 + bt298.1))).length : Int) then (if x10 = true then (if x8 < (x7.length : Int) then (if x9 < ((rd_L4 x7 x8).length : Int) then (if (wrap64 (t303 + (rd (rd_L4 x7 (wrap64 (x8 + bt298.1))) (wrap64 (x9 + bt298.2.1))))) < (rd (rd_L4 x7 x8) x9) then (impl_leastSums_lessKept.l2 k x0 x1 (x7.set (x8 : Int).toNat ((rd_L4 x7 x8).set (x9 : Int).toNat (wrap64 (t303 + (rd (rd_L4 x7 (wrap64 (x8 + bt298.1))) (wrap64 (x9 + bt298.2.1))))))) x8 x9 true x39 x40 (wrap64 (x41 + 1))) else (impl_leastSums_lessKept.l2 k x0 x1 x7 x8 x9 x10 x39 x40 (wrap64 (x41 + 1)))) else (none)) else (none)) else (if x8 < (x7.length : Int) then (if x9 < ((rd_L4 x7 x8).length : Int) then (impl_leastSums_lessKept.l2 k x0 x1 (x7.set (x8 : Int).toNat ((rd_L4 x7 x8).set (x9 : Int).toNat (wrap64 (t303 + (rd (rd_L4 x7 (wrap64 (x8 + bt298.1))) (wrap64 (x9 + bt298.2.1))))))) x8 x9 true x39 x40 (wrap64 (x41 + 1))) else (none)) else (none))) else (none)) else (none)) else (none)) else (none))) else (impl_leastSums_lessKept.l2 k x0 x1 x7 x8 x9 x10 x39 x40 (wrap64 (x41 + 1))))) else (none)) else (none)) else (none)) else (none)) else (none)) else (none)) else (impl_leastSums_lessKept.l1 k x0 x1 x7 x8 (wrap64 (x9 - 1)))
end
def impl_leastSums_lessKept.f (k : Nat) (l0 : List (S36)) (l1 : List (S36))  : Option ((List (List Int))) := if 0 ≤ (wrap64 ((l0.length : Int) + 1)) then (if (wrap64 ((l0.length : Int) + 1) : Int).toNat ≤ 11728124029610 then (impl_leastSums_lessKept.l0 k l0 l1 (List.replicate (wrap64 ((l0.length : Int) + 1) : Int).toNat []) (l0.length : Int)) else (none)) else (none)
def impl_leastSums_lessKept.T13 : Bool × List (List Nat × List Nat) := (true, [([], []), ([], []), ([], []), ([1, 2], [1, 2]), ([], []), ([], []), ([4, 5], [4, 5]), ([0, 3, 6], [0, 3, 6]), ([7], [7]), ([8], [8]), ([8], [8]), ([], []), ([11, 9, 7, 0, 1, 2, 3, 4, 5, 6, 7, 8, 9, 11], [9, 11]), ([10, 12, 0, 1, 2, 3, 4, 5, 6, 7, 8, 9, 10, 11, 12], [10])])
def impl_leastSums_lessKept.B13 : List Nat := [0, 0, 0, 6, 0, 0, 48, 127, 255, 511, 511, 0, 3071, 8191]
theorem impl_leastSums_lessKept.tab13 : rtab .any (opsOf Try.f35 13) = impl_leastSums_lessKept.T13 := by kernel_rfl
theorem impl_leastSums_lessKept.bits13 : waitsOk impl_leastSums_lessKept.T13.2 impl_leastSums_lessKept.B13 = true := by kernel_rfl
def impl_leastSums_lessKept.T15 : Bool × List (List Nat × List Nat) := (true, [([], []), ([], []), ([], []), ([0, 1, 2], [0, 1, 2]), ([], []), ([], []), ([], []), ([6], [6]), ([5, 7], [5, 7]), ([4, 8], [4, 8]), ([9], [9]), ([], []), ([], []), ([12], [12]), ([11, 13], [11, 13]), ([10, 14], [10, 14]), ([15], [15]), ([3, 16], [3, 16]), ([17, 3, 0, 1, 2, 3, 4, 5, 6, 7, 8, 9, 10, 11, 12, 13, 14, 15, 16, 17], [17])])
def impl_leastSums_lessKept.B15 : List Nat := [0, 0, 0, 7, 0, 0, 0, 64, 224, 496, 1008, 0, 0, 4096, 14336, 32752, 65520, 131071, 262143]
theorem impl_leastSums_lessKept.tab15 : rtab .any (opsOf Try.f35 15) = impl_leastSums_lessKept.T15 := by kernel_rfl
theorem impl_leastSums_lessKept.bits15 : waitsOk impl_leastSums_lessKept.T15.2 impl_leastSums_lessKept.B15 = true := by kernel_rfl
set_option maxHeartbeats 8000000 in
set_option maxRecDepth 100000 in
theorem impl_leastSums_lessKept.calls (k : Nat) (A0 : Option Addr) (c0 : Nat) (l0 : List (S36)) (A1 : Option Addr) (c1 : Nat) (l1 : List (S36))  (r : List (List Int)) (w : World) (hr0 : Kd.C k36 w A0 l0.length l0) (hc0 : l0.length ≤ c0) (hr1 : Kd.C k36 w A1 l1.length l1) (hc1 : l1.length ≤ c1) (h : impl_leastSums_lessKept.f k l0 l1 = some r) :
  Calls Try.prog 35 #[.slice A0 l0.length c0, .slice A1 l1.length c1, .func (.func 36) #[] #[]] w fun e w' => ∃ v0_ : Value, e = .returned (v0_) ∧ Kd.S (Kd.slice 3 (Kd.int .i64)) 46 w' w.heap.size (fun _ => True) v0_ r ∧ Below w.heap.size w w' := by
 have hu65 := Try.underlying65
 have HR0 := Aside0.mk hr0
 have HC0 := Aside0.mk hc0
 clear hr0 hc0
 have HR1 := Aside0.mk hr1
 have HC1 := Aside0.mk hc1
 clear hr1 hc1
 have HB := Q0_ (Below.refl w.heap.size w)
 have H : (if 0 ≤ (wrap64 ((l0.length : Int) + 1)) then (if (wrap64 ((l0.length : Int) + 1) : Int).toNat ≤ 11728124029610 then (impl_leastSums_lessKept.l0 k l0 l1 (List.replicate (wrap64 ((l0.length : Int) + 1) : Int).toNat []) (l0.length : Int)) else (none)) else (none)) = some r := h
 clear h
 obtain ⟨ji4, hji4⟩ : ∃ j_ : Int, (wrap64 ((l0.length : Int) + 1)) = j_ := ⟨_, rfl⟩
 replace H : (if 0 ≤ (ji4) then (if (ji4 : Int).toNat ≤ 11728124029610 then (impl_leastSums_lessKept.l0 k l0 l1 (List.replicate (ji4 : Int).toNat []) (l0.length : Int)) else (none)) else (none)) = some r := by first | (rw [hji4] at H; exact H) | (simp only [hji4] at H ⊢; exact H)
 have hji4w : (IntKind.i64.wrap ((l0.length : Int) + 1)) = ji4 := (i64_w _).trans hji4
 by_cases c5 : 0 ≤ (ji4)
 rotate_left
 ·rw [if_neg c5] at H
  exact absurd H (by simp)
 rw [if_pos c5] at H
 have c5b0 := eq_true c5
 have c5b1 : decide (0 ≤ (ji4)) = true := decide_eq_true c5
 clear c5
 by_cases c6 : (ji4 : Int).toNat ≤ 11728124029610
 rotate_left
 ·rw [if_neg c6] at H
  exact absurd H (by simp)
 rw [if_pos c6] at H
 have c6b0 := eq_true c6
 have c6b1 : decide ((ji4 : Int).toNat ≤ 11728124029610) = true := decide_eq_true c6
 clear c6
 obtain ⟨y279, hy279⟩ : ∃ y_ : List (List Int), y_ = (List.replicate (ji4 : Int).toNat []) := ⟨_, rfl⟩
 replace H : (impl_leastSums_lessKept.l0 k l0 l1 y279 (l0.length : Int)) = some r := by first | (rw [hy279]; with_reducible exact H) | (have H2_ := (Option.bind_some _ _).symm.trans H; rw [hy279]; with_reducible exact H2_) | (have H2_ := (Option.bind_some _ _).symm.trans H; with_reducible exact H2_) | with_reducible exact H | (rw [hy279]; exact H) | exact H
 have Ny279 := Aside0.mk hy279
 clear hy279
 have H' := Aside0.mk H
 clear H
 go_enter Try.func35, Try.ntmps35
 go_wp2_with (first | ((with_reducible refine gate_dst (N := 19) rfl ?_); refine Kd.S_make (Kd.slice 3 (Kd.int .i64)) _ 46 rfl (N := 19) rfl 49 _ _ rfl ji4 rfl rfl Try.underlying49 (.slice none 0 0) 24 info46 rfl (by decide) (by omega) [] (ok := fun _ => True) (okp := fun _ => True) ⟨_, rfl, Kd.R_nil _ _ _ _ _⟩ (fun _ hk => hk) trivial (of_decide_eq_true aS) (Nat.le_trans (Nat.mul_le_mul_right _ (of_decide_eq_true aS : ji4.toNat ≤ 11728124029610)) (by omega)) (Below.refl _ _) (Nat.le_refl _) ?_; intro v280 w7 ho8 hb hg_ hnew_; clear hg_ hnew_; (first | rw [← Ny279.out] at ho8 | (simp only [Int.reduceToNat] at ho8; rw [← Ny279.out] at ho8)); have n0_ := Q0_ (Kd.S_lower ho8 (below_size (upB HB))); have n1_ := Q0_ (below_step (upB HB) hb); clear HB; revert n0_ n1_; intro HO281 HB; clear hb ho8))
 go_loopg [8] k (fun kq v8 w' => ∃ (x7_1 : List (List Int)) (x8_1 : Int), v8 = .int .i64 x8_1 ∧ Aside0 (impl_leastSums_lessKept.l0 kq l0 l1 x7_1 x8_1 = some r) ∧ Aside0 (kq ≤ k) ∧ Aside0 (Kd.S (Kd.slice 3 (Kd.int .i64)) 46 w' w.heap.size (fun _ => True) v280 x7_1) ∧ Aside0 (Below w.heap.size w w'))
 case atStart => exact ⟨(y279), ((l0.length : Int)), eX, H', ⟨Nat.le_refl _⟩, ⟨by (with_reducible repeat (first | apply Kd.S_alloc | apply Kd.S_drewN | apply Kd.S_drew)); exact HO281.out⟩, ⟨by repeat (first | (with_reducible first | exact HB.out | apply below_alloc | apply pw_below_drewN | apply below_drew1) | exact HB.out)⟩⟩
 case round =>
  clear H'
  try clear c1
  try clear p2
  try clear c5
  try clear c5b0
  try clear c5b1
  try clear c6
  try clear c6b0
  try clear c6b1
  try clear p6
  obtain ⟨x7_1, x8_1, rfl, HA, HK1, HO_7, HB⟩ := hrel
  cases gk with
  | zero => exact absurd HA.out (by simp [impl_leastSums_lessKept.l0])
  | succ k1 =>
   have H := HA.out
   clear HA
   simp only [impl_leastSums_lessKept.l0] at H
   by_cases c9 : x8_1 ≥ 0
   rotate_left
   ·rw [if_neg c9] at H
    have c9b0 : decide (0 ≤ x8_1) = false := decide_eq_false c9
    clear c9
    obtain rfl := Option.some.inj H
    go_wp2
    go_ret
    exact ⟨_, by first | rfl | (simp [errW_none, errW_some] <;> rfl) | (simp only [← hji4]; first | rfl | (simp [errW_none, errW_some] <;> rfl)) | (simp [*, errW_none, errW_some] <;> rfl), by (with_reducible repeat (first | apply Kd.S_alloc | apply Kd.S_drewN | apply Kd.S_drew)); exact HO_7.out, by repeat (first | (with_reducible first | exact HB.out | apply below_alloc | apply pw_below_drewN | apply below_drew1) | exact HB.out)⟩
   rw [if_pos c9] at H
   have c9b0 : decide (0 ≤ x8_1) = true := decide_eq_true c9
   clear c9
   obtain ⟨ji10, hji10⟩ : ∃ j_ : Int, (wrap64 ((l1.length : Int) + 1)) = j_ := ⟨_, rfl⟩
   replace H : (if 0 ≤ (ji10) then (if (ji10 : Int).toNat ≤ 35184372088832 then (if 0 ≤ x8_1 then (if x8_1 < (x7_1.length : Int) then (impl_leastSums_lessKept.l1 k1 l0 l1 (x7_1.set (x8_1 : Int).toNat (List.replicate (ji10 : Int).toNat 0)) x8_1 (l1.length : Int)) else (none)) else (none)) else (none)) else (none)) = some r := by first | (rw [hji10] at H; exact H) | (simp only [hji10] at H ⊢; exact H)
   have hji10w : (IntKind.i64.wrap ((l1.length : Int) + 1)) = ji10 := (i64_w _).trans hji10
   by_cases c11 : 0 ≤ (ji10)
   rotate_left
   ·rw [if_neg c11] at H
    exact absurd H (by simp)
   rw [if_pos c11] at H
   have c11b0 := eq_true c11
   have c11b1 : decide (0 ≤ (ji10)) = true := decide_eq_true c11
   clear c11
   by_cases c12 : (ji10 : Int).toNat ≤ 35184372088832
   rotate_left
   ·rw [if_neg c12] at H
    exact absurd H (by simp)
   rw [if_pos c12] at H
   have c12b0 := eq_true c12
   have c12b1 : decide ((ji10 : Int).toNat ≤ 35184372088832) = true := decide_eq_true c12
   clear c12
   obtain ⟨y282, hy282⟩ : ∃ y_ : List Int, y_ = (List.replicate (ji10 : Int).toNat 0) := ⟨_, rfl⟩
   replace H : (if 0 ≤ x8_1 then (if x8_1 < (x7_1.length : Int) then (impl_leastSums_lessKept.l1 k1 l0 l1 (x7_1.set (x8_1 : Int).toNat y282) x8_1 (l1.length : Int)) else (none)) else (none)) = some r := by first | (rw [hy282]; with_reducible exact H) | (have H2_ := (Option.bind_some _ _).symm.trans H; rw [hy282]; with_reducible exact H2_) | (have H2_ := (Option.bind_some _ _).symm.trans H; with_reducible exact H2_) | with_reducible exact H | (rw [hy282]; exact H) | exact H
   have Ny282 := Aside0.mk hy282
   clear hy282
   by_cases c13 : 0 ≤ x8_1
   rotate_left
   ·rw [if_neg c13] at H
    exact absurd H (by simp)
   rw [if_pos c13] at H
   have c13b0 : decide (0 ≤ x8_1) = true := decide_eq_true c13
   clear c13
   by_cases c14 : x8_1 < (x7_1.length : Int)
   rotate_left
   ·rw [if_neg c14] at H
    exact absurd H (by simp)
   rw [if_pos c14] at H
   have c14b0 : decide (x8_1 < (x7_1.length : Int)) = true := decide_eq_true c14
   clear c14
   obtain ⟨y285, hy285⟩ : ∃ y_ : List (List Int), y_ = (x7_1.set (x8_1 : Int).toNat y282) := ⟨_, rfl⟩
   replace H : (impl_leastSums_lessKept.l1 k1 l0 l1 y285 x8_1 (l1.length : Int)) = some r := by first | (rw [hy285]; with_reducible exact H) | (have H2_ := (Option.bind_some _ _).symm.trans H; rw [hy285]; with_reducible exact H2_) | (have H2_ := (Option.bind_some _ _).symm.trans H; with_reducible exact H2_) | with_reducible exact H | (rw [hy285]; exact H) | exact H
   have Ny285 := Aside0.mk hy285
   clear hy285
   have H' := Aside0.mk H
   clear H
   go_wp2_with (first | ((with_reducible refine gate_dst (N := 31) rfl ?_); refine Kd.R_make (Kd.int .i64) _ 3 rfl (N := 31) rfl 46 _ _ rfl ji10 rfl rfl Try.underlying46 (.int .i64 0) 8 info3 rfl (by decide) (by omega) 0 (ok := fun _ => True) (okp := fun _ => True) rfl (fun _ hk => hk) trivial (of_decide_eq_true aS) (Nat.le_trans (Nat.mul_le_mul_right _ (of_decide_eq_true aS : ji10.toNat ≤ 35184372088832)) (by omega)) (Below.refl _ _) (Nat.le_refl _) ?_; intro v283 w16 ho17 hb hg_ hnew_; clear hg_ hnew_; (first | rw [← Ny282.out] at ho17 | (simp only [Int.reduceToNat] at ho17; rw [← Ny282.out] at ho17)); have n0_ := Q0_ (Kd.S_elder' (upS HO_7) (Kd.R_base ho17) hb); have n1_ := Q0_ (Kd.R_lower ho17 (below_size (upB HB))); have n2_ := Q0_ (below_step (upB HB) hb); clear HO_7 HB; revert n0_ n1_ n2_; intro HO_7 HO284 HB; clear hb ho17; have p15 : 0 ≤ (x8_1 : Int) := of_decide_eq_true aS; have q15 : (x8_1 : Int) < ((x7_1.length : Int) : Int) := of_decide_eq_true aS; obtain ⟨go15, co15, eo15, gb15, gl15, cl15, HG15⟩ := Kd.S_form HO_7.out (by omega); (first | cases eo15 | (injection eo15 with ea_ en_ ec_; (first | subst ea_ | (injection ea_ with ea_; subst ea_)); subst ec_; clear en_)); have GB15 := Aside0.mk gb15; have GG15 := Aside0.mk HG15; clear gb15 gl15 HG15; obtain ⟨_, ce15, hcl15, hM15, hcc15, hfr15, _, _⟩ := Kd.S_elem HO_7.out [] (x8_1 : Int) p15 q15; obtain ⟨ve15_0, rfl, ge15_0⟩ := hM15; have hx15_0 := hcc15 0 _ rfl; have hf15_0 := hfr15 0; (try simp only [show ((Kd.slice 3 (Kd.int .i64))).sz = 1 from rfl, Nat.mul_one, Nat.add_zero] at hx15_0); (try simp only [show ((Kd.slice 3 (Kd.int .i64))).sz = 1 from rfl, Nat.mul_one, Nat.add_zero] at hf15_0); (try clear hM15); clear hcl15 hcc15 hfr15; replace p15 := eq_true p15; replace q15 := eq_true q15; obtain ⟨Ao18, co18, eo18⟩ := Kd.R_slice HO284.out; subst eo18; have n_ := Q0_ (Kd.S_mono (ok' := (fun k_ => nb k_ (.slice Ao18 y282.length co18))) HO_7.out (fun k_ hk => hk.2)); clear HO_7; have HO_7 := n_; clear n_; have HX19 := Q0_ (show Kd.S (Kd.slice 3 (Kd.int .i64)) 46 w16 w.heap.size (fun k_ => ((fun _ => True)) k_ ∧ ¬ ((fun k_ => some k_ = (.slice Ao18 y282.length co18 : Value).ownBlock)) k_) (.slice (some ⟨go15, 0, none⟩) x7_1.length co15) x7_1 from (upS' (Kd.S_mono HO_7.out (fun k_ hk => ⟨trivial, fun e_ => hk e_⟩)))); obtain ⟨oki19, ce19, hcl19, hM19, hcc19, hfr19, hoki19, hH19⟩ := Kd.S_elem HX19.out [] (x8_1 : Int) (of_decide_eq_true aS) (by have h_ : (x8_1 : Int) < ((x7_1.length : Int) : Int) := of_decide_eq_true aS; first | exact h_ | (have e_ := (Kd.S_reads' HO_7.out).1; omega) | simpa using h_); obtain ⟨ve19_0, rfl, ge19_0⟩ := hM19; have HP19 := Kd.S_seg hH19 (of_decide_eq_true aS) (by have h_ : (x8_1 : Int) < ((x7_1.length : Int) : Int) := of_decide_eq_true aS; first | exact h_ | (have e_ := (Kd.S_reads' HO_7.out).1; omega) | simpa using h_) (seg := [.slice Ao18 y282.length co18]) (j := 0) (show 1 ≤ 1 from by decide) (x' := y282) (Kd.M_row (Kd.R_mono (Kd.R_tight rfl (Kd.R_mono (ok' := fun k_ => ((fun _ => True)) k_ ∧ k_ ≠ go15) (Kd.R_apart' (HO284.out) (Kd.S_typed HO_7.out) (by decide)) (fun k_ hk => ⟨trivial, fun e_ => (hk.2) (by rw [e_]; rfl)⟩))) (fun _ h_ => Or.inr (h_)))) (fun _ hk => hk) (fun k_ hk_ => ((Kd.R_mono (ok' := fun k_ => ((fun _ => True)) k_ ∧ k_ ≠ go15) (Kd.R_apart' (HO284.out) (Kd.S_typed HO_7.out) (by decide)) (fun k_ hk => ⟨trivial, fun e_ => (hk.2) (by rw [e_]; rfl)⟩))).1 k_ hk_.symm); have hx19_0 := hcc19 0 _ rfl; (try simp only [show ((Kd.slice 3 (Kd.int .i64))).sz = 1 from rfl, Nat.mul_one, Nat.add_zero] at hx19_0); have hf19_0 := hfr19 0; (try simp only [show ((Kd.slice 3 (Kd.int .i64))).sz = 1 from rfl, Nat.mul_one, Nat.add_zero] at hf19_0); (try clear hM19); clear hcl19 hcc19 hfr19 hoki19 hH19; (try simp only [show ((Kd.slice 3 (Kd.int .i64))).sz = 1 from rfl, Nat.mul_one, Nat.add_zero] at HP19)) | ((with_reducible refine gate_store (t := 46) (p := 32) rfl ?_); refine store_event (t := 46) (p := 32) (v := ?vo_w20) (w1 := (w16.setCell ⟨go15, (x8_1 : Int).toNat, none⟩ (.slice Ao18 y282.length co18))) ?hg ?ho ?hn ?hr ?_; (case ho => rfl); (case hg => rfl); (case hn => rfl); (case hr => first | (go_simp; done) | (go_simp; rfl)); intro w20 hw; have hg : w16.grownBy w20 (some go15) := (by rw [hw]; exact HP19.2); have hp_ : Kd.S (Kd.slice 3 (Kd.int .i64)) 46 w20 w.heap.size (fun _ => True) (.slice (some ⟨go15, 0, none⟩) x7_1.length co15) y285 := (by rw [hw, Ny285.out]; exact HP19.1); clear HP19; have n0_ := Q0_ (hp_); have n1_ := Q0_ ((by rw [hw]; exact below_set (HB.out) GB15.out : Below w.heap.size w w20)); clear HO_7 HB HO284; revert n0_ n1_; intro HO_7 HB; clear hg hw hp_))
   go_loopg [9] k1 (fun kq v9 w' => ∃ (x7_2 : List (List Int)) (x9_2 : Int), v9 = .int .i64 x9_2 ∧ Aside0 (impl_leastSums_lessKept.l1 kq l0 l1 x7_2 x8_1 x9_2 = some r) ∧ Aside0 (kq ≤ k1) ∧ Aside0 (Kd.S (Kd.slice 3 (Kd.int .i64)) 46 w' w.heap.size (fun _ => True) (.slice (some ⟨go15, 0, none⟩) x7_1.length co15) x7_2) ∧ Aside0 (Below w.heap.size w w'))
   case atStart => exact ⟨(y285), ((l1.length : Int)), eX, H', ⟨Nat.le_refl _⟩, ⟨by (with_reducible repeat (first | apply Kd.S_alloc | apply Kd.S_drewN | apply Kd.S_drew)); exact HO_7.out⟩, ⟨by repeat (first | (with_reducible first | exact HB.out | apply below_alloc | apply pw_below_drewN | apply below_drew1) | exact HB.out)⟩⟩
   case round =>
    clear H'
    try clear c1
    try clear p1
    try clear q1
    try clear hx1
    try clear p2
    try clear c5
    try clear c5b0
    try clear c5b1
    try clear c6
    try clear c6b0
    try clear c6b1
    try clear p6
    try clear c9
    try clear c9b0
    try clear c11
    try clear c11b0
    try clear c11b1
    try clear c12
    try clear c12b0
    try clear c12b1
    try clear c13
    try clear c13b0
    try clear c14
    try clear c14b0
    try clear c15
    try clear p15
    try clear q15
    try clear hx15
    try clear hf15
    try clear c19
    try clear hx19
    try clear hf19
    try clear hx15_0
    try clear hx19_0
    try clear p15
    try clear p2
    try clear p6
    try clear q15
    obtain ⟨x7_2, x9_2, rfl, HA, HK2, HO_7, HB⟩ := hrel
    have hl7_2 := (Kd.S_reads' HO_7.out).1
    rw [hl7_2] at HO_7
    (try simp only [hl7_2])
    cases gk with
    | zero => exact absurd HA.out (by simp [impl_leastSums_lessKept.l1])
    | succ k2 =>
     have H := HA.out
     clear HA
     simp only [impl_leastSums_lessKept.l1] at H
     by_cases c21 : x9_2 ≥ 0
     rotate_left
     ·rw [if_neg c21] at H
      have c21b0 : decide (0 ≤ x9_2) = false := decide_eq_false c21
      clear c21
      have H' := Aside0.mk H
      clear H
      go_wp2
      (try simp only [← hl7_2])
      first | go_roundg k2 | ((try simp only [← hji4] at H' ⊢); (try simp only [← hji10] at H' ⊢); go_roundg k2)
      case measure => have := HK1.out; have := HK2.out; omega
      case rel => exact ⟨(x7_2), (wrap64 (x8_1 - 1)), eX, H', ⟨by have := HK1.out; have := HK2.out; omega⟩, ⟨by (try simp only [hl7_2]); (with_reducible repeat (first | apply Kd.S_alloc | apply Kd.S_drewN | apply Kd.S_drew)); exact HO_7.out⟩, ⟨by repeat (first | (with_reducible first | exact HB.out | apply below_alloc | apply pw_below_drewN | apply below_drew1) | exact HB.out)⟩⟩
     rw [if_pos c21] at H
     have c21b0 : decide (0 ≤ x9_2) = true := decide_eq_true c21
     clear c21
     obtain ⟨t286, A220, H⟩ := Option.bind_eq_some_iff.mp H
     try dsimp only at H
     have A22 := Aside0.mk A220
     clear A220
     have H' := Aside0.mk H
     clear H
     go_wp2_with (first | ((with_reducible refine gate_callee (f := 44) rfl ?_); refine goesL_ (some 39) rfl rfl Try.func44 (by kernel_rfl) rfl #[] rfl hM ?_; (with_reducible refine (impl_allEdits.calls  t286 _ A22.out).mono ?_); rintro e w23 ⟨v287, rfl, ho0, hb⟩; refine ⟨_, rfl, ?_⟩; have n0_ := Q0_ (Kd.S_below (upS HO_7) hb); have n1_ := Q0_ (Kd.R_lower ho0 (below_size (upB HB))); have n2_ := Q0_ (below_step (upB HB) hb); clear HO_7 HB; revert n0_ n1_ n2_; intro HO_7 HO288 HB; (try clear hb); (try clear hb2); (try clear hk); (try clear hi); (try clear ho0); obtain ⟨Ao24, co24, eo24⟩ := Kd.R_slice HO288.out; subst eo24))
     go_loopg [10, 41] k2 (fun kq v10 v41 w' => ∃ (x7_3 : List (List Int)) (x10_3 : Bool) (x41_3 : Int), v10 = .bool x10_3 ∧ v41 = .int .i64 x41_3 ∧ Aside0 (impl_leastSums_lessKept.l2 kq l0 l1 x7_3 x8_1 x9_2 x10_3 t286 (t286.length : Int) x41_3 = some r) ∧ Aside0 (kq ≤ k2) ∧ Aside0 (Kd.S (Kd.slice 3 (Kd.int .i64)) 46 w' w.heap.size (fun _ => True) (.slice (some ⟨go15, 0, none⟩) x7_2.length co15) x7_3) ∧ Aside0 (Kd.R (Kd.scalar en63W en63_one) 63 w' w.heap.size (fun _ => True) (.slice Ao24 t286.length co24) t286) ∧ Aside0 (Below w.heap.size w w'))
     case atStart => exact ⟨(x7_2), (false), (0), eX, eX, H', ⟨Nat.le_refl _⟩, ⟨by (try simp only [hl7_2]); (with_reducible repeat (first | apply Kd.S_alloc | apply Kd.S_drewN | apply Kd.S_drew)); exact HO_7.out⟩, ⟨by (try simp only [hl7_2]); (with_reducible repeat (first | apply Kd.R_alloc | apply Kd.R_drewN | apply Kd.R_drew)); exact HO288.out⟩, ⟨by repeat (first | (with_reducible first | exact HB.out | apply below_alloc | apply pw_below_drewN | apply below_drew1) | exact HB.out)⟩⟩
     case round =>
      clear H'
      try clear c1
      try clear p1
      try clear q1
      try clear hx1
      try clear c2
      try clear p2
      try clear c4
      try clear c5
      try clear c5b0
      try clear c5b1
      try clear c6
      try clear c6b0
      try clear c6b1
      try clear p6
      try clear c9
      try clear c9b0
      try clear c11
      try clear c11b0
      try clear c11b1
      try clear c12
      try clear c12b0
      try clear c12b1
      try clear c13
      try clear c13b0
      try clear c14
      try clear c14b0
      try clear c15
      try clear p15
      try clear q15
      try clear hx15
      try clear hf15
      try clear c19
      try clear hx19
      try clear hf19
      try clear c21
      try clear c21b0
      try clear hx15_0
      try clear hx19_0
      try clear p1
      try clear p15
      try clear p2
      try clear p6
      try clear q1
      try clear q15
      obtain ⟨x7_3, x10_3, x41_3, rfl, rfl, HA, HK3, HO_7, HO_39, HB⟩ := hrel
      have hl7_3 := (Kd.S_reads' HO_7.out).1
      rw [hl7_3] at HO_7
      (try simp only [hl7_3])
      (try simp only [hl7_3] at HO_39)
      cases gk with
      | zero => exact absurd HA.out (by simp [impl_leastSums_lessKept.l2])
      | succ k3 =>
       have H := HA.out
       clear HA
       simp only [impl_leastSums_lessKept.l2] at H
       by_cases c25 : x41_3 < (t286.length : Int)
       rotate_left
       ·rw [if_neg c25] at H
        have c25b0 : decide (x41_3 < (t286.length : Int)) = false := decide_eq_false c25
        clear c25
        have H' := Aside0.mk H
        clear H
        go_wp2
        (try simp only [← hl7_2, ← hl7_3])
        first | go_roundg k3 | ((try simp only [← hji4] at H' ⊢); (try simp only [← hji10] at H' ⊢); go_roundg k3)
        case measure => have := HK1.out; have := HK2.out; have := HK3.out; omega
        case rel => exact ⟨(x7_3), (wrap64 (x9_2 - 1)), eX, H', ⟨by have := HK1.out; have := HK2.out; have := HK3.out; omega⟩, ⟨by (try simp only [hl7_2]); (try simp only [hl7_3]); (with_reducible repeat (first | apply Kd.S_alloc | apply Kd.S_drewN | apply Kd.S_drew)); exact HO_7.out⟩, ⟨by repeat (first | (with_reducible first | exact HB.out | apply below_alloc | apply pw_below_drewN | apply below_drew1) | exact HB.out)⟩⟩
       rw [if_pos c25] at H
       have c25b0 : decide (x41_3 < (t286.length : Int)) = true := decide_eq_true c25
       clear c25
       by_cases c26 : 0 ≤ x41_3
       rotate_left
       ·rw [if_neg c26] at H
        exact absurd H (by simp)
       rw [if_pos c26] at H
       have c26b0 : decide (0 ≤ x41_3) = true := decide_eq_true c26
       clear c26
       by_cases c27 : x41_3 < (t286.length : Int)
       rotate_left
       ·rw [if_neg c27] at H
        exact absurd H (by simp)
       rw [if_pos c27] at H
       have c27b0 : decide (x41_3 < (t286.length : Int)) = true := decide_eq_true c27
       clear c27
       by_cases c28 : 0 ≤ x8_1
       rotate_left
       ·rw [if_neg c28] at H
        exact absurd H (by simp)
       rw [if_pos c28] at H
       have c28b0 := eq_true c28
       have c28b1 : decide (0 ≤ x8_1) = true := decide_eq_true c28
       clear c28
       by_cases c29 : x8_1 ≤ (l0.length : Int)
       rotate_left
       ·rw [if_neg c29] at H
        exact absurd H (by simp)
       rw [if_pos c29] at H
       have c29b0 := eq_true c29
       have c29b1 : decide (x8_1 ≤ (l0.length : Int)) = true := decide_eq_true c29
       clear c29
       obtain ⟨y290, hy290⟩ : ∃ y_ : List (S36), y_ = (l0.drop (x8_1 : Int).toNat) := ⟨_, rfl⟩
       replace H : (if 0 ≤ x9_2 then (if x9_2 ≤ (l1.length : Int) then ((impl_useOf.f k3 (rd t286 x41_3) y290 (l1.drop (x9_2 : Int).toNat)).bind fun bt298 => (if bt298.2.2.2 = true then ((impl_lessKept.f (rd t286 x41_3) bt298.1 bt298.2.1 bt298.2.2.1).bind fun t303 => (if 0 ≤ (wrap64 (x8_1 + bt298.1)) then (if (wrap64 (x8_1 + bt298.1)) < (x7_3.length : Int) then (if 0 ≤ (wrap64 (x9_2 + bt298.2.1)) then (if (wrap64 (x9_2 + bt298.2.1)) < ((rd_L4 x7_3 (wrap64 (x8_1 + bt298.1))).length : Int) then (if x10_3 = true then (if x8_1 < (x7_3.length : Int) then (if x9_2 < ((rd_L4 x7_3 x8_1).length : Int) then (if (wrap64 (t303 + (rd (rd_L4 x7_3 (wrap64 (x8_1 + bt298.1))) (wrap64 (x9_2 + bt298.2.1))))) < (rd (rd_L4 x7_3 x8_1) x9_2) then (impl_leastSums_lessKept.l2 k3 l0 l1 (x7_3.set (x8_1 : Int).toNat ((rd_L4 x7_3 x8_1).set (x9_2 : Int).toNat (wrap64 (t303 + (rd (rd_L4 x7_3 (wrap64 (x8_1 + bt298.1))) (wrap64 (x9_2 + bt298.2.1))))))) x8_1 x9_2 true t286 (t286.length : Int) (wrap64 (x41_3 + 1))) else (impl_leastSums_lessKept.l2 k3 l0 l1 x7_3 x8_1 x9_2 x10_3 t286 (t286.length : Int) (wrap64 (x41_3 + 1)))) else (none)) else (none)) else (if x8_1 < (x7_3.length : Int) then (if x9_2 < ((rd_L4 x7_3 x8_1).length : Int) then (impl_leastSums_lessKept.l2 k3 l0 l1 (x7_3.set (x8_1 : Int).toNat ((rd_L4 x7_3 x8_1).set (x9_2 : Int).toNat (wrap64 (t303 + (rd (rd_L4 x7_3 (wrap64 (x8_1 + bt298.1))) (wrap64 (x9_2 + bt298.2.1))))))) x8_1 x9_2 true t286 (t286.length : Int) (wrap64 (x41_3 + 1))) else (none)) else (none))) else (none)) else (none)) else (none)) else (none))) else (impl_leastSums_lessKept.l2 k3 l0 l1 x7_3 x8_1 x9_2 x10_3 t286 (t286.length : Int) (wrap64 (x41_3 + 1))))) else (none)) else (none)) = some r := by first | (rw [hy290]; with_reducible exact H) | (have H2_ := (Option.bind_some _ _).symm.trans H; rw [hy290]; with_reducible exact H2_) | (have H2_ := (Option.bind_some _ _).symm.trans H; with_reducible exact H2_) | with_reducible exact H | (rw [hy290]; exact H) | exact H
       have Ny290 := Aside0.mk hy290
       clear hy290
       by_cases c30 : 0 ≤ x9_2
       rotate_left
       ·rw [if_neg c30] at H
        exact absurd H (by simp)
       rw [if_pos c30] at H
       have c30b0 := eq_true c30
       have c30b1 : decide (0 ≤ x9_2) = true := decide_eq_true c30
       clear c30
       by_cases c31 : x9_2 ≤ (l1.length : Int)
       rotate_left
       ·rw [if_neg c31] at H
        exact absurd H (by simp)
       rw [if_pos c31] at H
       have c31b0 := eq_true c31
       have c31b1 : decide (x9_2 ≤ (l1.length : Int)) = true := decide_eq_true c31
       clear c31
       obtain ⟨y294, hy294⟩ : ∃ y_ : List (S36), y_ = (l1.drop (x9_2 : Int).toNat) := ⟨_, rfl⟩
       replace H : ((impl_useOf.f k3 (rd t286 x41_3) y290 y294).bind fun bt298 => (if bt298.2.2.2 = true then ((impl_lessKept.f (rd t286 x41_3) bt298.1 bt298.2.1 bt298.2.2.1).bind fun t303 => (if 0 ≤ (wrap64 (x8_1 + bt298.1)) then (if (wrap64 (x8_1 + bt298.1)) < (x7_3.length : Int) then (if 0 ≤ (wrap64 (x9_2 + bt298.2.1)) then (if (wrap64 (x9_2 + bt298.2.1)) < ((rd_L4 x7_3 (wrap64 (x8_1 + bt298.1))).length : Int) then (if x10_3 = true then (if x8_1 < (x7_3.length : Int) then (if x9_2 < ((rd_L4 x7_3 x8_1).length : Int) then (if (wrap64 (t303 + (rd (rd_L4 x7_3 (wrap64 (x8_1 + bt298.1))) (wrap64 (x9_2 + bt298.2.1))))) < (rd (rd_L4 x7_3 x8_1) x9_2) then (impl_leastSums_lessKept.l2 k3 l0 l1 (x7_3.set (x8_1 : Int).toNat ((rd_L4 x7_3 x8_1).set (x9_2 : Int).toNat (wrap64 (t303 + (rd (rd_L4 x7_3 (wrap64 (x8_1 + bt298.1))) (wrap64 (x9_2 + bt298.2.1))))))) x8_1 x9_2 true t286 (t286.length : Int) (wrap64 (x41_3 + 1))) else (impl_leastSums_lessKept.l2 k3 l0 l1 x7_3 x8_1 x9_2 x10_3 t286 (t286.length : Int) (wrap64 (x41_3 + 1)))) else (none)) else (none)) else (if x8_1 < (x7_3.length : Int) then (if x9_2 < ((rd_L4 x7_3 x8_1).length : Int) then (impl_leastSums_lessKept.l2 k3 l0 l1 (x7_3.set (x8_1 : Int).toNat ((rd_L4 x7_3 x8_1).set (x9_2 : Int).toNat (wrap64 (t303 + (rd (rd_L4 x7_3 (wrap64 (x8_1 + bt298.1))) (wrap64 (x9_2 + bt298.2.1))))))) x8_1 x9_2 true t286 (t286.length : Int) (wrap64 (x41_3 + 1))) else (none)) else (none))) else (none)) else (none)) else (none)) else (none))) else (impl_leastSums_lessKept.l2 k3 l0 l1 x7_3 x8_1 x9_2 x10_3 t286 (t286.length : Int) (wrap64 (x41_3 + 1))))) = some r := by first | (rw [hy294]; with_reducible exact H) | (have H2_ := (Option.bind_some _ _).symm.trans H; rw [hy294]; with_reducible exact H2_) | (have H2_ := (Option.bind_some _ _).symm.trans H; with_reducible exact H2_) | with_reducible exact H | (rw [hy294]; exact H) | exact H
       have Ny294 := Aside0.mk hy294
       clear hy294
       obtain ⟨⟨t298, t299, t300, t301⟩, A320, H⟩ := Option.bind_eq_some_iff.mp H
       try dsimp only at H
       have A32 := Aside0.mk A320
       clear A320
       by_cases c33 : t301 = true
       rotate_left
       ·replace c33 := Bool.eq_false_iff.mpr c33
        subst c33
        replace H := ifN ((show ¬ (false = true) by decide)) H
        have H' := Aside0.mk H
        clear H
        have p289 : 0 ≤ (x41_3 : Int) := of_decide_eq_true aS
        have q289 : x41_3 < (t286.length : Int) := of_decide_eq_true aS
        obtain ⟨ad289, e289, hx289_0⟩ := at_en63 (Kd.R_reads' HO_39.out).2.2 x41_3 p289 q289
        cases e289
        replace p289 := eq_true p289
        replace q289 := eq_true q289
        try go_wp2
        have n0_ := Q0_ (Kd.S_drew HO_7.out)
        have n1_ := Q0_ (Kd.R_drew HO_39.out)
        have n2_ := Q0_ (below_drew1 HB.out)
        clear HO_7 HO_39 HB; revert n0_ n1_ n2_; intro HO_7 HO_39 HB
        have q91 : (x8_1 : Int) ≤ ((l0.length : Int) : Int) := of_decide_eq_true aS
        obtain ⟨i091, hi091, _, hsz91, _⟩ := info_parts info36
        have hroom91 : l0.length ≤ c0 := HC0.out
        have hC91 : Kd.C k36 _ A0 l0.length l0 := HR0.out
        have q091 : (0 : Int) ≤ (x8_1 : Int) := of_decide_eq_true aS
        have hcut91 := cut_from (P := Try.prog) 25 36 .i64 Try.underlying25 hi091 2 hsz91 A0 l0.length c0 x8_1 q091 q91
        have hr91 := Kd.C_drop (m := (x8_1 : Int).toNat) (c := c0) hC91 (by omega) hroom91
        obtain ⟨A91, hA91⟩ : ∃ Az_, Az_ = (if c0 = (x8_1 : Int).toNat then A0 else (A0 : Option Addr).map (·.add ((x8_1 : Int).toNat * 2))) := ⟨_, rfl⟩
        obtain ⟨c91, hc91⟩ : ∃ cz_, cz_ = c0 - (x8_1 : Int).toNat := ⟨_, rfl⟩
        have hy91 : y290.length = l0.length - (x8_1 : Int).toNat := (by rw [Ny290.out, List.length_drop] <;> omega)
        rw [show (l0).drop (x8_1 : Int).toNat = y290 from Ny290.out.symm] at hr91
        replace hr91 : Kd.C k36 _ A91 y290.length y290 := (by rw [hA91]; exact hr91)
        rw [← hy91, ← hA91, ← hc91] at hcut91
        have HR293 := Aside0.mk hr91
        have HC293 := Q0_ (show y290.length ≤ c91 from by rw [hy91, hc91]; exact Nat.sub_le_sub_right hroom91 _)
        clear hr91 hC91 hroom91 hi091 hsz91 hc91
        have KY91 := Aside0.mk hy91
        have KA91 := Aside0.mk hA91
        clear hy91 hA91
        replace q91 := eq_true q91
        have q92 : (x9_2 : Int) ≤ ((l1.length : Int) : Int) := of_decide_eq_true aS
        obtain ⟨i092, hi092, _, hsz92, _⟩ := info_parts info36
        have hroom92 : l1.length ≤ c1 := HC1.out
        have hC92 : Kd.C k36 _ A1 l1.length l1 := HR1.out
        have q092 : (0 : Int) ≤ (x9_2 : Int) := of_decide_eq_true aS
        have hcut92 := cut_from (P := Try.prog) 25 36 .i64 Try.underlying25 hi092 2 hsz92 A1 l1.length c1 x9_2 q092 q92
        have hr92 := Kd.C_drop (m := (x9_2 : Int).toNat) (c := c1) hC92 (by omega) hroom92
        obtain ⟨A92, hA92⟩ : ∃ Az_, Az_ = (if c1 = (x9_2 : Int).toNat then A1 else (A1 : Option Addr).map (·.add ((x9_2 : Int).toNat * 2))) := ⟨_, rfl⟩
        obtain ⟨c92, hc92⟩ : ∃ cz_, cz_ = c1 - (x9_2 : Int).toNat := ⟨_, rfl⟩
        have hy92 : y294.length = l1.length - (x9_2 : Int).toNat := (by rw [Ny294.out, List.length_drop] <;> omega)
        rw [show (l1).drop (x9_2 : Int).toNat = y294 from Ny294.out.symm] at hr92
        replace hr92 : Kd.C k36 _ A92 y294.length y294 := (by rw [hA92]; exact hr92)
        rw [← hy92, ← hA92, ← hc92] at hcut92
        have HR297 := Aside0.mk hr92
        have HC297 := Q0_ (show y294.length ≤ c92 from by rw [hy92, hc92]; exact Nat.sub_le_sub_right hroom92 _)
        clear hr92 hC92 hroom92 hi092 hsz92 hc92
        have KY92 := Aside0.mk hy92
        have KA92 := Aside0.mk hA92
        clear hy92 hA92
        replace q92 := eq_true q92
        refine start_ (n := 14) (S := fun w' => True) (ds := []) #[ff,ff,ff,ff,ff,ff,ff,ff,ff,ff,ff,ff,ff,ff] (by kernel_rfl) rfl rfl trivial (fun hHeld => ?_); refine with_tabW impl_leastSums_lessKept.tab13 impl_leastSums_lessKept.bits13 (fun HT_ HW_ => ?_)
        generalize wr.drew = w90 at HO_7 HO_39 HB HR293 HR297 hHeld ⊢
        refine pQ HT_ 0 (some 46) #[tt,ff,ff,ff,ff,ff,ff,ff,ff,ff,ff,ff,ff,ff] rfl rfl ?_
        refine pQ HT_ 1 (some 47) #[tt,tt,ff,ff,ff,ff,ff,ff,ff,ff,ff,ff,ff,ff] rfl rfl ?_
        refine pQ HT_ 2 (some 48) #[tt,tt,tt,ff,ff,ff,ff,ff,ff,ff,ff,ff,ff,ff] rfl rfl ?_
        refine pQ HT_ 3 (some 49) #[tt,tt,tt,tt,ff,ff,ff,ff,ff,ff,ff,ff,ff,ff] rfl rfl ?_
        refine pQ HT_ 4 (some 50) #[tt,tt,tt,tt,tt,ff,ff,ff,ff,ff,ff,ff,ff,ff] rfl rfl ?_
        refine pQ HT_ 5 (some 51) #[tt,tt,tt,tt,tt,tt,ff,ff,ff,ff,ff,ff,ff,ff] rfl rfl ?_
        refine pQ HT_ 6 (some 52) #[tt,tt,tt,tt,tt,tt,tt,ff,ff,ff,ff,ff,ff,ff] rfl rfl ?_
        refine join_ (σ := Nat) 2 #[tt,tt,tt,tt,tt,tt,tt,tt,tt,tt,tt,tt,ff,ff] (fun s_ => [(53, .tuple #[.agg #[.int .i64 t298, .int .i64 t299, .int .i64 t300], .bool false]), (13, .pointer (some ⟨s_, 0, none⟩)), (45, .tuple #[.agg #[.int .i64 t298, .int .i64 t299, .int .i64 t300], .bool false]), (54, .agg #[.int .i64 t298, .int .i64 t299, .int .i64 t300]), (55, .bool false)]) (fun s_ w' => (Kd.R (Kd.scalar en63W en63_one) 63 w' w.heap.size (fun _ => True) (.slice (some ad289) t286.length co24) t286) ∧ (Kd.S (Kd.slice 3 (Kd.int .i64)) 46 w' w.heap.size (fun _ => True) (.slice (some ⟨go15, 0, none⟩) x7_3.length co15) x7_3) ∧ (w'.heap[s_]? = some (.cells #[.int .i64 0, .int .i64 0, .int .i64 0] 65 (0, 0))) ∧ (w.heap.size ≤ s_) ∧ (w.heap.size ≤ s_) ∧ (Below w.heap.size w w')) ?_ ?_
        rotate_left
        ·intro hCont
         refine two_ (i := 7) (j := 11) (Ni := some 53) (Nj := some 13) #[tt,tt,tt,tt,tt,tt,tt,tt,ff,ff,ff,ff,ff,ff] #[tt,tt,tt,tt,tt,tt,tt,ff,ff,ff,ff,tt,ff,ff] rfl rfl rfl rfl (two_of HT_.out (by kernel_rfl)) (by decide) (by decide) (fun K hK => ?_) (fun K hK => ?_)
         ·skip
          refine goes_ Try.func45 (by kernel_rfl) rfl #[en63W (rd t286 x41_3), .slice A91 y290.length c91, .slice A92 y294.length c92] (by rfl) rfl rfl hM ?_
          with_reducible refine (impl_useOf.calls k3 (rd t286 x41_3) _ _ y290 _ _ y294 t298 t299 t300 false _ ?side1 ?side2 ?side3 ?side4 A32.out).mono ?_
          (case side1 => repeat (first | exact (Kd.C_below HR293.out HB.out) | (with_reducible refine Kd.C_alloc ?_ _) | (with_reducible refine Kd.C_drewN ?_ _) | (with_reducible refine Kd.C_drew ?_)))
          (case side2 => exact HC293.out)
          (case side3 => repeat (first | exact (Kd.C_below HR297.out HB.out) | (with_reducible refine Kd.C_alloc ?_ _) | (with_reducible refine Kd.C_drewN ?_ _) | (with_reducible refine Kd.C_drew ?_)))
          (case side4 => exact HC297.out)
          rintro e w93 ⟨rfl, hb⟩
          refine ⟨_, rfl, ?_⟩
          have n0_ := Q0_ (Kd.S_below (upS HO_7) hb)
          have n1_ := Q0_ (Kd.R_below (upR HO_39) hb)
          have n2_ := Q0_ (below_step (upB HB) hb)
          clear HO_7 HO_39 HB; revert n0_ n1_ n2_; intro HO_7 HO_39 HB
          (try clear hb)
          (try clear hb2)
          (try clear hk)
          (try clear hi)
          refine hK.out _ _ trivial (fun hHeld => ?_)
          clear hK K
          refine norm_ (a' := ?_) ?_ ?_
          rotate_left
          ·show Act.put _ (some 53) _ = _
           simp only [Act.put, sI, s0, sS, i64_w, i32_w]
           rfl
          refine pQ HT_ 8 (some 45) #[tt,tt,tt,tt,tt,tt,tt,tt,tt,ff,ff,ff,ff,ff] rfl rfl ?_
          refine pQ HT_ 9 (some 54) #[tt,tt,tt,tt,tt,tt,tt,tt,tt,tt,ff,ff,ff,ff] rfl rfl ?_
          refine pQ HT_ 10 (some 55) #[tt,tt,tt,tt,tt,tt,tt,tt,tt,tt,tt,ff,ff,ff] rfl rfl ?_
          refine one_ (i := 11) (N := some 13) #[tt,tt,tt,tt,tt,tt,tt,tt,tt,tt,tt,tt,ff,ff] rfl rfl (one_of HT_.out (by kernel_rfl)) (by decide) (fun K hK => ?_)
          refine box_step ?hg (N := 13) ?hd (cs := #[.int .i64 0, .int .i64 0, .int .i64 0]) (t := 65) ?hr ?_; (case hd => rfl); (case hg => rfl); (case hr => first | (go_simp; done) | (go_simp; rfl))
          intro gb302 hg w94 hbox hb
          have n0_ := Q0_ (Kd.S_below (upS HO_7) hb)
          have n1_ := Q0_ (Kd.R_below (upR HO_39) hb)
          have n2_ := Q0_ (below_step (upB HB) hb)
          have n3_ := Q0_ (hbox)
          have n4_ := Q0_ ((by rw [hg]; exact (below_size (upB HB)) : w.heap.size ≤ gb302))
          have n5_ := Q0_ ((by rw [hg]; exact (below_size (upB HB)) : w.heap.size ≤ gb302))
          clear HO_7 HO_39 HB; revert n0_ n1_ n2_ n3_ n4_ n5_; intro HO_7 HO_39 HB BK302 GW302 GE302
          clear hb hbox hg
          refine hK.out _ _ trivial (fun hHeld => ?_)
          clear hK K
          refine norm_ (a' := ?_) ?_ ?_
          rotate_left
          ·show Act.put _ (some 13) _ = _
           simp only [Act.put, sI, s0, sS, i64_w, i32_w]
           rfl
          exact norm_ (by simp only [putAll, Act.put, sI, s0, sS]) (hCont (gb302) _ ⟨(upR HO_39), (upS HO_7), (upK BK302), GW302.out, GE302.out, upH⟩)
         ·skip
          refine box_step ?hg (N := 13) ?hd (cs := #[.int .i64 0, .int .i64 0, .int .i64 0]) (t := 65) ?hr ?_; (case hd => rfl); (case hg => rfl); (case hr => first | (go_simp; done) | (go_simp; rfl))
          intro gb302 hg w93 hbox hb
          have n0_ := Q0_ (Kd.S_below (upS HO_7) hb)
          have n1_ := Q0_ (Kd.R_below (upR HO_39) hb)
          have n2_ := Q0_ (below_step (upB HB) hb)
          have n3_ := Q0_ (hbox)
          have n4_ := Q0_ ((by rw [hg]; exact (below_size (upB HB)) : w.heap.size ≤ gb302))
          have n5_ := Q0_ ((by rw [hg]; exact (below_size (upB HB)) : w.heap.size ≤ gb302))
          clear HO_7 HO_39 HB; revert n0_ n1_ n2_ n3_ n4_ n5_; intro HO_7 HO_39 HB BK302 GW302 GE302
          clear hb hbox hg
          refine hK.out _ _ trivial (fun hHeld => ?_)
          clear hK K
          refine norm_ (a' := ?_) ?_ ?_
          rotate_left
          ·show Act.put _ (some 13) _ = _
           simp only [Act.put, sI, s0, sS, i64_w, i32_w]
           rfl
          refine one_ (i := 7) (N := some 53) #[tt,tt,tt,tt,tt,tt,tt,tt,ff,ff,ff,tt,ff,ff] rfl rfl (one_of HT_.out (by kernel_rfl)) (by decide) (fun K hK => ?_)
          refine goes_ Try.func45 (by kernel_rfl) rfl #[en63W (rd t286 x41_3), .slice A91 y290.length c91, .slice A92 y294.length c92] (by rfl) rfl rfl hM ?_
          with_reducible refine (impl_useOf.calls k3 (rd t286 x41_3) _ _ y290 _ _ y294 t298 t299 t300 false _ ?side1 ?side2 ?side3 ?side4 A32.out).mono ?_
          (case side1 => repeat (first | exact (Kd.C_below HR293.out HB.out) | (with_reducible refine Kd.C_alloc ?_ _) | (with_reducible refine Kd.C_drewN ?_ _) | (with_reducible refine Kd.C_drew ?_)))
          (case side2 => exact HC293.out)
          (case side3 => repeat (first | exact (Kd.C_below HR297.out HB.out) | (with_reducible refine Kd.C_alloc ?_ _) | (with_reducible refine Kd.C_drewN ?_ _) | (with_reducible refine Kd.C_drew ?_)))
          (case side4 => exact HC297.out)
          rintro e w94 ⟨rfl, hb⟩
          refine ⟨_, rfl, ?_⟩
          have n0_ := Q0_ (Kd.S_below (upS HO_7) hb)
          have n1_ := Q0_ (Kd.R_below (upR HO_39) hb)
          have n2_ := Q0_ (blk_below (upK BK302) hb)
          have n3_ := Q0_ (below_step upH hb)
          clear HO_7 HO_39 BK302 HB; revert n0_ n1_ n2_ n3_; intro HO_7 HO_39 BK302 HB
          (try clear hb)
          (try clear hb2)
          (try clear hk)
          (try clear hi)
          refine hK.out _ _ trivial (fun hHeld => ?_)
          clear hK K
          refine norm_ (a' := ?_) ?_ ?_
          rotate_left
          ·show Act.put _ (some 53) _ = _
           simp only [Act.put, sI, s0, sS, i64_w, i32_w]
           rfl
          refine pQ HT_ 8 (some 45) #[tt,tt,tt,tt,tt,tt,tt,tt,tt,ff,ff,tt,ff,ff] rfl rfl ?_
          refine pQ HT_ 9 (some 54) #[tt,tt,tt,tt,tt,tt,tt,tt,tt,tt,ff,tt,ff,ff] rfl rfl ?_
          refine pQ HT_ 10 (some 55) #[tt,tt,tt,tt,tt,tt,tt,tt,tt,tt,tt,tt,ff,ff] rfl rfl ?_
          exact norm_ (by simp only [putAll, Act.put, sI, s0, sS]) (hCont (gb302) _ ⟨(upR HO_39), (upS HO_7), (upK BK302), GW302.out, GE302.out, upH⟩)
        rintro gb302 w95 ⟨h0_, h1_, h2_, h3_, h4_, h5_⟩
        try dsimp only at h0_ h1_ h2_ h3_ h4_ h5_
        have n0_ := Q0_ h0_
        have n1_ := Q0_ h1_
        have n2_ := Q0_ h2_
        have n3_ := Q0_ h3_
        have n4_ := Q0_ h4_
        have n5_ := Q0_ h5_
        clear HO_7
        clear HO_39
        clear HB
        clear h0_ h1_ h2_ h3_ h4_ h5_
        have HO_39 := n0_
        have HO_7 := n1_
        have BK302 := n2_
        have GW302 := n3_
        have GE302 := n4_
        have HB := n5_
        clear n0_ n1_ n2_ n3_ n4_ n5_
        have hHeld := trivial
        refine norm_ (a' := ?_) ?_ ?_
        rotate_left
        ·simp only [putAll, Act.put, sI, s0, sS]
         rfl
        refine one_ (i := 12) (N := none) #[tt,tt,tt,tt,tt,tt,tt,tt,tt,tt,tt,tt,tt,ff] rfl rfl (one_of HT_.out (by kernel_rfl)) (by decide) (fun K hK => ?_)
        have hs96 : w95.cell? ⟨gb302, 0, none⟩ = some (.int .i64 0) := (blk_cell BK302.out 0).trans rfl
        have hfs96 := blk_frozen BK302.out 0
        have hs97 : w95.cell? ⟨gb302, 1, none⟩ = some (.int .i64 0) := (blk_cell BK302.out 1).trans rfl
        have hfs97 := blk_frozen BK302.out 1
        have hs98 : w95.cell? ⟨gb302, 2, none⟩ = some (.int .i64 0) := (blk_cell BK302.out 2).trans rfl
        have hfs98 := blk_frozen BK302.out 2
        refine skip_ (w1 := ?_) (by rfl) rfl ?_ ?_
        rotate_left
        ·go_simp
         rfl
        refine hK.out _ _ trivial (fun hHeld => ?_)
        clear hK K
        refine pQ HT_ 13 (some 14) #[tt,tt,tt,tt,tt,tt,tt,tt,tt,tt,tt,tt,tt,tt] rfl rfl ?_
        refine done_ (done_of HT_.out (by kernel_rfl)) ?_
        try go_wp2
        (try simp only [← hl7_3])
        first | go_roundg k3 | ((try simp only [← hji4] at H' ⊢); (try simp only [← hji10] at H' ⊢); go_roundg k3)
        case measure => have := HK1.out; have := HK2.out; have := HK3.out; omega
        case rel => exact ⟨(x7_3), (x10_3), (wrap64 (x41_3 + 1)), eX, eX, H', ⟨by have := HK1.out; have := HK2.out; have := HK3.out; omega⟩, ⟨by (try simp only [hl7_2]); (try simp only [hl7_3]); (with_reducible repeat (first | apply Kd.S_alloc | apply Kd.S_drewN | apply Kd.S_drew)); exact Kd.S_mono (Kd.S_far (p := ⟨gb302, 2, none⟩) (Kd.S_far (p := ⟨gb302, 1, none⟩) (Kd.S_far (p := ⟨gb302, 0, none⟩) (Kd.S_types HO_7.out BK302.out (by decide)) (fun _ hk => hk.2) (.int .i64 t298)) (fun _ hk => hk.2) (.int .i64 t299)) (fun _ hk => hk.2) (.int .i64 t300)) (fun _ hk => trivial)⟩, ⟨by (try simp only [hl7_2]); (try simp only [hl7_3]); (with_reducible repeat (first | apply Kd.R_alloc | apply Kd.R_drewN | apply Kd.R_drew)); exact Kd.R_mono (Kd.R_far (p := ⟨gb302, 2, none⟩) (Kd.R_far (p := ⟨gb302, 1, none⟩) (Kd.R_far (p := ⟨gb302, 0, none⟩) (Kd.R_types HO_39.out BK302.out (by decide)) (fun _ hk => hk.2) (.int .i64 t298)) (fun _ hk => hk.2) (.int .i64 t299)) (fun _ hk => hk.2) (.int .i64 t300)) (fun _ hk => trivial)⟩, ⟨by repeat (first | (with_reducible first | exact HB.out | apply below_alloc | apply pw_below_drewN | apply below_drew1 | refine below_set ?_ GE302.out) | exact HB.out)⟩⟩
       subst c33
       replace H := ifP (rfl) H
       obtain ⟨t303, A340, H⟩ := Option.bind_eq_some_iff.mp H
       try dsimp only at H
       have A34 := Aside0.mk A340
       clear A340
       obtain ⟨ji35, hji35⟩ : ∃ j_ : Int, (wrap64 (x8_1 + t298)) = j_ := ⟨_, rfl⟩
       replace H : (if 0 ≤ (ji35) then (if (ji35) < (x7_3.length : Int) then (if 0 ≤ (wrap64 (x9_2 + t299)) then (if (wrap64 (x9_2 + t299)) < ((rd_L4 x7_3 (ji35)).length : Int) then (if x10_3 = true then (if x8_1 < (x7_3.length : Int) then (if x9_2 < ((rd_L4 x7_3 x8_1).length : Int) then (if (wrap64 (t303 + (rd (rd_L4 x7_3 (ji35)) (wrap64 (x9_2 + t299))))) < (rd (rd_L4 x7_3 x8_1) x9_2) then (impl_leastSums_lessKept.l2 k3 l0 l1 (x7_3.set (x8_1 : Int).toNat ((rd_L4 x7_3 x8_1).set (x9_2 : Int).toNat (wrap64 (t303 + (rd (rd_L4 x7_3 (ji35)) (wrap64 (x9_2 + t299))))))) x8_1 x9_2 true t286 (t286.length : Int) (wrap64 (x41_3 + 1))) else (impl_leastSums_lessKept.l2 k3 l0 l1 x7_3 x8_1 x9_2 x10_3 t286 (t286.length : Int) (wrap64 (x41_3 + 1)))) else (none)) else (none)) else (if x8_1 < (x7_3.length : Int) then (if x9_2 < ((rd_L4 x7_3 x8_1).length : Int) then (impl_leastSums_lessKept.l2 k3 l0 l1 (x7_3.set (x8_1 : Int).toNat ((rd_L4 x7_3 x8_1).set (x9_2 : Int).toNat (wrap64 (t303 + (rd (rd_L4 x7_3 (ji35)) (wrap64 (x9_2 + t299))))))) x8_1 x9_2 true t286 (t286.length : Int) (wrap64 (x41_3 + 1))) else (none)) else (none))) else (none)) else (none)) else (none)) else (none)) = some r := by first | (rw [hji35] at H; exact H) | (simp only [hji35] at H ⊢; exact H)
       (try rw [hji35] at A32)
       (try rw [hji35] at A34)
       have hji35w : (IntKind.i64.wrap (x8_1 + t298)) = ji35 := (i64_w _).trans hji35
       by_cases c36 : 0 ≤ (ji35)
       rotate_left
       ·rw [if_neg c36] at H
        exact absurd H (by simp)
       rw [if_pos c36] at H
       have c36b0 : decide (0 ≤ (ji35)) = true := decide_eq_true c36
       clear c36
       by_cases c37 : (ji35) < (x7_3.length : Int)
       rotate_left
       ·rw [if_neg c37] at H
        exact absurd H (by simp)
       rw [if_pos c37] at H
       have c37b0 : decide ((ji35) < (x7_3.length : Int)) = true := decide_eq_true c37
       clear c37
       obtain ⟨ji38, hji38⟩ : ∃ j_ : Int, (wrap64 (x9_2 + t299)) = j_ := ⟨_, rfl⟩
       replace H : (if 0 ≤ (ji38) then (if (ji38) < ((rd_L4 x7_3 (ji35)).length : Int) then (if x10_3 = true then (if x8_1 < (x7_3.length : Int) then (if x9_2 < ((rd_L4 x7_3 x8_1).length : Int) then (if (wrap64 (t303 + (rd (rd_L4 x7_3 (ji35)) (ji38)))) < (rd (rd_L4 x7_3 x8_1) x9_2) then (impl_leastSums_lessKept.l2 k3 l0 l1 (x7_3.set (x8_1 : Int).toNat ((rd_L4 x7_3 x8_1).set (x9_2 : Int).toNat (wrap64 (t303 + (rd (rd_L4 x7_3 (ji35)) (ji38)))))) x8_1 x9_2 true t286 (t286.length : Int) (wrap64 (x41_3 + 1))) else (impl_leastSums_lessKept.l2 k3 l0 l1 x7_3 x8_1 x9_2 x10_3 t286 (t286.length : Int) (wrap64 (x41_3 + 1)))) else (none)) else (none)) else (if x8_1 < (x7_3.length : Int) then (if x9_2 < ((rd_L4 x7_3 x8_1).length : Int) then (impl_leastSums_lessKept.l2 k3 l0 l1 (x7_3.set (x8_1 : Int).toNat ((rd_L4 x7_3 x8_1).set (x9_2 : Int).toNat (wrap64 (t303 + (rd (rd_L4 x7_3 (ji35)) (ji38)))))) x8_1 x9_2 true t286 (t286.length : Int) (wrap64 (x41_3 + 1))) else (none)) else (none))) else (none)) else (none)) = some r := by first | (rw [hji38] at H; exact H) | (simp only [hji38] at H ⊢; exact H)
       (try rw [hji38] at A32)
       (try rw [hji38] at A34)
       have hji38w : (IntKind.i64.wrap (x9_2 + t299)) = ji38 := (i64_w _).trans hji38
       by_cases c39 : 0 ≤ (ji38)
       rotate_left
       ·rw [if_neg c39] at H
        exact absurd H (by simp)
       rw [if_pos c39] at H
       have c39b0 : decide (0 ≤ (ji38)) = true := decide_eq_true c39
       clear c39
       by_cases c40 : (ji38) < ((rd_L4 x7_3 (ji35)).length : Int)
       rotate_left
       ·rw [if_neg c40] at H
        exact absurd H (by simp)
       rw [if_pos c40] at H
       have c40b0 : decide ((ji38) < ((rd_L4 x7_3 (ji35)).length : Int)) = true := decide_eq_true c40
       clear c40
       by_cases c41 : x10_3 = true
       rotate_left
       ·replace c41 := Bool.eq_false_iff.mpr c41
        subst c41
        replace H := ifN ((show ¬ (false = true) by decide)) H
        by_cases c73 : x8_1 < (x7_3.length : Int)
        rotate_left
        ·rw [if_neg c73] at H
         exact absurd H (by simp)
        rw [if_pos c73] at H
        have c73b0 : decide (x8_1 < (x7_3.length : Int)) = true := decide_eq_true c73
        clear c73
        by_cases c74 : x9_2 < ((rd_L4 x7_3 x8_1).length : Int)
        rotate_left
        ·rw [if_neg c74] at H
         exact absurd H (by simp)
        rw [if_pos c74] at H
        have c74b0 : decide (x9_2 < ((rd_L4 x7_3 x8_1).length : Int)) = true := decide_eq_true c74
        clear c74
        obtain ⟨y312, hy312⟩ : ∃ y_ : List Int, y_ = ((rd_L4 x7_3 x8_1).set (x9_2 : Int).toNat (wrap64 (t303 + (rd (rd_L4 x7_3 (ji35)) (ji38))))) := ⟨_, rfl⟩
        replace H : (impl_leastSums_lessKept.l2 k3 l0 l1 (x7_3.set (x8_1 : Int).toNat y312) x8_1 x9_2 true t286 (t286.length : Int) (wrap64 (x41_3 + 1))) = some r := by first | (rw [hy312]; with_reducible exact H) | (have H2_ := (Option.bind_some _ _).symm.trans H; rw [hy312]; with_reducible exact H2_) | (have H2_ := (Option.bind_some _ _).symm.trans H; with_reducible exact H2_) | with_reducible exact H | (rw [hy312]; exact H) | exact H
        have Ny312 := Aside0.mk hy312
        clear hy312
        obtain ⟨y314, hy314⟩ : ∃ y_ : List (List Int), y_ = (x7_3.set (x8_1 : Int).toNat y312) := ⟨_, rfl⟩
        replace H : (impl_leastSums_lessKept.l2 k3 l0 l1 y314 x8_1 x9_2 true t286 (t286.length : Int) (wrap64 (x41_3 + 1))) = some r := by first | (rw [hy314]; with_reducible exact H) | (have H2_ := (Option.bind_some _ _).symm.trans H; rw [hy314]; with_reducible exact H2_) | (have H2_ := (Option.bind_some _ _).symm.trans H; with_reducible exact H2_) | with_reducible exact H | (rw [hy314]; exact H) | exact H
        have Ny314 := Aside0.mk hy314
        clear hy314
        have H' := Aside0.mk H
        clear H
        have p289 : 0 ≤ (x41_3 : Int) := of_decide_eq_true aS
        have q289 : x41_3 < (t286.length : Int) := of_decide_eq_true aS
        obtain ⟨ad289, e289, hx289_0⟩ := at_en63 (Kd.R_reads' HO_39.out).2.2 x41_3 p289 q289
        cases e289
        replace p289 := eq_true p289
        replace q289 := eq_true q289
        try go_wp2
        have n0_ := Q0_ (Kd.S_drew HO_7.out)
        have n1_ := Q0_ (Kd.R_drew HO_39.out)
        have n2_ := Q0_ (below_drew1 HB.out)
        clear HO_7 HO_39 HB; revert n0_ n1_ n2_; intro HO_7 HO_39 HB
        have q77 : (x8_1 : Int) ≤ ((l0.length : Int) : Int) := of_decide_eq_true aS
        obtain ⟨i077, hi077, _, hsz77, _⟩ := info_parts info36
        have hroom77 : l0.length ≤ c0 := HC0.out
        have hC77 : Kd.C k36 _ A0 l0.length l0 := HR0.out
        have q077 : (0 : Int) ≤ (x8_1 : Int) := of_decide_eq_true aS
        have hcut77 := cut_from (P := Try.prog) 25 36 .i64 Try.underlying25 hi077 2 hsz77 A0 l0.length c0 x8_1 q077 q77
        have hr77 := Kd.C_drop (m := (x8_1 : Int).toNat) (c := c0) hC77 (by omega) hroom77
        obtain ⟨A77, hA77⟩ : ∃ Az_, Az_ = (if c0 = (x8_1 : Int).toNat then A0 else (A0 : Option Addr).map (·.add ((x8_1 : Int).toNat * 2))) := ⟨_, rfl⟩
        obtain ⟨c77, hc77⟩ : ∃ cz_, cz_ = c0 - (x8_1 : Int).toNat := ⟨_, rfl⟩
        have hy77 : y290.length = l0.length - (x8_1 : Int).toNat := (by rw [Ny290.out, List.length_drop] <;> omega)
        rw [show (l0).drop (x8_1 : Int).toNat = y290 from Ny290.out.symm] at hr77
        replace hr77 : Kd.C k36 _ A77 y290.length y290 := (by rw [hA77]; exact hr77)
        rw [← hy77, ← hA77, ← hc77] at hcut77
        have HR293 := Aside0.mk hr77
        have HC293 := Q0_ (show y290.length ≤ c77 from by rw [hy77, hc77]; exact Nat.sub_le_sub_right hroom77 _)
        clear hr77 hC77 hroom77 hi077 hsz77 hc77
        have KY77 := Aside0.mk hy77
        have KA77 := Aside0.mk hA77
        clear hy77 hA77
        replace q77 := eq_true q77
        have q78 : (x9_2 : Int) ≤ ((l1.length : Int) : Int) := of_decide_eq_true aS
        obtain ⟨i078, hi078, _, hsz78, _⟩ := info_parts info36
        have hroom78 : l1.length ≤ c1 := HC1.out
        have hC78 : Kd.C k36 _ A1 l1.length l1 := HR1.out
        have q078 : (0 : Int) ≤ (x9_2 : Int) := of_decide_eq_true aS
        have hcut78 := cut_from (P := Try.prog) 25 36 .i64 Try.underlying25 hi078 2 hsz78 A1 l1.length c1 x9_2 q078 q78
        have hr78 := Kd.C_drop (m := (x9_2 : Int).toNat) (c := c1) hC78 (by omega) hroom78
        obtain ⟨A78, hA78⟩ : ∃ Az_, Az_ = (if c1 = (x9_2 : Int).toNat then A1 else (A1 : Option Addr).map (·.add ((x9_2 : Int).toNat * 2))) := ⟨_, rfl⟩
        obtain ⟨c78, hc78⟩ : ∃ cz_, cz_ = c1 - (x9_2 : Int).toNat := ⟨_, rfl⟩
        have hy78 : y294.length = l1.length - (x9_2 : Int).toNat := (by rw [Ny294.out, List.length_drop] <;> omega)
        rw [show (l1).drop (x9_2 : Int).toNat = y294 from Ny294.out.symm] at hr78
        replace hr78 : Kd.C k36 _ A78 y294.length y294 := (by rw [hA78]; exact hr78)
        rw [← hy78, ← hA78, ← hc78] at hcut78
        have HR297 := Aside0.mk hr78
        have HC297 := Q0_ (show y294.length ≤ c78 from by rw [hy78, hc78]; exact Nat.sub_le_sub_right hroom78 _)
        clear hr78 hC78 hroom78 hi078 hsz78 hc78
        have KY78 := Aside0.mk hy78
        have KA78 := Aside0.mk hA78
        clear hy78 hA78
        replace q78 := eq_true q78
        refine start_ (n := 14) (S := fun w' => True) (ds := []) #[ff,ff,ff,ff,ff,ff,ff,ff,ff,ff,ff,ff,ff,ff] (by kernel_rfl) rfl rfl trivial (fun hHeld => ?_); refine with_tabW impl_leastSums_lessKept.tab13 impl_leastSums_lessKept.bits13 (fun HT_ HW_ => ?_)
        generalize wr.drew = w76 at HO_7 HO_39 HB HR293 HR297 hHeld ⊢
        refine pQ HT_ 0 (some 46) #[tt,ff,ff,ff,ff,ff,ff,ff,ff,ff,ff,ff,ff,ff] rfl rfl ?_
        refine pQ HT_ 1 (some 47) #[tt,tt,ff,ff,ff,ff,ff,ff,ff,ff,ff,ff,ff,ff] rfl rfl ?_
        refine pQ HT_ 2 (some 48) #[tt,tt,tt,ff,ff,ff,ff,ff,ff,ff,ff,ff,ff,ff] rfl rfl ?_
        refine pQ HT_ 3 (some 49) #[tt,tt,tt,tt,ff,ff,ff,ff,ff,ff,ff,ff,ff,ff] rfl rfl ?_
        refine pQ HT_ 4 (some 50) #[tt,tt,tt,tt,tt,ff,ff,ff,ff,ff,ff,ff,ff,ff] rfl rfl ?_
        refine pQ HT_ 5 (some 51) #[tt,tt,tt,tt,tt,tt,ff,ff,ff,ff,ff,ff,ff,ff] rfl rfl ?_
        refine pQ HT_ 6 (some 52) #[tt,tt,tt,tt,tt,tt,tt,ff,ff,ff,ff,ff,ff,ff] rfl rfl ?_
        refine join_ (σ := Nat) 2 #[tt,tt,tt,tt,tt,tt,tt,tt,tt,tt,tt,tt,ff,ff] (fun s_ => [(53, .tuple #[.agg #[.int .i64 t298, .int .i64 t299, .int .i64 t300], .bool true]), (13, .pointer (some ⟨s_, 0, none⟩)), (45, .tuple #[.agg #[.int .i64 t298, .int .i64 t299, .int .i64 t300], .bool true]), (54, .agg #[.int .i64 t298, .int .i64 t299, .int .i64 t300]), (55, .bool true)]) (fun s_ w' => (Kd.R (Kd.scalar en63W en63_one) 63 w' w.heap.size (fun _ => True) (.slice (some ad289) t286.length co24) t286) ∧ (Kd.S (Kd.slice 3 (Kd.int .i64)) 46 w' w.heap.size (fun _ => True) (.slice (some ⟨go15, 0, none⟩) x7_3.length co15) x7_3) ∧ (w'.heap[s_]? = some (.cells #[.int .i64 0, .int .i64 0, .int .i64 0] 65 (0, 0))) ∧ (w.heap.size ≤ s_) ∧ (w.heap.size ≤ s_) ∧ (Below w.heap.size w w')) ?_ ?_
        rotate_left
        ·intro hCont
         refine two_ (i := 7) (j := 11) (Ni := some 53) (Nj := some 13) #[tt,tt,tt,tt,tt,tt,tt,tt,ff,ff,ff,ff,ff,ff] #[tt,tt,tt,tt,tt,tt,tt,ff,ff,ff,ff,tt,ff,ff] rfl rfl rfl rfl (two_of HT_.out (by kernel_rfl)) (by decide) (by decide) (fun K hK => ?_) (fun K hK => ?_)
         ·skip
          refine goes_ Try.func45 (by kernel_rfl) rfl #[en63W (rd t286 x41_3), .slice A77 y290.length c77, .slice A78 y294.length c78] (by rfl) rfl rfl hM ?_
          with_reducible refine (impl_useOf.calls k3 (rd t286 x41_3) _ _ y290 _ _ y294 t298 t299 t300 true _ ?side1 ?side2 ?side3 ?side4 A32.out).mono ?_
          (case side1 => repeat (first | exact (Kd.C_below HR293.out HB.out) | (with_reducible refine Kd.C_alloc ?_ _) | (with_reducible refine Kd.C_drewN ?_ _) | (with_reducible refine Kd.C_drew ?_)))
          (case side2 => exact HC293.out)
          (case side3 => repeat (first | exact (Kd.C_below HR297.out HB.out) | (with_reducible refine Kd.C_alloc ?_ _) | (with_reducible refine Kd.C_drewN ?_ _) | (with_reducible refine Kd.C_drew ?_)))
          (case side4 => exact HC297.out)
          rintro e w79 ⟨rfl, hb⟩
          refine ⟨_, rfl, ?_⟩
          have n0_ := Q0_ (Kd.S_below (upS HO_7) hb)
          have n1_ := Q0_ (Kd.R_below (upR HO_39) hb)
          have n2_ := Q0_ (below_step (upB HB) hb)
          clear HO_7 HO_39 HB; revert n0_ n1_ n2_; intro HO_7 HO_39 HB
          (try clear hb)
          (try clear hb2)
          (try clear hk)
          (try clear hi)
          refine hK.out _ _ trivial (fun hHeld => ?_)
          clear hK K
          refine norm_ (a' := ?_) ?_ ?_
          rotate_left
          ·show Act.put _ (some 53) _ = _
           simp only [Act.put, sI, s0, sS, i64_w, i32_w]
           rfl
          refine pQ HT_ 8 (some 45) #[tt,tt,tt,tt,tt,tt,tt,tt,tt,ff,ff,ff,ff,ff] rfl rfl ?_
          refine pQ HT_ 9 (some 54) #[tt,tt,tt,tt,tt,tt,tt,tt,tt,tt,ff,ff,ff,ff] rfl rfl ?_
          refine pQ HT_ 10 (some 55) #[tt,tt,tt,tt,tt,tt,tt,tt,tt,tt,tt,ff,ff,ff] rfl rfl ?_
          refine one_ (i := 11) (N := some 13) #[tt,tt,tt,tt,tt,tt,tt,tt,tt,tt,tt,tt,ff,ff] rfl rfl (one_of HT_.out (by kernel_rfl)) (by decide) (fun K hK => ?_)
          refine box_step ?hg (N := 13) ?hd (cs := #[.int .i64 0, .int .i64 0, .int .i64 0]) (t := 65) ?hr ?_; (case hd => rfl); (case hg => rfl); (case hr => first | (go_simp; done) | (go_simp; rfl))
          intro gb302 hg w80 hbox hb
          have n0_ := Q0_ (Kd.S_below (upS HO_7) hb)
          have n1_ := Q0_ (Kd.R_below (upR HO_39) hb)
          have n2_ := Q0_ (below_step (upB HB) hb)
          have n3_ := Q0_ (hbox)
          have n4_ := Q0_ ((by rw [hg]; exact (below_size (upB HB)) : w.heap.size ≤ gb302))
          have n5_ := Q0_ ((by rw [hg]; exact (below_size (upB HB)) : w.heap.size ≤ gb302))
          clear HO_7 HO_39 HB; revert n0_ n1_ n2_ n3_ n4_ n5_; intro HO_7 HO_39 HB BK302 GW302 GE302
          clear hb hbox hg
          refine hK.out _ _ trivial (fun hHeld => ?_)
          clear hK K
          refine norm_ (a' := ?_) ?_ ?_
          rotate_left
          ·show Act.put _ (some 13) _ = _
           simp only [Act.put, sI, s0, sS, i64_w, i32_w]
           rfl
          exact norm_ (by simp only [putAll, Act.put, sI, s0, sS]) (hCont (gb302) _ ⟨(upR HO_39), (upS HO_7), (upK BK302), GW302.out, GE302.out, upH⟩)
         ·skip
          refine box_step ?hg (N := 13) ?hd (cs := #[.int .i64 0, .int .i64 0, .int .i64 0]) (t := 65) ?hr ?_; (case hd => rfl); (case hg => rfl); (case hr => first | (go_simp; done) | (go_simp; rfl))
          intro gb302 hg w79 hbox hb
          have n0_ := Q0_ (Kd.S_below (upS HO_7) hb)
          have n1_ := Q0_ (Kd.R_below (upR HO_39) hb)
          have n2_ := Q0_ (below_step (upB HB) hb)
          have n3_ := Q0_ (hbox)
          have n4_ := Q0_ ((by rw [hg]; exact (below_size (upB HB)) : w.heap.size ≤ gb302))
          have n5_ := Q0_ ((by rw [hg]; exact (below_size (upB HB)) : w.heap.size ≤ gb302))
          clear HO_7 HO_39 HB; revert n0_ n1_ n2_ n3_ n4_ n5_; intro HO_7 HO_39 HB BK302 GW302 GE302
          clear hb hbox hg
          refine hK.out _ _ trivial (fun hHeld => ?_)
          clear hK K
          refine norm_ (a' := ?_) ?_ ?_
          rotate_left
          ·show Act.put _ (some 13) _ = _
           simp only [Act.put, sI, s0, sS, i64_w, i32_w]
           rfl
          refine one_ (i := 7) (N := some 53) #[tt,tt,tt,tt,tt,tt,tt,tt,ff,ff,ff,tt,ff,ff] rfl rfl (one_of HT_.out (by kernel_rfl)) (by decide) (fun K hK => ?_)
          refine goes_ Try.func45 (by kernel_rfl) rfl #[en63W (rd t286 x41_3), .slice A77 y290.length c77, .slice A78 y294.length c78] (by rfl) rfl rfl hM ?_
          with_reducible refine (impl_useOf.calls k3 (rd t286 x41_3) _ _ y290 _ _ y294 t298 t299 t300 true _ ?side1 ?side2 ?side3 ?side4 A32.out).mono ?_
          (case side1 => repeat (first | exact (Kd.C_below HR293.out HB.out) | (with_reducible refine Kd.C_alloc ?_ _) | (with_reducible refine Kd.C_drewN ?_ _) | (with_reducible refine Kd.C_drew ?_)))
          (case side2 => exact HC293.out)
          (case side3 => repeat (first | exact (Kd.C_below HR297.out HB.out) | (with_reducible refine Kd.C_alloc ?_ _) | (with_reducible refine Kd.C_drewN ?_ _) | (with_reducible refine Kd.C_drew ?_)))
          (case side4 => exact HC297.out)
          rintro e w80 ⟨rfl, hb⟩
          refine ⟨_, rfl, ?_⟩
          have n0_ := Q0_ (Kd.S_below (upS HO_7) hb)
          have n1_ := Q0_ (Kd.R_below (upR HO_39) hb)
          have n2_ := Q0_ (blk_below (upK BK302) hb)
          have n3_ := Q0_ (below_step upH hb)
          clear HO_7 HO_39 BK302 HB; revert n0_ n1_ n2_ n3_; intro HO_7 HO_39 BK302 HB
          (try clear hb)
          (try clear hb2)
          (try clear hk)
          (try clear hi)
          refine hK.out _ _ trivial (fun hHeld => ?_)
          clear hK K
          refine norm_ (a' := ?_) ?_ ?_
          rotate_left
          ·show Act.put _ (some 53) _ = _
           simp only [Act.put, sI, s0, sS, i64_w, i32_w]
           rfl
          refine pQ HT_ 8 (some 45) #[tt,tt,tt,tt,tt,tt,tt,tt,tt,ff,ff,tt,ff,ff] rfl rfl ?_
          refine pQ HT_ 9 (some 54) #[tt,tt,tt,tt,tt,tt,tt,tt,tt,tt,ff,tt,ff,ff] rfl rfl ?_
          refine pQ HT_ 10 (some 55) #[tt,tt,tt,tt,tt,tt,tt,tt,tt,tt,tt,tt,ff,ff] rfl rfl ?_
          exact norm_ (by simp only [putAll, Act.put, sI, s0, sS]) (hCont (gb302) _ ⟨(upR HO_39), (upS HO_7), (upK BK302), GW302.out, GE302.out, upH⟩)
        rintro gb302 w81 ⟨h0_, h1_, h2_, h3_, h4_, h5_⟩
        try dsimp only at h0_ h1_ h2_ h3_ h4_ h5_
        have n0_ := Q0_ h0_
        have n1_ := Q0_ h1_
        have n2_ := Q0_ h2_
        have n3_ := Q0_ h3_
        have n4_ := Q0_ h4_
        have n5_ := Q0_ h5_
        clear HO_7
        clear HO_39
        clear HB
        clear h0_ h1_ h2_ h3_ h4_ h5_
        have HO_39 := n0_
        have HO_7 := n1_
        have BK302 := n2_
        have GW302 := n3_
        have GE302 := n4_
        have HB := n5_
        clear n0_ n1_ n2_ n3_ n4_ n5_
        have hHeld := trivial
        refine norm_ (a' := ?_) ?_ ?_
        rotate_left
        ·simp only [putAll, Act.put, sI, s0, sS]
         rfl
        refine one_ (i := 12) (N := none) #[tt,tt,tt,tt,tt,tt,tt,tt,tt,tt,tt,tt,tt,ff] rfl rfl (one_of HT_.out (by kernel_rfl)) (by decide) (fun K hK => ?_)
        have hs82 : w81.cell? ⟨gb302, 0, none⟩ = some (.int .i64 0) := (blk_cell BK302.out 0).trans rfl
        have hfs82 := blk_frozen BK302.out 0
        have hs83 : w81.cell? ⟨gb302, 1, none⟩ = some (.int .i64 0) := (blk_cell BK302.out 1).trans rfl
        have hfs83 := blk_frozen BK302.out 1
        have hs84 : w81.cell? ⟨gb302, 2, none⟩ = some (.int .i64 0) := (blk_cell BK302.out 2).trans rfl
        have hfs84 := blk_frozen BK302.out 2
        refine skip_ (w1 := ?_) (by rfl) rfl ?_ ?_
        rotate_left
        ·go_simp
         rfl
        refine hK.out _ _ trivial (fun hHeld => ?_)
        clear hK K
        refine pQ HT_ 13 (some 14) #[tt,tt,tt,tt,tt,tt,tt,tt,tt,tt,tt,tt,tt,tt] rfl rfl ?_
        refine done_ (done_of HT_.out (by kernel_rfl)) ?_
        try go_wp2
        have n0_ : Aside0 (Kd.S (Kd.slice 3 (Kd.int .i64)) 46 (((w81.setCell ⟨gb302, 0, none⟩ (.int .i64 t298)).setCell ⟨gb302, 1, none⟩ (.int .i64 t299)).setCell ⟨gb302, 2, none⟩ (.int .i64 t300)) w.heap.size (fun _ => True) (.slice (some ⟨go15, 0, none⟩) x7_3.length co15) x7_3) := ⟨by (with_reducible repeat (first | apply Kd.S_alloc | apply Kd.S_drewN | apply Kd.S_drew)); exact Kd.S_mono (Kd.S_far (p := ⟨gb302, 2, none⟩) (Kd.S_far (p := ⟨gb302, 1, none⟩) (Kd.S_far (p := ⟨gb302, 0, none⟩) (Kd.S_types HO_7.out BK302.out (by decide)) (fun _ hk => hk.2) (.int .i64 t298)) (fun _ hk => hk.2) (.int .i64 t299)) (fun _ hk => hk.2) (.int .i64 t300)) (fun _ hk => trivial)⟩
        have n1_ : Aside0 (Kd.R (Kd.scalar en63W en63_one) 63 (((w81.setCell ⟨gb302, 0, none⟩ (.int .i64 t298)).setCell ⟨gb302, 1, none⟩ (.int .i64 t299)).setCell ⟨gb302, 2, none⟩ (.int .i64 t300)) w.heap.size (fun _ => True) (.slice (some ad289) t286.length co24) t286) := ⟨by (with_reducible repeat (first | apply Kd.R_alloc | apply Kd.R_drewN | apply Kd.R_drew)); exact Kd.R_mono (Kd.R_far (p := ⟨gb302, 2, none⟩) (Kd.R_far (p := ⟨gb302, 1, none⟩) (Kd.R_far (p := ⟨gb302, 0, none⟩) (Kd.R_types HO_39.out BK302.out (by decide)) (fun _ hk => hk.2) (.int .i64 t298)) (fun _ hk => hk.2) (.int .i64 t299)) (fun _ hk => hk.2) (.int .i64 t300)) (fun _ hk => trivial)⟩
        have n2_ : Aside0 ((((w81.setCell ⟨gb302, 0, none⟩ (.int .i64 t298)).setCell ⟨gb302, 1, none⟩ (.int .i64 t299)).setCell ⟨gb302, 2, none⟩ (.int .i64 t300)).heap[gb302]? = some (.cells #[.int .i64 t298, .int .i64 t299, .int .i64 t300] 65 (0, 0))) := ⟨by (with_reducible repeat (first | refine blk_drewN ?_ _ | refine blk_drew ?_ | refine blk_alloc ?_ _)); refine blk_put (cs := #[.int .i64 t298, .int .i64 t299, .int .i64 0]) ?_ 2 _ rfl; (with_reducible repeat (first | refine blk_drewN ?_ _ | refine blk_drew ?_ | refine blk_alloc ?_ _)); refine blk_put (cs := #[.int .i64 t298, .int .i64 0, .int .i64 0]) ?_ 1 _ rfl; (with_reducible repeat (first | refine blk_drewN ?_ _ | refine blk_drew ?_ | refine blk_alloc ?_ _)); refine blk_put (cs := #[.int .i64 0, .int .i64 0, .int .i64 0]) ?_ 0 _ rfl; (with_reducible repeat (first | refine blk_drewN ?_ _ | refine blk_drew ?_ | refine blk_alloc ?_ _)); exact BK302.out⟩
        have n3_ : Aside0 (Below w.heap.size w (((w81.setCell ⟨gb302, 0, none⟩ (.int .i64 t298)).setCell ⟨gb302, 1, none⟩ (.int .i64 t299)).setCell ⟨gb302, 2, none⟩ (.int .i64 t300))) := ⟨by repeat (first | (with_reducible first | exact HB.out | apply below_alloc | apply pw_below_drewN | apply below_drew1 | refine below_set ?_ GE302.out) | exact HB.out)⟩
        (try clear HO_7)
        (try clear HO_39)
        (try clear BK302)
        (try clear HB)
        generalize (((w81.setCell ⟨gb302, 0, none⟩ (.int .i64 t298)).setCell ⟨gb302, 1, none⟩ (.int .i64 t299)).setCell ⟨gb302, 2, none⟩ (.int .i64 t300)) = w85 at n0_ n1_ n2_ n3_ ⊢
        have HO_7 := n0_
        have HO_39 := n1_
        have BK302 := n2_
        have HB := n3_
        clear n0_ n1_ n2_ n3_
        have n0_ := Q0_ (Kd.S_drew HO_7.out)
        have n1_ := Q0_ (Kd.R_drew HO_39.out)
        have n2_ := Q0_ (blk_drew BK302.out)
        have n3_ := Q0_ (below_drew1 HB.out)
        clear HO_7 HO_39 BK302 HB; revert n0_ n1_ n2_ n3_; intro HO_7 HO_39 BK302 HB
        have p304 : 0 ≤ ((ji35) : Int) := of_decide_eq_true aS
        have q304 : (ji35) < (x7_3.length : Int) := of_decide_eq_true aS
        obtain ⟨ad304, A304_0, c304_0, e304, hx304_0, hl304_0, hi304_0⟩ := at_L4 (Kd.S_reads' HO_7.out).2.2 (ji35) p304 q304
        obtain rfl : (⟨go15, 0, none⟩ : Addr) = ad304 := (by injection e304)
        obtain ⟨ce304, hce304, hMe304, hcc304⟩ := Kd.S_get HO_7.out [] (ji35) p304 (by first | exact q304 | exact of_decide_eq_true aS | (have e_ := (Kd.S_reads' HO_7.out).1; omega))
        obtain ⟨ve304_0, rfl, ge304_0⟩ := hMe304
        have hv304_0 := hcc304 0 _ rfl
        rw [Nat.add_zero, show ((Kd.slice 3 (Kd.int .i64))).sz = 1 from rfl, Nat.mul_one] at hv304_0
        replace hv304_0 := Option.some.inj (hv304_0.symm.trans hx304_0)
        rw [hv304_0] at ge304_0
        have HL304_0 := Q0_ (show Kd.R (Kd.int .i64) 3 _ _ _ _ (rd_L4 x7_3 (ji35)) from ge304_0)
        clear hv304_0 ge304_0
        have HX304_0 := Aside0.mk hx304_0
        clear hcc304 hce304
        (first | simp only [add_plain] at hx304_0 | simp only [add_at] at hx304_0 | simp only [Addr.add, Nat.zero_add] at hx304_0 | skip)
        have HR304_0 := Aside0.mk hi304_0
        have HC304_0 := Aside0.mk hl304_0
        clear hi304_0 hl304_0
        replace p304 := eq_true p304
        replace q304 := eq_true q304
        have p305 : 0 ≤ ((ji38) : Int) := of_decide_eq_true aS
        have q305 : (ji38) < ((rd_L4 x7_3 (ji35)).length : Int) := of_decide_eq_true aS
        obtain ⟨ad305, e305, hx305_0⟩ := Kd.at_int HR304_0.out (ji38) p305 q305
        cases e305
        replace p305 := eq_true p305
        replace q305 := eq_true q305
        refine start_ (n := 19) (S := fun w' => w'.cell? ⟨gb302, 0, none⟩ = some (.int .i64 t298) ∧ w'.cell? ⟨gb302, 1, none⟩ = some (.int .i64 t299) ∧ w'.cell? ⟨gb302, 2, none⟩ = some (.int .i64 t300) ∧ w'.cell? ⟨go15, ((ji35)).toNat, none⟩ = some (.slice (some ad305) (rd_L4 x7_3 (ji35)).length c304_0) ∧ w'.cell? (ad305.add ((ji38)).toNat) = some (.int .i64 (rd (rd_L4 x7_3 (ji35)) (ji38)))) (ds := []) #[ff,ff,ff,ff,ff,ff,ff,ff,ff,ff,ff,ff,ff,ff,ff,ff,ff,ff,ff] (by kernel_rfl) rfl rfl ⟨(blk_cell BK302.out 0).trans rfl, (blk_cell BK302.out 1).trans rfl, (blk_cell BK302.out 2).trans rfl, hx304_0, hx305_0⟩ (fun hHeld => ?_); refine with_tabW impl_leastSums_lessKept.tab15 impl_leastSums_lessKept.bits15 (fun HT_ HW_ => ?_)
        generalize w85.drew = w86 at HO_7 HO_39 BK302 HB HL304_0 HR304_0 HX304_0 hx304_0 hx305_0 hHeld ⊢
        refine pQ HT_ 0 (some 58) #[tt,ff,ff,ff,ff,ff,ff,ff,ff,ff,ff,ff,ff,ff,ff,ff,ff,ff,ff] rfl rfl ?_
        refine pQ HT_ 1 (some 59) #[tt,tt,ff,ff,ff,ff,ff,ff,ff,ff,ff,ff,ff,ff,ff,ff,ff,ff,ff] rfl rfl ?_
        refine pQ HT_ 4 (some 62) #[tt,tt,ff,ff,tt,ff,ff,ff,ff,ff,ff,ff,ff,ff,ff,ff,ff,ff,ff] rfl rfl ?_
        refine pQ HT_ 5 (some 63) #[tt,tt,ff,ff,tt,tt,ff,ff,ff,ff,ff,ff,ff,ff,ff,ff,ff,ff,ff] rfl rfl ?_
        refine pQ HT_ 6 (some 64) #[tt,tt,ff,ff,tt,tt,tt,ff,ff,ff,ff,ff,ff,ff,ff,ff,ff,ff,ff] rfl rfl ?_
        refine pQ HT_ 11 (some 69) #[tt,tt,ff,ff,tt,tt,tt,ff,ff,ff,ff,tt,ff,ff,ff,ff,ff,ff,ff] rfl rfl ?_
        refine pQ HT_ 12 (some 70) #[tt,tt,ff,ff,tt,tt,tt,ff,ff,ff,ff,tt,tt,ff,ff,ff,ff,ff,ff] rfl rfl ?_
        refine tQ HT_ HW_ 2 (some 60) #[tt,tt,tt,ff,tt,tt,tt,ff,ff,ff,ff,tt,tt,ff,ff,ff,ff,ff,ff] rfl rfl hHeld (by rintro w' ⟨s0, s1, s2, s3, s4⟩; go_simp; with_reducible rfl) ?_
        refine tQ HT_ HW_ 7 (some 65) #[tt,tt,tt,ff,tt,tt,tt,tt,ff,ff,ff,tt,tt,ff,ff,ff,ff,ff,ff] rfl rfl hHeld (by rintro w' ⟨s0, s1, s2, s3, s4⟩; go_simp; with_reducible rfl) ?_
        refine pQ HT_ 8 (some 66) #[tt,tt,tt,ff,tt,tt,tt,tt,tt,ff,ff,tt,tt,ff,ff,ff,ff,ff,ff] rfl rfl ?_
        refine pQ HT_ 9 (some 67) #[tt,tt,tt,ff,tt,tt,tt,tt,tt,tt,ff,tt,tt,ff,ff,ff,ff,ff,ff] rfl rfl ?_
        refine tQ HT_ HW_ 10 (some 68) #[tt,tt,tt,ff,tt,tt,tt,tt,tt,tt,tt,tt,tt,ff,ff,ff,ff,ff,ff] rfl rfl hHeld (by rintro w' ⟨s0, s1, s2, s3, s4⟩; go_simp; with_reducible rfl) ?_
        refine tQ HT_ HW_ 13 (some 71) #[tt,tt,tt,ff,tt,tt,tt,tt,tt,tt,tt,tt,tt,tt,ff,ff,ff,ff,ff] rfl rfl hHeld (by rintro w' ⟨s0, s1, s2, s3, s4⟩; go_simp; with_reducible rfl) ?_
        refine pQ HT_ 14 (some 72) #[tt,tt,tt,ff,tt,tt,tt,tt,tt,tt,tt,tt,tt,tt,tt,ff,ff,ff,ff] rfl rfl ?_
        refine pQ HT_ 15 (some 73) #[tt,tt,tt,ff,tt,tt,tt,tt,tt,tt,tt,tt,tt,tt,tt,tt,ff,ff,ff] rfl rfl ?_
        refine tQ HT_ HW_ 16 (some 74) #[tt,tt,tt,ff,tt,tt,tt,tt,tt,tt,tt,tt,tt,tt,tt,tt,tt,ff,ff] rfl rfl hHeld (by rintro w' ⟨s0, s1, s2, s3, s4⟩; go_simp; with_reducible rfl) ?_
        refine one_ (i := 3) (N := some 61) #[tt,tt,tt,tt,tt,tt,tt,tt,tt,tt,tt,tt,tt,tt,tt,tt,tt,ff,ff] rfl rfl (one_of HT_.out (by kernel_rfl)) (by decide) (fun K hK => ?_)
        refine goesF_ Try.func36 (by kernel_rfl) rfl #[en63W (rd t286 x41_3), .agg #[.int .i64 t298, .int .i64 t299, .int .i64 t300]] (by rfl) rfl rfl rfl hM ?_
        with_reducible refine (impl_lessKept.calls (rd t286 x41_3) t298 t299 t300 t303 _ A34.out).mono ?_
        rintro e w87 ⟨rfl, hb⟩
        have HS3_ := (hb.cell (World.block_lt_of_cell? _ _ (hHeld.2.2.2.1))).trans (hHeld.2.2.2.1)
        have HS4_ := (hb.cell (World.block_lt_of_cell? _ _ (hHeld.2.2.2.2))).trans (hHeld.2.2.2.2)
        refine ⟨_, rfl, ?_⟩
        have n0_ := Q0_ (Kd.S_below (upS HO_7) hb)
        have n1_ := Q0_ (Kd.R_below (upR HO_39) hb)
        have n2_ := Q0_ (Kd.R_below (upR HL304_0) hb)
        have n3_ := Q0_ (blk_below (upK BK302) hb)
        have n4_ := Q0_ (Kd.C_below (upC HR304_0) hb)
        have n5_ := Q0_ (pw_cell_below hb HX304_0.out)
        have n6_ := Q0_ (below_step upH hb)
        clear HO_7 HO_39 HL304_0 BK302 HR304_0 HX304_0 HB; revert n0_ n1_ n2_ n3_ n4_ n5_ n6_; intro HO_7 HO_39 HL304_0 BK302 HR304_0 HX304_0 HB
        (try clear hb)
        (try clear hb2)
        (try clear hk)
        (try clear hi)
        refine hK.out _ _ ⟨(blk_cell BK302.out 0).trans rfl, (blk_cell BK302.out 1).trans rfl, (blk_cell BK302.out 2).trans rfl, HS3_, HS4_⟩ (fun hHeld => ?_)
        clear hK K
        refine norm_ (a' := ?_) ?_ ?_
        rotate_left
        ·show Act.put _ (some 61) _ = _
         simp only [Act.put, sI, s0, sS, i64_w, i32_w]
         rfl
        refine pQ HT_ 17 (some 75) #[tt,tt,tt,tt,tt,tt,tt,tt,tt,tt,tt,tt,tt,tt,tt,tt,tt,tt,ff] rfl rfl ?_
        refine pQ HT_ 18 (some 15) #[tt,tt,tt,tt,tt,tt,tt,tt,tt,tt,tt,tt,tt,tt,tt,tt,tt,tt,tt] rfl rfl ?_
        refine done_ (done_of HT_.out (by kernel_rfl)) ?_
        have p311 : 0 ≤ (x8_1 : Int) := of_decide_eq_true aS
        have q311 : x8_1 < (x7_3.length : Int) := of_decide_eq_true aS
        obtain ⟨ad311, A311_0, c311_0, e311, hx311_0, hl311_0, hi311_0⟩ := at_L4 (Kd.S_reads' HO_7.out).2.2 x8_1 p311 q311
        obtain rfl : (⟨go15, 0, none⟩ : Addr) = ad311 := (by injection e311)
        obtain ⟨ce311, hce311, hMe311, hcc311⟩ := Kd.S_get HO_7.out [] x8_1 p311 (by first | exact q311 | exact of_decide_eq_true aS | (have e_ := (Kd.S_reads' HO_7.out).1; omega))
        obtain ⟨ve311_0, rfl, ge311_0⟩ := hMe311
        have hv311_0 := hcc311 0 _ rfl
        rw [Nat.add_zero, show ((Kd.slice 3 (Kd.int .i64))).sz = 1 from rfl, Nat.mul_one] at hv311_0
        replace hv311_0 := Option.some.inj (hv311_0.symm.trans hx311_0)
        rw [hv311_0] at ge311_0
        have HL311_0 := Q0_ (show Kd.R (Kd.int .i64) 3 _ _ _ _ (rd_L4 x7_3 x8_1) from ge311_0)
        clear hv311_0 ge311_0
        have HX311_0 := Aside0.mk hx311_0
        clear hcc311 hce311
        (first | simp only [add_plain] at hx311_0 | simp only [add_at] at hx311_0 | simp only [Addr.add, Nat.zero_add] at hx311_0 | skip)
        have HR311_0 := Aside0.mk hi311_0
        have HC311_0 := Aside0.mk hl311_0
        clear hi311_0 hl311_0
        replace p311 := eq_true p311
        replace q311 := eq_true q311
        have p75 : 0 ≤ (x9_2 : Int) := of_decide_eq_true aS
        have q75 : (x9_2 : Int) < (((rd_L4 x7_3 x8_1).length : Int) : Int) := of_decide_eq_true aS
        obtain ⟨go75, co75, eo75, gb75, gl75, cl75, HG75⟩ := Kd.R_form HL311_0.out (by omega)
        (first | cases eo75 | (injection eo75 with ea_ en_ ec_; (first | subst ea_ | (injection ea_ with ea_; subst ea_)); subst ec_; clear en_))
        have GB75 := Aside0.mk gb75
        have GG75 := Aside0.mk HG75
        clear gb75 gl75 HG75
        obtain ⟨hx75_0, hf75_0⟩ := Kd.R_celln 0 HL311_0.out (x9_2 : Int) p75 q75
        replace p75 := eq_true p75
        replace q75 := eq_true q75
        have hq88 : (x8_1 : Int) < (x7_3.length : Int) := (by have h_ : (x8_1 : Int) < ((x7_3.length : Int) : Int) := of_decide_eq_true aS; first | exact h_ | (have e_ := (Kd.S_reads' HO_7.out).1; omega) | simpa only [List.length_set, List.length_set] using h_)
        obtain ⟨oki88, ce88, hcl88, hM88, hcc88, hok88, hbk88⟩ := Kd.S_borrow HO_7.out [] (x8_1 : Int) (of_decide_eq_true aS) hq88
        obtain ⟨ve88_0, rfl, ge88_0⟩ := hM88
        have hv88 := hcc88 0 _ rfl
        rw [Nat.add_zero, show ((Kd.slice 3 (Kd.int .i64))).sz = 1 from rfl, Nat.mul_one] at hv88
        replace hv88 := Option.some.inj (hv88.symm.trans HX311_0.out)
        subst hv88
        clear hcc88 hcl88
        replace ge88_0 := (show Kd.R (Kd.int .i64) 3 _ _ _ _ (rd_L4 x7_3 x8_1) from ge88_0)
        have HP88 := Kd.R_putg ge88_0 (x9_2 : Int) (wrap64 (t303 + (rd (rd_L4 x7_3 (ji35)) (ji38))))
        try go_wp2_with (first | ((with_reducible refine gate_store (t := 3) (p := 95) rfl ?_); refine store_event (t := 3) (p := 95) (v := ?vo_w89) (w1 := (w87.setCell ⟨go75, (x9_2 : Int).toNat, none⟩ (.int .i64 (wrap64 (t303 + (rd (rd_L4 x7_3 (ji35)) (ji38))))))) ?hg ?ho ?hn ?hr ?_; (case ho => rfl); (case hg => rfl); (case hn => rfl); (case hr => first | (go_simp; done) | (go_simp; rfl)); intro w89 hw; have hg : w87.grownBy w89 (some go75) := (by rw [hw]; exact HP88.2); have hz_ : Kd.R (Kd.int .i64) 3 w89 w.heap.size oki88 (.slice (some ⟨go75, 0, none⟩) (rd_L4 x7_3 x8_1).length c311_0) y312 := (by rw [hw, Ny312.out]; exact HP88.1); have hp_ : Kd.S (Kd.slice 3 (Kd.int .i64)) 46 w89 w.heap.size (fun _ => True) (.slice (some ⟨go15, 0, none⟩) x7_3.length co15) y314 := (by rw [Ny314.out]; exact hbk88 hg (fun k_ e_ => by injection e_ with e_; subst e_; exact ge88_0.1 _ rfl) (Kd.M_row hz_)); have hm_ := Kd.R_mono hz_ hok88; clear HP88 hbk88; have n0_ := Q0_ (hp_); have n1_ := Q0_ (Kd.R_over' (v := (.slice (some ⟨go75, 0, none⟩) (rd_L4 x7_3 x8_1).length c311_0)) (upR HO_39) (Kd.R_typed HL311_0.out) (by decide) hg); have n2_ := Q0_ (blk_grown (g := gb302) (o := .cells #[.int .i64 t298, .int .i64 t299, .int .i64 t300] 65 (0, 0)) (upK BK302) hg (Kd.R_ne HL311_0.out BK302.out (by decide))); have n3_ := Q0_ ((by rw [hw]; exact below_set (HB.out) GB75.out : Below w.heap.size w w89)); have n4_ := Q0_ (hm_); have n5_ := Q0_ ((Kd.R_reads' hm_).2.1); clear HO_7 HO_39 BK302 HB HL304_0 HL311_0; revert n0_ n1_ n2_ n3_ n4_ n5_; intro HO_7 HO_39 BK302 HB HL316 HC313; clear hg hw hp_ hz_ hm_ hok88))
        (try simp only [← hl7_3])
        first | go_roundg k3 | ((try simp only [← hji4] at H' ⊢); (try simp only [← hji10] at H' ⊢); (try simp only [← hji35] at H' ⊢); (try simp only [← hji38] at H' ⊢); go_roundg k3)
        case measure => have := HK1.out; have := HK2.out; have := HK3.out; omega
        case rel => exact ⟨(y314), (true), (wrap64 (x41_3 + 1)), eX, eX, H', ⟨by have := HK1.out; have := HK2.out; have := HK3.out; omega⟩, ⟨by (try simp only [hl7_2]); (try simp only [hl7_3]); (with_reducible repeat (first | apply Kd.S_alloc | apply Kd.S_drewN | apply Kd.S_drew)); exact HO_7.out⟩, ⟨by (try simp only [hl7_2]); (try simp only [hl7_3]); (with_reducible repeat (first | apply Kd.R_alloc | apply Kd.R_drewN | apply Kd.R_drew)); exact HO_39.out⟩, ⟨by repeat (first | (with_reducible first | exact HB.out | apply below_alloc | apply pw_below_drewN | apply below_drew1 | refine below_set ?_ GE302.out) | exact HB.out)⟩⟩
       subst c41
       replace H := ifP (rfl) H
       by_cases c42 : x8_1 < (x7_3.length : Int)
       rotate_left
       ·rw [if_neg c42] at H
        exact absurd H (by simp)
       rw [if_pos c42] at H
       have c42b0 : decide (x8_1 < (x7_3.length : Int)) = true := decide_eq_true c42
       clear c42
       by_cases c43 : x9_2 < ((rd_L4 x7_3 x8_1).length : Int)
       rotate_left
       ·rw [if_neg c43] at H
        exact absurd H (by simp)
       rw [if_pos c43] at H
       have c43b0 : decide (x9_2 < ((rd_L4 x7_3 x8_1).length : Int)) = true := decide_eq_true c43
       clear c43
       by_cases c44 : (wrap64 (t303 + (rd (rd_L4 x7_3 (ji35)) (ji38)))) < (rd (rd_L4 x7_3 x8_1) x9_2)
       rotate_left
       ·rw [if_neg c44] at H
        have c44b0 : decide ((wrap64 (t303 + (rd (rd_L4 x7_3 (ji35)) (ji38)))) < (rd (rd_L4 x7_3 x8_1) x9_2)) = false := decide_eq_false c44
        clear c44
        have H' := Aside0.mk H
        clear H
        have p289 : 0 ≤ (x41_3 : Int) := of_decide_eq_true aS
        have q289 : x41_3 < (t286.length : Int) := of_decide_eq_true aS
        obtain ⟨ad289, e289, hx289_0⟩ := at_en63 (Kd.R_reads' HO_39.out).2.2 x41_3 p289 q289
        cases e289
        replace p289 := eq_true p289
        replace q289 := eq_true q289
        try go_wp2
        have n0_ := Q0_ (Kd.S_drew HO_7.out)
        have n1_ := Q0_ (Kd.R_drew HO_39.out)
        have n2_ := Q0_ (below_drew1 HB.out)
        clear HO_7 HO_39 HB; revert n0_ n1_ n2_; intro HO_7 HO_39 HB
        have q62 : (x8_1 : Int) ≤ ((l0.length : Int) : Int) := of_decide_eq_true aS
        obtain ⟨i062, hi062, _, hsz62, _⟩ := info_parts info36
        have hroom62 : l0.length ≤ c0 := HC0.out
        have hC62 : Kd.C k36 _ A0 l0.length l0 := HR0.out
        have q062 : (0 : Int) ≤ (x8_1 : Int) := of_decide_eq_true aS
        have hcut62 := cut_from (P := Try.prog) 25 36 .i64 Try.underlying25 hi062 2 hsz62 A0 l0.length c0 x8_1 q062 q62
        have hr62 := Kd.C_drop (m := (x8_1 : Int).toNat) (c := c0) hC62 (by omega) hroom62
        obtain ⟨A62, hA62⟩ : ∃ Az_, Az_ = (if c0 = (x8_1 : Int).toNat then A0 else (A0 : Option Addr).map (·.add ((x8_1 : Int).toNat * 2))) := ⟨_, rfl⟩
        obtain ⟨c62, hc62⟩ : ∃ cz_, cz_ = c0 - (x8_1 : Int).toNat := ⟨_, rfl⟩
        have hy62 : y290.length = l0.length - (x8_1 : Int).toNat := (by rw [Ny290.out, List.length_drop] <;> omega)
        rw [show (l0).drop (x8_1 : Int).toNat = y290 from Ny290.out.symm] at hr62
        replace hr62 : Kd.C k36 _ A62 y290.length y290 := (by rw [hA62]; exact hr62)
        rw [← hy62, ← hA62, ← hc62] at hcut62
        have HR293 := Aside0.mk hr62
        have HC293 := Q0_ (show y290.length ≤ c62 from by rw [hy62, hc62]; exact Nat.sub_le_sub_right hroom62 _)
        clear hr62 hC62 hroom62 hi062 hsz62 hc62
        have KY62 := Aside0.mk hy62
        have KA62 := Aside0.mk hA62
        clear hy62 hA62
        replace q62 := eq_true q62
        have q63 : (x9_2 : Int) ≤ ((l1.length : Int) : Int) := of_decide_eq_true aS
        obtain ⟨i063, hi063, _, hsz63, _⟩ := info_parts info36
        have hroom63 : l1.length ≤ c1 := HC1.out
        have hC63 : Kd.C k36 _ A1 l1.length l1 := HR1.out
        have q063 : (0 : Int) ≤ (x9_2 : Int) := of_decide_eq_true aS
        have hcut63 := cut_from (P := Try.prog) 25 36 .i64 Try.underlying25 hi063 2 hsz63 A1 l1.length c1 x9_2 q063 q63
        have hr63 := Kd.C_drop (m := (x9_2 : Int).toNat) (c := c1) hC63 (by omega) hroom63
        obtain ⟨A63, hA63⟩ : ∃ Az_, Az_ = (if c1 = (x9_2 : Int).toNat then A1 else (A1 : Option Addr).map (·.add ((x9_2 : Int).toNat * 2))) := ⟨_, rfl⟩
        obtain ⟨c63, hc63⟩ : ∃ cz_, cz_ = c1 - (x9_2 : Int).toNat := ⟨_, rfl⟩
        have hy63 : y294.length = l1.length - (x9_2 : Int).toNat := (by rw [Ny294.out, List.length_drop] <;> omega)
        rw [show (l1).drop (x9_2 : Int).toNat = y294 from Ny294.out.symm] at hr63
        replace hr63 : Kd.C k36 _ A63 y294.length y294 := (by rw [hA63]; exact hr63)
        rw [← hy63, ← hA63, ← hc63] at hcut63
        have HR297 := Aside0.mk hr63
        have HC297 := Q0_ (show y294.length ≤ c63 from by rw [hy63, hc63]; exact Nat.sub_le_sub_right hroom63 _)
        clear hr63 hC63 hroom63 hi063 hsz63 hc63
        have KY63 := Aside0.mk hy63
        have KA63 := Aside0.mk hA63
        clear hy63 hA63
        replace q63 := eq_true q63
        refine start_ (n := 14) (S := fun w' => True) (ds := []) #[ff,ff,ff,ff,ff,ff,ff,ff,ff,ff,ff,ff,ff,ff] (by kernel_rfl) rfl rfl trivial (fun hHeld => ?_); refine with_tabW impl_leastSums_lessKept.tab13 impl_leastSums_lessKept.bits13 (fun HT_ HW_ => ?_)
        generalize wr.drew = w61 at HO_7 HO_39 HB HR293 HR297 hHeld ⊢
        refine pQ HT_ 0 (some 46) #[tt,ff,ff,ff,ff,ff,ff,ff,ff,ff,ff,ff,ff,ff] rfl rfl ?_
        refine pQ HT_ 1 (some 47) #[tt,tt,ff,ff,ff,ff,ff,ff,ff,ff,ff,ff,ff,ff] rfl rfl ?_
        refine pQ HT_ 2 (some 48) #[tt,tt,tt,ff,ff,ff,ff,ff,ff,ff,ff,ff,ff,ff] rfl rfl ?_
        refine pQ HT_ 3 (some 49) #[tt,tt,tt,tt,ff,ff,ff,ff,ff,ff,ff,ff,ff,ff] rfl rfl ?_
        refine pQ HT_ 4 (some 50) #[tt,tt,tt,tt,tt,ff,ff,ff,ff,ff,ff,ff,ff,ff] rfl rfl ?_
        refine pQ HT_ 5 (some 51) #[tt,tt,tt,tt,tt,tt,ff,ff,ff,ff,ff,ff,ff,ff] rfl rfl ?_
        refine pQ HT_ 6 (some 52) #[tt,tt,tt,tt,tt,tt,tt,ff,ff,ff,ff,ff,ff,ff] rfl rfl ?_
        refine join_ (σ := Nat) 2 #[tt,tt,tt,tt,tt,tt,tt,tt,tt,tt,tt,tt,ff,ff] (fun s_ => [(53, .tuple #[.agg #[.int .i64 t298, .int .i64 t299, .int .i64 t300], .bool true]), (13, .pointer (some ⟨s_, 0, none⟩)), (45, .tuple #[.agg #[.int .i64 t298, .int .i64 t299, .int .i64 t300], .bool true]), (54, .agg #[.int .i64 t298, .int .i64 t299, .int .i64 t300]), (55, .bool true)]) (fun s_ w' => (Kd.R (Kd.scalar en63W en63_one) 63 w' w.heap.size (fun _ => True) (.slice (some ad289) t286.length co24) t286) ∧ (Kd.S (Kd.slice 3 (Kd.int .i64)) 46 w' w.heap.size (fun _ => True) (.slice (some ⟨go15, 0, none⟩) x7_3.length co15) x7_3) ∧ (w'.heap[s_]? = some (.cells #[.int .i64 0, .int .i64 0, .int .i64 0] 65 (0, 0))) ∧ (w.heap.size ≤ s_) ∧ (w.heap.size ≤ s_) ∧ (Below w.heap.size w w')) ?_ ?_
        rotate_left
        ·intro hCont
         refine two_ (i := 7) (j := 11) (Ni := some 53) (Nj := some 13) #[tt,tt,tt,tt,tt,tt,tt,tt,ff,ff,ff,ff,ff,ff] #[tt,tt,tt,tt,tt,tt,tt,ff,ff,ff,ff,tt,ff,ff] rfl rfl rfl rfl (two_of HT_.out (by kernel_rfl)) (by decide) (by decide) (fun K hK => ?_) (fun K hK => ?_)
         ·skip
          refine goes_ Try.func45 (by kernel_rfl) rfl #[en63W (rd t286 x41_3), .slice A62 y290.length c62, .slice A63 y294.length c63] (by rfl) rfl rfl hM ?_
          with_reducible refine (impl_useOf.calls k3 (rd t286 x41_3) _ _ y290 _ _ y294 t298 t299 t300 true _ ?side1 ?side2 ?side3 ?side4 A32.out).mono ?_
          (case side1 => repeat (first | exact (Kd.C_below HR293.out HB.out) | (with_reducible refine Kd.C_alloc ?_ _) | (with_reducible refine Kd.C_drewN ?_ _) | (with_reducible refine Kd.C_drew ?_)))
          (case side2 => exact HC293.out)
          (case side3 => repeat (first | exact (Kd.C_below HR297.out HB.out) | (with_reducible refine Kd.C_alloc ?_ _) | (with_reducible refine Kd.C_drewN ?_ _) | (with_reducible refine Kd.C_drew ?_)))
          (case side4 => exact HC297.out)
          rintro e w64 ⟨rfl, hb⟩
          refine ⟨_, rfl, ?_⟩
          have n0_ := Q0_ (Kd.S_below (upS HO_7) hb)
          have n1_ := Q0_ (Kd.R_below (upR HO_39) hb)
          have n2_ := Q0_ (below_step (upB HB) hb)
          clear HO_7 HO_39 HB; revert n0_ n1_ n2_; intro HO_7 HO_39 HB
          (try clear hb)
          (try clear hb2)
          (try clear hk)
          (try clear hi)
          refine hK.out _ _ trivial (fun hHeld => ?_)
          clear hK K
          refine norm_ (a' := ?_) ?_ ?_
          rotate_left
          ·show Act.put _ (some 53) _ = _
           simp only [Act.put, sI, s0, sS, i64_w, i32_w]
           rfl
          refine pQ HT_ 8 (some 45) #[tt,tt,tt,tt,tt,tt,tt,tt,tt,ff,ff,ff,ff,ff] rfl rfl ?_
          refine pQ HT_ 9 (some 54) #[tt,tt,tt,tt,tt,tt,tt,tt,tt,tt,ff,ff,ff,ff] rfl rfl ?_
          refine pQ HT_ 10 (some 55) #[tt,tt,tt,tt,tt,tt,tt,tt,tt,tt,tt,ff,ff,ff] rfl rfl ?_
          refine one_ (i := 11) (N := some 13) #[tt,tt,tt,tt,tt,tt,tt,tt,tt,tt,tt,tt,ff,ff] rfl rfl (one_of HT_.out (by kernel_rfl)) (by decide) (fun K hK => ?_)
          refine box_step ?hg (N := 13) ?hd (cs := #[.int .i64 0, .int .i64 0, .int .i64 0]) (t := 65) ?hr ?_; (case hd => rfl); (case hg => rfl); (case hr => first | (go_simp; done) | (go_simp; rfl))
          intro gb302 hg w65 hbox hb
          have n0_ := Q0_ (Kd.S_below (upS HO_7) hb)
          have n1_ := Q0_ (Kd.R_below (upR HO_39) hb)
          have n2_ := Q0_ (below_step (upB HB) hb)
          have n3_ := Q0_ (hbox)
          have n4_ := Q0_ ((by rw [hg]; exact (below_size (upB HB)) : w.heap.size ≤ gb302))
          have n5_ := Q0_ ((by rw [hg]; exact (below_size (upB HB)) : w.heap.size ≤ gb302))
          clear HO_7 HO_39 HB; revert n0_ n1_ n2_ n3_ n4_ n5_; intro HO_7 HO_39 HB BK302 GW302 GE302
          clear hb hbox hg
          refine hK.out _ _ trivial (fun hHeld => ?_)
          clear hK K
          refine norm_ (a' := ?_) ?_ ?_
          rotate_left
          ·show Act.put _ (some 13) _ = _
           simp only [Act.put, sI, s0, sS, i64_w, i32_w]
           rfl
          exact norm_ (by simp only [putAll, Act.put, sI, s0, sS]) (hCont (gb302) _ ⟨(upR HO_39), (upS HO_7), (upK BK302), GW302.out, GE302.out, upH⟩)
         ·skip
          refine box_step ?hg (N := 13) ?hd (cs := #[.int .i64 0, .int .i64 0, .int .i64 0]) (t := 65) ?hr ?_; (case hd => rfl); (case hg => rfl); (case hr => first | (go_simp; done) | (go_simp; rfl))
          intro gb302 hg w64 hbox hb
          have n0_ := Q0_ (Kd.S_below (upS HO_7) hb)
          have n1_ := Q0_ (Kd.R_below (upR HO_39) hb)
          have n2_ := Q0_ (below_step (upB HB) hb)
          have n3_ := Q0_ (hbox)
          have n4_ := Q0_ ((by rw [hg]; exact (below_size (upB HB)) : w.heap.size ≤ gb302))
          have n5_ := Q0_ ((by rw [hg]; exact (below_size (upB HB)) : w.heap.size ≤ gb302))
          clear HO_7 HO_39 HB; revert n0_ n1_ n2_ n3_ n4_ n5_; intro HO_7 HO_39 HB BK302 GW302 GE302
          clear hb hbox hg
          refine hK.out _ _ trivial (fun hHeld => ?_)
          clear hK K
          refine norm_ (a' := ?_) ?_ ?_
          rotate_left
          ·show Act.put _ (some 13) _ = _
           simp only [Act.put, sI, s0, sS, i64_w, i32_w]
           rfl
          refine one_ (i := 7) (N := some 53) #[tt,tt,tt,tt,tt,tt,tt,tt,ff,ff,ff,tt,ff,ff] rfl rfl (one_of HT_.out (by kernel_rfl)) (by decide) (fun K hK => ?_)
          refine goes_ Try.func45 (by kernel_rfl) rfl #[en63W (rd t286 x41_3), .slice A62 y290.length c62, .slice A63 y294.length c63] (by rfl) rfl rfl hM ?_
          with_reducible refine (impl_useOf.calls k3 (rd t286 x41_3) _ _ y290 _ _ y294 t298 t299 t300 true _ ?side1 ?side2 ?side3 ?side4 A32.out).mono ?_
          (case side1 => repeat (first | exact (Kd.C_below HR293.out HB.out) | (with_reducible refine Kd.C_alloc ?_ _) | (with_reducible refine Kd.C_drewN ?_ _) | (with_reducible refine Kd.C_drew ?_)))
          (case side2 => exact HC293.out)
          (case side3 => repeat (first | exact (Kd.C_below HR297.out HB.out) | (with_reducible refine Kd.C_alloc ?_ _) | (with_reducible refine Kd.C_drewN ?_ _) | (with_reducible refine Kd.C_drew ?_)))
          (case side4 => exact HC297.out)
          rintro e w65 ⟨rfl, hb⟩
          refine ⟨_, rfl, ?_⟩
          have n0_ := Q0_ (Kd.S_below (upS HO_7) hb)
          have n1_ := Q0_ (Kd.R_below (upR HO_39) hb)
          have n2_ := Q0_ (blk_below (upK BK302) hb)
          have n3_ := Q0_ (below_step upH hb)
          clear HO_7 HO_39 BK302 HB; revert n0_ n1_ n2_ n3_; intro HO_7 HO_39 BK302 HB
          (try clear hb)
          (try clear hb2)
          (try clear hk)
          (try clear hi)
          refine hK.out _ _ trivial (fun hHeld => ?_)
          clear hK K
          refine norm_ (a' := ?_) ?_ ?_
          rotate_left
          ·show Act.put _ (some 53) _ = _
           simp only [Act.put, sI, s0, sS, i64_w, i32_w]
           rfl
          refine pQ HT_ 8 (some 45) #[tt,tt,tt,tt,tt,tt,tt,tt,tt,ff,ff,tt,ff,ff] rfl rfl ?_
          refine pQ HT_ 9 (some 54) #[tt,tt,tt,tt,tt,tt,tt,tt,tt,tt,ff,tt,ff,ff] rfl rfl ?_
          refine pQ HT_ 10 (some 55) #[tt,tt,tt,tt,tt,tt,tt,tt,tt,tt,tt,tt,ff,ff] rfl rfl ?_
          exact norm_ (by simp only [putAll, Act.put, sI, s0, sS]) (hCont (gb302) _ ⟨(upR HO_39), (upS HO_7), (upK BK302), GW302.out, GE302.out, upH⟩)
        rintro gb302 w66 ⟨h0_, h1_, h2_, h3_, h4_, h5_⟩
        try dsimp only at h0_ h1_ h2_ h3_ h4_ h5_
        have n0_ := Q0_ h0_
        have n1_ := Q0_ h1_
        have n2_ := Q0_ h2_
        have n3_ := Q0_ h3_
        have n4_ := Q0_ h4_
        have n5_ := Q0_ h5_
        clear HO_7
        clear HO_39
        clear HB
        clear h0_ h1_ h2_ h3_ h4_ h5_
        have HO_39 := n0_
        have HO_7 := n1_
        have BK302 := n2_
        have GW302 := n3_
        have GE302 := n4_
        have HB := n5_
        clear n0_ n1_ n2_ n3_ n4_ n5_
        have hHeld := trivial
        refine norm_ (a' := ?_) ?_ ?_
        rotate_left
        ·simp only [putAll, Act.put, sI, s0, sS]
         rfl
        refine one_ (i := 12) (N := none) #[tt,tt,tt,tt,tt,tt,tt,tt,tt,tt,tt,tt,tt,ff] rfl rfl (one_of HT_.out (by kernel_rfl)) (by decide) (fun K hK => ?_)
        have hs67 : w66.cell? ⟨gb302, 0, none⟩ = some (.int .i64 0) := (blk_cell BK302.out 0).trans rfl
        have hfs67 := blk_frozen BK302.out 0
        have hs68 : w66.cell? ⟨gb302, 1, none⟩ = some (.int .i64 0) := (blk_cell BK302.out 1).trans rfl
        have hfs68 := blk_frozen BK302.out 1
        have hs69 : w66.cell? ⟨gb302, 2, none⟩ = some (.int .i64 0) := (blk_cell BK302.out 2).trans rfl
        have hfs69 := blk_frozen BK302.out 2
        refine skip_ (w1 := ?_) (by rfl) rfl ?_ ?_
        rotate_left
        ·go_simp
         rfl
        refine hK.out _ _ trivial (fun hHeld => ?_)
        clear hK K
        refine pQ HT_ 13 (some 14) #[tt,tt,tt,tt,tt,tt,tt,tt,tt,tt,tt,tt,tt,tt] rfl rfl ?_
        refine done_ (done_of HT_.out (by kernel_rfl)) ?_
        try go_wp2
        have n0_ : Aside0 (Kd.S (Kd.slice 3 (Kd.int .i64)) 46 (((w66.setCell ⟨gb302, 0, none⟩ (.int .i64 t298)).setCell ⟨gb302, 1, none⟩ (.int .i64 t299)).setCell ⟨gb302, 2, none⟩ (.int .i64 t300)) w.heap.size (fun _ => True) (.slice (some ⟨go15, 0, none⟩) x7_3.length co15) x7_3) := ⟨by (with_reducible repeat (first | apply Kd.S_alloc | apply Kd.S_drewN | apply Kd.S_drew)); exact Kd.S_mono (Kd.S_far (p := ⟨gb302, 2, none⟩) (Kd.S_far (p := ⟨gb302, 1, none⟩) (Kd.S_far (p := ⟨gb302, 0, none⟩) (Kd.S_types HO_7.out BK302.out (by decide)) (fun _ hk => hk.2) (.int .i64 t298)) (fun _ hk => hk.2) (.int .i64 t299)) (fun _ hk => hk.2) (.int .i64 t300)) (fun _ hk => trivial)⟩
        have n1_ : Aside0 (Kd.R (Kd.scalar en63W en63_one) 63 (((w66.setCell ⟨gb302, 0, none⟩ (.int .i64 t298)).setCell ⟨gb302, 1, none⟩ (.int .i64 t299)).setCell ⟨gb302, 2, none⟩ (.int .i64 t300)) w.heap.size (fun _ => True) (.slice (some ad289) t286.length co24) t286) := ⟨by (with_reducible repeat (first | apply Kd.R_alloc | apply Kd.R_drewN | apply Kd.R_drew)); exact Kd.R_mono (Kd.R_far (p := ⟨gb302, 2, none⟩) (Kd.R_far (p := ⟨gb302, 1, none⟩) (Kd.R_far (p := ⟨gb302, 0, none⟩) (Kd.R_types HO_39.out BK302.out (by decide)) (fun _ hk => hk.2) (.int .i64 t298)) (fun _ hk => hk.2) (.int .i64 t299)) (fun _ hk => hk.2) (.int .i64 t300)) (fun _ hk => trivial)⟩
        have n2_ : Aside0 ((((w66.setCell ⟨gb302, 0, none⟩ (.int .i64 t298)).setCell ⟨gb302, 1, none⟩ (.int .i64 t299)).setCell ⟨gb302, 2, none⟩ (.int .i64 t300)).heap[gb302]? = some (.cells #[.int .i64 t298, .int .i64 t299, .int .i64 t300] 65 (0, 0))) := ⟨by (with_reducible repeat (first | refine blk_drewN ?_ _ | refine blk_drew ?_ | refine blk_alloc ?_ _)); refine blk_put (cs := #[.int .i64 t298, .int .i64 t299, .int .i64 0]) ?_ 2 _ rfl; (with_reducible repeat (first | refine blk_drewN ?_ _ | refine blk_drew ?_ | refine blk_alloc ?_ _)); refine blk_put (cs := #[.int .i64 t298, .int .i64 0, .int .i64 0]) ?_ 1 _ rfl; (with_reducible repeat (first | refine blk_drewN ?_ _ | refine blk_drew ?_ | refine blk_alloc ?_ _)); refine blk_put (cs := #[.int .i64 0, .int .i64 0, .int .i64 0]) ?_ 0 _ rfl; (with_reducible repeat (first | refine blk_drewN ?_ _ | refine blk_drew ?_ | refine blk_alloc ?_ _)); exact BK302.out⟩
        have n3_ : Aside0 (Below w.heap.size w (((w66.setCell ⟨gb302, 0, none⟩ (.int .i64 t298)).setCell ⟨gb302, 1, none⟩ (.int .i64 t299)).setCell ⟨gb302, 2, none⟩ (.int .i64 t300))) := ⟨by repeat (first | (with_reducible first | exact HB.out | apply below_alloc | apply pw_below_drewN | apply below_drew1 | refine below_set ?_ GE302.out) | exact HB.out)⟩
        (try clear HO_7)
        (try clear HO_39)
        (try clear BK302)
        (try clear HB)
        generalize (((w66.setCell ⟨gb302, 0, none⟩ (.int .i64 t298)).setCell ⟨gb302, 1, none⟩ (.int .i64 t299)).setCell ⟨gb302, 2, none⟩ (.int .i64 t300)) = w70 at n0_ n1_ n2_ n3_ ⊢
        have HO_7 := n0_
        have HO_39 := n1_
        have BK302 := n2_
        have HB := n3_
        clear n0_ n1_ n2_ n3_
        have n0_ := Q0_ (Kd.S_drew HO_7.out)
        have n1_ := Q0_ (Kd.R_drew HO_39.out)
        have n2_ := Q0_ (blk_drew BK302.out)
        have n3_ := Q0_ (below_drew1 HB.out)
        clear HO_7 HO_39 BK302 HB; revert n0_ n1_ n2_ n3_; intro HO_7 HO_39 BK302 HB
        have p304 : 0 ≤ ((ji35) : Int) := of_decide_eq_true aS
        have q304 : (ji35) < (x7_3.length : Int) := of_decide_eq_true aS
        obtain ⟨ad304, A304_0, c304_0, e304, hx304_0, hl304_0, hi304_0⟩ := at_L4 (Kd.S_reads' HO_7.out).2.2 (ji35) p304 q304
        obtain rfl : (⟨go15, 0, none⟩ : Addr) = ad304 := (by injection e304)
        obtain ⟨ce304, hce304, hMe304, hcc304⟩ := Kd.S_get HO_7.out [] (ji35) p304 (by first | exact q304 | exact of_decide_eq_true aS | (have e_ := (Kd.S_reads' HO_7.out).1; omega))
        obtain ⟨ve304_0, rfl, ge304_0⟩ := hMe304
        have hv304_0 := hcc304 0 _ rfl
        rw [Nat.add_zero, show ((Kd.slice 3 (Kd.int .i64))).sz = 1 from rfl, Nat.mul_one] at hv304_0
        replace hv304_0 := Option.some.inj (hv304_0.symm.trans hx304_0)
        rw [hv304_0] at ge304_0
        have HL304_0 := Q0_ (show Kd.R (Kd.int .i64) 3 _ _ _ _ (rd_L4 x7_3 (ji35)) from ge304_0)
        clear hv304_0 ge304_0
        have HX304_0 := Aside0.mk hx304_0
        clear hcc304 hce304
        (first | simp only [add_plain] at hx304_0 | simp only [add_at] at hx304_0 | simp only [Addr.add, Nat.zero_add] at hx304_0 | skip)
        have HR304_0 := Aside0.mk hi304_0
        have HC304_0 := Aside0.mk hl304_0
        clear hi304_0 hl304_0
        replace p304 := eq_true p304
        replace q304 := eq_true q304
        have p305 : 0 ≤ ((ji38) : Int) := of_decide_eq_true aS
        have q305 : (ji38) < ((rd_L4 x7_3 (ji35)).length : Int) := of_decide_eq_true aS
        obtain ⟨ad305, e305, hx305_0⟩ := Kd.at_int HR304_0.out (ji38) p305 q305
        cases e305
        replace p305 := eq_true p305
        replace q305 := eq_true q305
        refine start_ (n := 19) (S := fun w' => w'.cell? ⟨gb302, 0, none⟩ = some (.int .i64 t298) ∧ w'.cell? ⟨gb302, 1, none⟩ = some (.int .i64 t299) ∧ w'.cell? ⟨gb302, 2, none⟩ = some (.int .i64 t300) ∧ w'.cell? ⟨go15, ((ji35)).toNat, none⟩ = some (.slice (some ad305) (rd_L4 x7_3 (ji35)).length c304_0) ∧ w'.cell? (ad305.add ((ji38)).toNat) = some (.int .i64 (rd (rd_L4 x7_3 (ji35)) (ji38)))) (ds := []) #[ff,ff,ff,ff,ff,ff,ff,ff,ff,ff,ff,ff,ff,ff,ff,ff,ff,ff,ff] (by kernel_rfl) rfl rfl ⟨(blk_cell BK302.out 0).trans rfl, (blk_cell BK302.out 1).trans rfl, (blk_cell BK302.out 2).trans rfl, hx304_0, hx305_0⟩ (fun hHeld => ?_); refine with_tabW impl_leastSums_lessKept.tab15 impl_leastSums_lessKept.bits15 (fun HT_ HW_ => ?_)
        generalize w70.drew = w71 at HO_7 HO_39 BK302 HB HL304_0 HR304_0 HX304_0 hx304_0 hx305_0 hHeld ⊢
        refine pQ HT_ 0 (some 58) #[tt,ff,ff,ff,ff,ff,ff,ff,ff,ff,ff,ff,ff,ff,ff,ff,ff,ff,ff] rfl rfl ?_
        refine pQ HT_ 1 (some 59) #[tt,tt,ff,ff,ff,ff,ff,ff,ff,ff,ff,ff,ff,ff,ff,ff,ff,ff,ff] rfl rfl ?_
        refine pQ HT_ 4 (some 62) #[tt,tt,ff,ff,tt,ff,ff,ff,ff,ff,ff,ff,ff,ff,ff,ff,ff,ff,ff] rfl rfl ?_
        refine pQ HT_ 5 (some 63) #[tt,tt,ff,ff,tt,tt,ff,ff,ff,ff,ff,ff,ff,ff,ff,ff,ff,ff,ff] rfl rfl ?_
        refine pQ HT_ 6 (some 64) #[tt,tt,ff,ff,tt,tt,tt,ff,ff,ff,ff,ff,ff,ff,ff,ff,ff,ff,ff] rfl rfl ?_
        refine pQ HT_ 11 (some 69) #[tt,tt,ff,ff,tt,tt,tt,ff,ff,ff,ff,tt,ff,ff,ff,ff,ff,ff,ff] rfl rfl ?_
        refine pQ HT_ 12 (some 70) #[tt,tt,ff,ff,tt,tt,tt,ff,ff,ff,ff,tt,tt,ff,ff,ff,ff,ff,ff] rfl rfl ?_
        refine tQ HT_ HW_ 2 (some 60) #[tt,tt,tt,ff,tt,tt,tt,ff,ff,ff,ff,tt,tt,ff,ff,ff,ff,ff,ff] rfl rfl hHeld (by rintro w' ⟨s0, s1, s2, s3, s4⟩; go_simp; with_reducible rfl) ?_
        refine tQ HT_ HW_ 7 (some 65) #[tt,tt,tt,ff,tt,tt,tt,tt,ff,ff,ff,tt,tt,ff,ff,ff,ff,ff,ff] rfl rfl hHeld (by rintro w' ⟨s0, s1, s2, s3, s4⟩; go_simp; with_reducible rfl) ?_
        refine pQ HT_ 8 (some 66) #[tt,tt,tt,ff,tt,tt,tt,tt,tt,ff,ff,tt,tt,ff,ff,ff,ff,ff,ff] rfl rfl ?_
        refine pQ HT_ 9 (some 67) #[tt,tt,tt,ff,tt,tt,tt,tt,tt,tt,ff,tt,tt,ff,ff,ff,ff,ff,ff] rfl rfl ?_
        refine tQ HT_ HW_ 10 (some 68) #[tt,tt,tt,ff,tt,tt,tt,tt,tt,tt,tt,tt,tt,ff,ff,ff,ff,ff,ff] rfl rfl hHeld (by rintro w' ⟨s0, s1, s2, s3, s4⟩; go_simp; with_reducible rfl) ?_
        refine tQ HT_ HW_ 13 (some 71) #[tt,tt,tt,ff,tt,tt,tt,tt,tt,tt,tt,tt,tt,tt,ff,ff,ff,ff,ff] rfl rfl hHeld (by rintro w' ⟨s0, s1, s2, s3, s4⟩; go_simp; with_reducible rfl) ?_
        refine pQ HT_ 14 (some 72) #[tt,tt,tt,ff,tt,tt,tt,tt,tt,tt,tt,tt,tt,tt,tt,ff,ff,ff,ff] rfl rfl ?_
        refine pQ HT_ 15 (some 73) #[tt,tt,tt,ff,tt,tt,tt,tt,tt,tt,tt,tt,tt,tt,tt,tt,ff,ff,ff] rfl rfl ?_
        refine tQ HT_ HW_ 16 (some 74) #[tt,tt,tt,ff,tt,tt,tt,tt,tt,tt,tt,tt,tt,tt,tt,tt,tt,ff,ff] rfl rfl hHeld (by rintro w' ⟨s0, s1, s2, s3, s4⟩; go_simp; with_reducible rfl) ?_
        refine one_ (i := 3) (N := some 61) #[tt,tt,tt,tt,tt,tt,tt,tt,tt,tt,tt,tt,tt,tt,tt,tt,tt,ff,ff] rfl rfl (one_of HT_.out (by kernel_rfl)) (by decide) (fun K hK => ?_)
        refine goesF_ Try.func36 (by kernel_rfl) rfl #[en63W (rd t286 x41_3), .agg #[.int .i64 t298, .int .i64 t299, .int .i64 t300]] (by rfl) rfl rfl rfl hM ?_
        with_reducible refine (impl_lessKept.calls (rd t286 x41_3) t298 t299 t300 t303 _ A34.out).mono ?_
        rintro e w72 ⟨rfl, hb⟩
        have HS3_ := (hb.cell (World.block_lt_of_cell? _ _ (hHeld.2.2.2.1))).trans (hHeld.2.2.2.1)
        have HS4_ := (hb.cell (World.block_lt_of_cell? _ _ (hHeld.2.2.2.2))).trans (hHeld.2.2.2.2)
        refine ⟨_, rfl, ?_⟩
        have n0_ := Q0_ (Kd.S_below (upS HO_7) hb)
        have n1_ := Q0_ (Kd.R_below (upR HO_39) hb)
        have n2_ := Q0_ (Kd.R_below (upR HL304_0) hb)
        have n3_ := Q0_ (blk_below (upK BK302) hb)
        have n4_ := Q0_ (Kd.C_below (upC HR304_0) hb)
        have n5_ := Q0_ (pw_cell_below hb HX304_0.out)
        have n6_ := Q0_ (below_step upH hb)
        clear HO_7 HO_39 HL304_0 BK302 HR304_0 HX304_0 HB; revert n0_ n1_ n2_ n3_ n4_ n5_ n6_; intro HO_7 HO_39 HL304_0 BK302 HR304_0 HX304_0 HB
        (try clear hb)
        (try clear hb2)
        (try clear hk)
        (try clear hi)
        refine hK.out _ _ ⟨(blk_cell BK302.out 0).trans rfl, (blk_cell BK302.out 1).trans rfl, (blk_cell BK302.out 2).trans rfl, HS3_, HS4_⟩ (fun hHeld => ?_)
        clear hK K
        refine norm_ (a' := ?_) ?_ ?_
        rotate_left
        ·show Act.put _ (some 61) _ = _
         simp only [Act.put, sI, s0, sS, i64_w, i32_w]
         rfl
        refine pQ HT_ 17 (some 75) #[tt,tt,tt,tt,tt,tt,tt,tt,tt,tt,tt,tt,tt,tt,tt,tt,tt,tt,ff] rfl rfl ?_
        refine pQ HT_ 18 (some 15) #[tt,tt,tt,tt,tt,tt,tt,tt,tt,tt,tt,tt,tt,tt,tt,tt,tt,tt,tt] rfl rfl ?_
        refine done_ (done_of HT_.out (by kernel_rfl)) ?_
        have p306 : 0 ≤ (x8_1 : Int) := of_decide_eq_true aS
        have q306 : x8_1 < (x7_3.length : Int) := of_decide_eq_true aS
        obtain ⟨ad306, A306_0, c306_0, e306, hx306_0, hl306_0, hi306_0⟩ := at_L4 (Kd.S_reads' HO_7.out).2.2 x8_1 p306 q306
        obtain rfl : (⟨go15, 0, none⟩ : Addr) = ad306 := (by injection e306)
        obtain ⟨ce306, hce306, hMe306, hcc306⟩ := Kd.S_get HO_7.out [] x8_1 p306 (by first | exact q306 | exact of_decide_eq_true aS | (have e_ := (Kd.S_reads' HO_7.out).1; omega))
        obtain ⟨ve306_0, rfl, ge306_0⟩ := hMe306
        have hv306_0 := hcc306 0 _ rfl
        rw [Nat.add_zero, show ((Kd.slice 3 (Kd.int .i64))).sz = 1 from rfl, Nat.mul_one] at hv306_0
        replace hv306_0 := Option.some.inj (hv306_0.symm.trans hx306_0)
        rw [hv306_0] at ge306_0
        have HL306_0 := Q0_ (show Kd.R (Kd.int .i64) 3 _ _ _ _ (rd_L4 x7_3 x8_1) from ge306_0)
        clear hv306_0 ge306_0
        have HX306_0 := Aside0.mk hx306_0
        clear hcc306 hce306
        (first | simp only [add_plain] at hx306_0 | simp only [add_at] at hx306_0 | simp only [Addr.add, Nat.zero_add] at hx306_0 | skip)
        have HR306_0 := Aside0.mk hi306_0
        have HC306_0 := Aside0.mk hl306_0
        clear hi306_0 hl306_0
        replace p306 := eq_true p306
        replace q306 := eq_true q306
        have p307 : 0 ≤ (x9_2 : Int) := of_decide_eq_true aS
        have q307 : x9_2 < ((rd_L4 x7_3 x8_1).length : Int) := of_decide_eq_true aS
        obtain ⟨ad307, e307, hx307_0⟩ := Kd.at_int HR306_0.out x9_2 p307 q307
        cases e307
        replace p307 := eq_true p307
        replace q307 := eq_true q307
        try go_wp2
        (try simp only [← hl7_3])
        first | go_roundg k3 | ((try simp only [← hji4] at H' ⊢); (try simp only [← hji10] at H' ⊢); (try simp only [← hji35] at H' ⊢); (try simp only [← hji38] at H' ⊢); go_roundg k3)
        case measure => have := HK1.out; have := HK2.out; have := HK3.out; omega
        case rel => exact ⟨(x7_3), (true), (wrap64 (x41_3 + 1)), eX, eX, H', ⟨by have := HK1.out; have := HK2.out; have := HK3.out; omega⟩, ⟨by (try simp only [hl7_2]); (try simp only [hl7_3]); (with_reducible repeat (first | apply Kd.S_alloc | apply Kd.S_drewN | apply Kd.S_drew)); exact HO_7.out⟩, ⟨by (try simp only [hl7_2]); (try simp only [hl7_3]); (with_reducible repeat (first | apply Kd.R_alloc | apply Kd.R_drewN | apply Kd.R_drew)); exact HO_39.out⟩, ⟨by repeat (first | (with_reducible first | exact HB.out | apply below_alloc | apply pw_below_drewN | apply below_drew1 | refine below_set ?_ GE302.out) | exact HB.out)⟩⟩
       rw [if_pos c44] at H
       have c44b0 : decide ((wrap64 (t303 + (rd (rd_L4 x7_3 (ji35)) (ji38)))) < (rd (rd_L4 x7_3 x8_1) x9_2)) = true := decide_eq_true c44
       clear c44
       obtain ⟨y308, hy308⟩ : ∃ y_ : List Int, y_ = ((rd_L4 x7_3 x8_1).set (x9_2 : Int).toNat (wrap64 (t303 + (rd (rd_L4 x7_3 (ji35)) (ji38))))) := ⟨_, rfl⟩
       replace H : (impl_leastSums_lessKept.l2 k3 l0 l1 (x7_3.set (x8_1 : Int).toNat y308) x8_1 x9_2 true t286 (t286.length : Int) (wrap64 (x41_3 + 1))) = some r := by first | (rw [hy308]; with_reducible exact H) | (have H2_ := (Option.bind_some _ _).symm.trans H; rw [hy308]; with_reducible exact H2_) | (have H2_ := (Option.bind_some _ _).symm.trans H; with_reducible exact H2_) | with_reducible exact H | (rw [hy308]; exact H) | exact H
       have Ny308 := Aside0.mk hy308
       clear hy308
       obtain ⟨y310, hy310⟩ : ∃ y_ : List (List Int), y_ = (x7_3.set (x8_1 : Int).toNat y308) := ⟨_, rfl⟩
       replace H : (impl_leastSums_lessKept.l2 k3 l0 l1 y310 x8_1 x9_2 true t286 (t286.length : Int) (wrap64 (x41_3 + 1))) = some r := by first | (rw [hy310]; with_reducible exact H) | (have H2_ := (Option.bind_some _ _).symm.trans H; rw [hy310]; with_reducible exact H2_) | (have H2_ := (Option.bind_some _ _).symm.trans H; with_reducible exact H2_) | with_reducible exact H | (rw [hy310]; exact H) | exact H
       have Ny310 := Aside0.mk hy310
       clear hy310
       have H' := Aside0.mk H
       clear H
       have p289 : 0 ≤ (x41_3 : Int) := of_decide_eq_true aS
       have q289 : x41_3 < (t286.length : Int) := of_decide_eq_true aS
       obtain ⟨ad289, e289, hx289_0⟩ := at_en63 (Kd.R_reads' HO_39.out).2.2 x41_3 p289 q289
       cases e289
       replace p289 := eq_true p289
       replace q289 := eq_true q289
       try go_wp2
       have n0_ := Q0_ (Kd.S_drew HO_7.out)
       have n1_ := Q0_ (Kd.R_drew HO_39.out)
       have n2_ := Q0_ (below_drew1 HB.out)
       clear HO_7 HO_39 HB; revert n0_ n1_ n2_; intro HO_7 HO_39 HB
       have q48 : (x8_1 : Int) ≤ ((l0.length : Int) : Int) := of_decide_eq_true aS
       obtain ⟨i048, hi048, _, hsz48, _⟩ := info_parts info36
       have hroom48 : l0.length ≤ c0 := HC0.out
       have hC48 : Kd.C k36 _ A0 l0.length l0 := HR0.out
       have q048 : (0 : Int) ≤ (x8_1 : Int) := of_decide_eq_true aS
       have hcut48 := cut_from (P := Try.prog) 25 36 .i64 Try.underlying25 hi048 2 hsz48 A0 l0.length c0 x8_1 q048 q48
       have hr48 := Kd.C_drop (m := (x8_1 : Int).toNat) (c := c0) hC48 (by omega) hroom48
       obtain ⟨A48, hA48⟩ : ∃ Az_, Az_ = (if c0 = (x8_1 : Int).toNat then A0 else (A0 : Option Addr).map (·.add ((x8_1 : Int).toNat * 2))) := ⟨_, rfl⟩
       obtain ⟨c48, hc48⟩ : ∃ cz_, cz_ = c0 - (x8_1 : Int).toNat := ⟨_, rfl⟩
       have hy48 : y290.length = l0.length - (x8_1 : Int).toNat := (by rw [Ny290.out, List.length_drop] <;> omega)
       rw [show (l0).drop (x8_1 : Int).toNat = y290 from Ny290.out.symm] at hr48
       replace hr48 : Kd.C k36 _ A48 y290.length y290 := (by rw [hA48]; exact hr48)
       rw [← hy48, ← hA48, ← hc48] at hcut48
       have HR293 := Aside0.mk hr48
       have HC293 := Q0_ (show y290.length ≤ c48 from by rw [hy48, hc48]; exact Nat.sub_le_sub_right hroom48 _)
       clear hr48 hC48 hroom48 hi048 hsz48 hc48
       have KY48 := Aside0.mk hy48
       have KA48 := Aside0.mk hA48
       clear hy48 hA48
       replace q48 := eq_true q48
       have q49 : (x9_2 : Int) ≤ ((l1.length : Int) : Int) := of_decide_eq_true aS
       obtain ⟨i049, hi049, _, hsz49, _⟩ := info_parts info36
       have hroom49 : l1.length ≤ c1 := HC1.out
       have hC49 : Kd.C k36 _ A1 l1.length l1 := HR1.out
       have q049 : (0 : Int) ≤ (x9_2 : Int) := of_decide_eq_true aS
       have hcut49 := cut_from (P := Try.prog) 25 36 .i64 Try.underlying25 hi049 2 hsz49 A1 l1.length c1 x9_2 q049 q49
       have hr49 := Kd.C_drop (m := (x9_2 : Int).toNat) (c := c1) hC49 (by omega) hroom49
       obtain ⟨A49, hA49⟩ : ∃ Az_, Az_ = (if c1 = (x9_2 : Int).toNat then A1 else (A1 : Option Addr).map (·.add ((x9_2 : Int).toNat * 2))) := ⟨_, rfl⟩
       obtain ⟨c49, hc49⟩ : ∃ cz_, cz_ = c1 - (x9_2 : Int).toNat := ⟨_, rfl⟩
       have hy49 : y294.length = l1.length - (x9_2 : Int).toNat := (by rw [Ny294.out, List.length_drop] <;> omega)
       rw [show (l1).drop (x9_2 : Int).toNat = y294 from Ny294.out.symm] at hr49
       replace hr49 : Kd.C k36 _ A49 y294.length y294 := (by rw [hA49]; exact hr49)
       rw [← hy49, ← hA49, ← hc49] at hcut49
       have HR297 := Aside0.mk hr49
       have HC297 := Q0_ (show y294.length ≤ c49 from by rw [hy49, hc49]; exact Nat.sub_le_sub_right hroom49 _)
       clear hr49 hC49 hroom49 hi049 hsz49 hc49
       have KY49 := Aside0.mk hy49
       have KA49 := Aside0.mk hA49
       clear hy49 hA49
       replace q49 := eq_true q49
       refine start_ (n := 14) (S := fun w' => True) (ds := []) #[ff,ff,ff,ff,ff,ff,ff,ff,ff,ff,ff,ff,ff,ff] (by kernel_rfl) rfl rfl trivial (fun hHeld => ?_); refine with_tabW impl_leastSums_lessKept.tab13 impl_leastSums_lessKept.bits13 (fun HT_ HW_ => ?_)
       generalize wr.drew = w47 at HO_7 HO_39 HB HR293 HR297 hHeld ⊢
       refine pQ HT_ 0 (some 46) #[tt,ff,ff,ff,ff,ff,ff,ff,ff,ff,ff,ff,ff,ff] rfl rfl ?_
       refine pQ HT_ 1 (some 47) #[tt,tt,ff,ff,ff,ff,ff,ff,ff,ff,ff,ff,ff,ff] rfl rfl ?_
       refine pQ HT_ 2 (some 48) #[tt,tt,tt,ff,ff,ff,ff,ff,ff,ff,ff,ff,ff,ff] rfl rfl ?_
       refine pQ HT_ 3 (some 49) #[tt,tt,tt,tt,ff,ff,ff,ff,ff,ff,ff,ff,ff,ff] rfl rfl ?_
       refine pQ HT_ 4 (some 50) #[tt,tt,tt,tt,tt,ff,ff,ff,ff,ff,ff,ff,ff,ff] rfl rfl ?_
       refine pQ HT_ 5 (some 51) #[tt,tt,tt,tt,tt,tt,ff,ff,ff,ff,ff,ff,ff,ff] rfl rfl ?_
       refine pQ HT_ 6 (some 52) #[tt,tt,tt,tt,tt,tt,tt,ff,ff,ff,ff,ff,ff,ff] rfl rfl ?_
       refine join_ (σ := Nat) 2 #[tt,tt,tt,tt,tt,tt,tt,tt,tt,tt,tt,tt,ff,ff] (fun s_ => [(53, .tuple #[.agg #[.int .i64 t298, .int .i64 t299, .int .i64 t300], .bool true]), (13, .pointer (some ⟨s_, 0, none⟩)), (45, .tuple #[.agg #[.int .i64 t298, .int .i64 t299, .int .i64 t300], .bool true]), (54, .agg #[.int .i64 t298, .int .i64 t299, .int .i64 t300]), (55, .bool true)]) (fun s_ w' => (Kd.R (Kd.scalar en63W en63_one) 63 w' w.heap.size (fun _ => True) (.slice (some ad289) t286.length co24) t286) ∧ (Kd.S (Kd.slice 3 (Kd.int .i64)) 46 w' w.heap.size (fun _ => True) (.slice (some ⟨go15, 0, none⟩) x7_3.length co15) x7_3) ∧ (w'.heap[s_]? = some (.cells #[.int .i64 0, .int .i64 0, .int .i64 0] 65 (0, 0))) ∧ (w.heap.size ≤ s_) ∧ (w.heap.size ≤ s_) ∧ (Below w.heap.size w w')) ?_ ?_
       rotate_left
       ·intro hCont
        refine two_ (i := 7) (j := 11) (Ni := some 53) (Nj := some 13) #[tt,tt,tt,tt,tt,tt,tt,tt,ff,ff,ff,ff,ff,ff] #[tt,tt,tt,tt,tt,tt,tt,ff,ff,ff,ff,tt,ff,ff] rfl rfl rfl rfl (two_of HT_.out (by kernel_rfl)) (by decide) (by decide) (fun K hK => ?_) (fun K hK => ?_)
        ·skip
         refine goes_ Try.func45 (by kernel_rfl) rfl #[en63W (rd t286 x41_3), .slice A48 y290.length c48, .slice A49 y294.length c49] (by rfl) rfl rfl hM ?_
         with_reducible refine (impl_useOf.calls k3 (rd t286 x41_3) _ _ y290 _ _ y294 t298 t299 t300 true _ ?side1 ?side2 ?side3 ?side4 A32.out).mono ?_
         (case side1 => repeat (first | exact (Kd.C_below HR293.out HB.out) | (with_reducible refine Kd.C_alloc ?_ _) | (with_reducible refine Kd.C_drewN ?_ _) | (with_reducible refine Kd.C_drew ?_)))
         (case side2 => exact HC293.out)
         (case side3 => repeat (first | exact (Kd.C_below HR297.out HB.out) | (with_reducible refine Kd.C_alloc ?_ _) | (with_reducible refine Kd.C_drewN ?_ _) | (with_reducible refine Kd.C_drew ?_)))
         (case side4 => exact HC297.out)
         rintro e w50 ⟨rfl, hb⟩
         refine ⟨_, rfl, ?_⟩
         have n0_ := Q0_ (Kd.S_below (upS HO_7) hb)
         have n1_ := Q0_ (Kd.R_below (upR HO_39) hb)
         have n2_ := Q0_ (below_step (upB HB) hb)
         clear HO_7 HO_39 HB; revert n0_ n1_ n2_; intro HO_7 HO_39 HB
         (try clear hb)
         (try clear hb2)
         (try clear hk)
         (try clear hi)
         refine hK.out _ _ trivial (fun hHeld => ?_)
         clear hK K
         refine norm_ (a' := ?_) ?_ ?_
         rotate_left
         ·show Act.put _ (some 53) _ = _
          simp only [Act.put, sI, s0, sS, i64_w, i32_w]
          rfl
         refine pQ HT_ 8 (some 45) #[tt,tt,tt,tt,tt,tt,tt,tt,tt,ff,ff,ff,ff,ff] rfl rfl ?_
         refine pQ HT_ 9 (some 54) #[tt,tt,tt,tt,tt,tt,tt,tt,tt,tt,ff,ff,ff,ff] rfl rfl ?_
         refine pQ HT_ 10 (some 55) #[tt,tt,tt,tt,tt,tt,tt,tt,tt,tt,tt,ff,ff,ff] rfl rfl ?_
         refine one_ (i := 11) (N := some 13) #[tt,tt,tt,tt,tt,tt,tt,tt,tt,tt,tt,tt,ff,ff] rfl rfl (one_of HT_.out (by kernel_rfl)) (by decide) (fun K hK => ?_)
         refine box_step ?hg (N := 13) ?hd (cs := #[.int .i64 0, .int .i64 0, .int .i64 0]) (t := 65) ?hr ?_; (case hd => rfl); (case hg => rfl); (case hr => first | (go_simp; done) | (go_simp; rfl))
         intro gb302 hg w51 hbox hb
         have n0_ := Q0_ (Kd.S_below (upS HO_7) hb)
         have n1_ := Q0_ (Kd.R_below (upR HO_39) hb)
         have n2_ := Q0_ (below_step (upB HB) hb)
         have n3_ := Q0_ (hbox)
         have n4_ := Q0_ ((by rw [hg]; exact (below_size (upB HB)) : w.heap.size ≤ gb302))
         have n5_ := Q0_ ((by rw [hg]; exact (below_size (upB HB)) : w.heap.size ≤ gb302))
         clear HO_7 HO_39 HB; revert n0_ n1_ n2_ n3_ n4_ n5_; intro HO_7 HO_39 HB BK302 GW302 GE302
         clear hb hbox hg
         refine hK.out _ _ trivial (fun hHeld => ?_)
         clear hK K
         refine norm_ (a' := ?_) ?_ ?_
         rotate_left
         ·show Act.put _ (some 13) _ = _
          simp only [Act.put, sI, s0, sS, i64_w, i32_w]
          rfl
         exact norm_ (by simp only [putAll, Act.put, sI, s0, sS]) (hCont (gb302) _ ⟨(upR HO_39), (upS HO_7), (upK BK302), GW302.out, GE302.out, upH⟩)
        ·skip
         refine box_step ?hg (N := 13) ?hd (cs := #[.int .i64 0, .int .i64 0, .int .i64 0]) (t := 65) ?hr ?_; (case hd => rfl); (case hg => rfl); (case hr => first | (go_simp; done) | (go_simp; rfl))
         intro gb302 hg w50 hbox hb
         have n0_ := Q0_ (Kd.S_below (upS HO_7) hb)
         have n1_ := Q0_ (Kd.R_below (upR HO_39) hb)
         have n2_ := Q0_ (below_step (upB HB) hb)
         have n3_ := Q0_ (hbox)
         have n4_ := Q0_ ((by rw [hg]; exact (below_size (upB HB)) : w.heap.size ≤ gb302))
         have n5_ := Q0_ ((by rw [hg]; exact (below_size (upB HB)) : w.heap.size ≤ gb302))
         clear HO_7 HO_39 HB; revert n0_ n1_ n2_ n3_ n4_ n5_; intro HO_7 HO_39 HB BK302 GW302 GE302
         clear hb hbox hg
         refine hK.out _ _ trivial (fun hHeld => ?_)
         clear hK K
         refine norm_ (a' := ?_) ?_ ?_
         rotate_left
         ·show Act.put _ (some 13) _ = _
          simp only [Act.put, sI, s0, sS, i64_w, i32_w]
          rfl
         refine one_ (i := 7) (N := some 53) #[tt,tt,tt,tt,tt,tt,tt,tt,ff,ff,ff,tt,ff,ff] rfl rfl (one_of HT_.out (by kernel_rfl)) (by decide) (fun K hK => ?_)
         refine goes_ Try.func45 (by kernel_rfl) rfl #[en63W (rd t286 x41_3), .slice A48 y290.length c48, .slice A49 y294.length c49] (by rfl) rfl rfl hM ?_
         with_reducible refine (impl_useOf.calls k3 (rd t286 x41_3) _ _ y290 _ _ y294 t298 t299 t300 true _ ?side1 ?side2 ?side3 ?side4 A32.out).mono ?_
         (case side1 => repeat (first | exact (Kd.C_below HR293.out HB.out) | (with_reducible refine Kd.C_alloc ?_ _) | (with_reducible refine Kd.C_drewN ?_ _) | (with_reducible refine Kd.C_drew ?_)))
         (case side2 => exact HC293.out)
         (case side3 => repeat (first | exact (Kd.C_below HR297.out HB.out) | (with_reducible refine Kd.C_alloc ?_ _) | (with_reducible refine Kd.C_drewN ?_ _) | (with_reducible refine Kd.C_drew ?_)))
         (case side4 => exact HC297.out)
         rintro e w51 ⟨rfl, hb⟩
         refine ⟨_, rfl, ?_⟩
         have n0_ := Q0_ (Kd.S_below (upS HO_7) hb)
         have n1_ := Q0_ (Kd.R_below (upR HO_39) hb)
         have n2_ := Q0_ (blk_below (upK BK302) hb)
         have n3_ := Q0_ (below_step upH hb)
         clear HO_7 HO_39 BK302 HB; revert n0_ n1_ n2_ n3_; intro HO_7 HO_39 BK302 HB
         (try clear hb)
         (try clear hb2)
         (try clear hk)
         (try clear hi)
         refine hK.out _ _ trivial (fun hHeld => ?_)
         clear hK K
         refine norm_ (a' := ?_) ?_ ?_
         rotate_left
         ·show Act.put _ (some 53) _ = _
          simp only [Act.put, sI, s0, sS, i64_w, i32_w]
          rfl
         refine pQ HT_ 8 (some 45) #[tt,tt,tt,tt,tt,tt,tt,tt,tt,ff,ff,tt,ff,ff] rfl rfl ?_
         refine pQ HT_ 9 (some 54) #[tt,tt,tt,tt,tt,tt,tt,tt,tt,tt,ff,tt,ff,ff] rfl rfl ?_
         refine pQ HT_ 10 (some 55) #[tt,tt,tt,tt,tt,tt,tt,tt,tt,tt,tt,tt,ff,ff] rfl rfl ?_
         exact norm_ (by simp only [putAll, Act.put, sI, s0, sS]) (hCont (gb302) _ ⟨(upR HO_39), (upS HO_7), (upK BK302), GW302.out, GE302.out, upH⟩)
       rintro gb302 w52 ⟨h0_, h1_, h2_, h3_, h4_, h5_⟩
       try dsimp only at h0_ h1_ h2_ h3_ h4_ h5_
       have n0_ := Q0_ h0_
       have n1_ := Q0_ h1_
       have n2_ := Q0_ h2_
       have n3_ := Q0_ h3_
       have n4_ := Q0_ h4_
       have n5_ := Q0_ h5_
       clear HO_7
       clear HO_39
       clear HB
       clear h0_ h1_ h2_ h3_ h4_ h5_
       have HO_39 := n0_
       have HO_7 := n1_
       have BK302 := n2_
       have GW302 := n3_
       have GE302 := n4_
       have HB := n5_
       clear n0_ n1_ n2_ n3_ n4_ n5_
       have hHeld := trivial
       refine norm_ (a' := ?_) ?_ ?_
       rotate_left
       ·simp only [putAll, Act.put, sI, s0, sS]
        rfl
       refine one_ (i := 12) (N := none) #[tt,tt,tt,tt,tt,tt,tt,tt,tt,tt,tt,tt,tt,ff] rfl rfl (one_of HT_.out (by kernel_rfl)) (by decide) (fun K hK => ?_)
       have hs53 : w52.cell? ⟨gb302, 0, none⟩ = some (.int .i64 0) := (blk_cell BK302.out 0).trans rfl
       have hfs53 := blk_frozen BK302.out 0
       have hs54 : w52.cell? ⟨gb302, 1, none⟩ = some (.int .i64 0) := (blk_cell BK302.out 1).trans rfl
       have hfs54 := blk_frozen BK302.out 1
       have hs55 : w52.cell? ⟨gb302, 2, none⟩ = some (.int .i64 0) := (blk_cell BK302.out 2).trans rfl
       have hfs55 := blk_frozen BK302.out 2
       refine skip_ (w1 := ?_) (by rfl) rfl ?_ ?_
       rotate_left
       ·go_simp
        rfl
       refine hK.out _ _ trivial (fun hHeld => ?_)
       clear hK K
       refine pQ HT_ 13 (some 14) #[tt,tt,tt,tt,tt,tt,tt,tt,tt,tt,tt,tt,tt,tt] rfl rfl ?_
       refine done_ (done_of HT_.out (by kernel_rfl)) ?_
       try go_wp2
       have n0_ : Aside0 (Kd.S (Kd.slice 3 (Kd.int .i64)) 46 (((w52.setCell ⟨gb302, 0, none⟩ (.int .i64 t298)).setCell ⟨gb302, 1, none⟩ (.int .i64 t299)).setCell ⟨gb302, 2, none⟩ (.int .i64 t300)) w.heap.size (fun _ => True) (.slice (some ⟨go15, 0, none⟩) x7_3.length co15) x7_3) := ⟨by (with_reducible repeat (first | apply Kd.S_alloc | apply Kd.S_drewN | apply Kd.S_drew)); exact Kd.S_mono (Kd.S_far (p := ⟨gb302, 2, none⟩) (Kd.S_far (p := ⟨gb302, 1, none⟩) (Kd.S_far (p := ⟨gb302, 0, none⟩) (Kd.S_types HO_7.out BK302.out (by decide)) (fun _ hk => hk.2) (.int .i64 t298)) (fun _ hk => hk.2) (.int .i64 t299)) (fun _ hk => hk.2) (.int .i64 t300)) (fun _ hk => trivial)⟩
       have n1_ : Aside0 (Kd.R (Kd.scalar en63W en63_one) 63 (((w52.setCell ⟨gb302, 0, none⟩ (.int .i64 t298)).setCell ⟨gb302, 1, none⟩ (.int .i64 t299)).setCell ⟨gb302, 2, none⟩ (.int .i64 t300)) w.heap.size (fun _ => True) (.slice (some ad289) t286.length co24) t286) := ⟨by (with_reducible repeat (first | apply Kd.R_alloc | apply Kd.R_drewN | apply Kd.R_drew)); exact Kd.R_mono (Kd.R_far (p := ⟨gb302, 2, none⟩) (Kd.R_far (p := ⟨gb302, 1, none⟩) (Kd.R_far (p := ⟨gb302, 0, none⟩) (Kd.R_types HO_39.out BK302.out (by decide)) (fun _ hk => hk.2) (.int .i64 t298)) (fun _ hk => hk.2) (.int .i64 t299)) (fun _ hk => hk.2) (.int .i64 t300)) (fun _ hk => trivial)⟩
       have n2_ : Aside0 ((((w52.setCell ⟨gb302, 0, none⟩ (.int .i64 t298)).setCell ⟨gb302, 1, none⟩ (.int .i64 t299)).setCell ⟨gb302, 2, none⟩ (.int .i64 t300)).heap[gb302]? = some (.cells #[.int .i64 t298, .int .i64 t299, .int .i64 t300] 65 (0, 0))) := ⟨by (with_reducible repeat (first | refine blk_drewN ?_ _ | refine blk_drew ?_ | refine blk_alloc ?_ _)); refine blk_put (cs := #[.int .i64 t298, .int .i64 t299, .int .i64 0]) ?_ 2 _ rfl; (with_reducible repeat (first | refine blk_drewN ?_ _ | refine blk_drew ?_ | refine blk_alloc ?_ _)); refine blk_put (cs := #[.int .i64 t298, .int .i64 0, .int .i64 0]) ?_ 1 _ rfl; (with_reducible repeat (first | refine blk_drewN ?_ _ | refine blk_drew ?_ | refine blk_alloc ?_ _)); refine blk_put (cs := #[.int .i64 0, .int .i64 0, .int .i64 0]) ?_ 0 _ rfl; (with_reducible repeat (first | refine blk_drewN ?_ _ | refine blk_drew ?_ | refine blk_alloc ?_ _)); exact BK302.out⟩
       have n3_ : Aside0 (Below w.heap.size w (((w52.setCell ⟨gb302, 0, none⟩ (.int .i64 t298)).setCell ⟨gb302, 1, none⟩ (.int .i64 t299)).setCell ⟨gb302, 2, none⟩ (.int .i64 t300))) := ⟨by repeat (first | (with_reducible first | exact HB.out | apply below_alloc | apply pw_below_drewN | apply below_drew1 | refine below_set ?_ GE302.out) | exact HB.out)⟩
       (try clear HO_7)
       (try clear HO_39)
       (try clear BK302)
       (try clear HB)
       generalize (((w52.setCell ⟨gb302, 0, none⟩ (.int .i64 t298)).setCell ⟨gb302, 1, none⟩ (.int .i64 t299)).setCell ⟨gb302, 2, none⟩ (.int .i64 t300)) = w56 at n0_ n1_ n2_ n3_ ⊢
       have HO_7 := n0_
       have HO_39 := n1_
       have BK302 := n2_
       have HB := n3_
       clear n0_ n1_ n2_ n3_
       have n0_ := Q0_ (Kd.S_drew HO_7.out)
       have n1_ := Q0_ (Kd.R_drew HO_39.out)
       have n2_ := Q0_ (blk_drew BK302.out)
       have n3_ := Q0_ (below_drew1 HB.out)
       clear HO_7 HO_39 BK302 HB; revert n0_ n1_ n2_ n3_; intro HO_7 HO_39 BK302 HB
       have p304 : 0 ≤ ((ji35) : Int) := of_decide_eq_true aS
       have q304 : (ji35) < (x7_3.length : Int) := of_decide_eq_true aS
       obtain ⟨ad304, A304_0, c304_0, e304, hx304_0, hl304_0, hi304_0⟩ := at_L4 (Kd.S_reads' HO_7.out).2.2 (ji35) p304 q304
       obtain rfl : (⟨go15, 0, none⟩ : Addr) = ad304 := (by injection e304)
       obtain ⟨ce304, hce304, hMe304, hcc304⟩ := Kd.S_get HO_7.out [] (ji35) p304 (by first | exact q304 | exact of_decide_eq_true aS | (have e_ := (Kd.S_reads' HO_7.out).1; omega))
       obtain ⟨ve304_0, rfl, ge304_0⟩ := hMe304
       have hv304_0 := hcc304 0 _ rfl
       rw [Nat.add_zero, show ((Kd.slice 3 (Kd.int .i64))).sz = 1 from rfl, Nat.mul_one] at hv304_0
       replace hv304_0 := Option.some.inj (hv304_0.symm.trans hx304_0)
       rw [hv304_0] at ge304_0
       have HL304_0 := Q0_ (show Kd.R (Kd.int .i64) 3 _ _ _ _ (rd_L4 x7_3 (ji35)) from ge304_0)
       clear hv304_0 ge304_0
       have HX304_0 := Aside0.mk hx304_0
       clear hcc304 hce304
       (first | simp only [add_plain] at hx304_0 | simp only [add_at] at hx304_0 | simp only [Addr.add, Nat.zero_add] at hx304_0 | skip)
       have HR304_0 := Aside0.mk hi304_0
       have HC304_0 := Aside0.mk hl304_0
       clear hi304_0 hl304_0
       replace p304 := eq_true p304
       replace q304 := eq_true q304
       have p305 : 0 ≤ ((ji38) : Int) := of_decide_eq_true aS
       have q305 : (ji38) < ((rd_L4 x7_3 (ji35)).length : Int) := of_decide_eq_true aS
       obtain ⟨ad305, e305, hx305_0⟩ := Kd.at_int HR304_0.out (ji38) p305 q305
       cases e305
       replace p305 := eq_true p305
       replace q305 := eq_true q305
       refine start_ (n := 19) (S := fun w' => w'.cell? ⟨gb302, 0, none⟩ = some (.int .i64 t298) ∧ w'.cell? ⟨gb302, 1, none⟩ = some (.int .i64 t299) ∧ w'.cell? ⟨gb302, 2, none⟩ = some (.int .i64 t300) ∧ w'.cell? ⟨go15, ((ji35)).toNat, none⟩ = some (.slice (some ad305) (rd_L4 x7_3 (ji35)).length c304_0) ∧ w'.cell? (ad305.add ((ji38)).toNat) = some (.int .i64 (rd (rd_L4 x7_3 (ji35)) (ji38)))) (ds := []) #[ff,ff,ff,ff,ff,ff,ff,ff,ff,ff,ff,ff,ff,ff,ff,ff,ff,ff,ff] (by kernel_rfl) rfl rfl ⟨(blk_cell BK302.out 0).trans rfl, (blk_cell BK302.out 1).trans rfl, (blk_cell BK302.out 2).trans rfl, hx304_0, hx305_0⟩ (fun hHeld => ?_); refine with_tabW impl_leastSums_lessKept.tab15 impl_leastSums_lessKept.bits15 (fun HT_ HW_ => ?_)
       generalize w56.drew = w57 at HO_7 HO_39 BK302 HB HL304_0 HR304_0 HX304_0 hx304_0 hx305_0 hHeld ⊢
       refine pQ HT_ 0 (some 58) #[tt,ff,ff,ff,ff,ff,ff,ff,ff,ff,ff,ff,ff,ff,ff,ff,ff,ff,ff] rfl rfl ?_
       refine pQ HT_ 1 (some 59) #[tt,tt,ff,ff,ff,ff,ff,ff,ff,ff,ff,ff,ff,ff,ff,ff,ff,ff,ff] rfl rfl ?_
       refine pQ HT_ 4 (some 62) #[tt,tt,ff,ff,tt,ff,ff,ff,ff,ff,ff,ff,ff,ff,ff,ff,ff,ff,ff] rfl rfl ?_
       refine pQ HT_ 5 (some 63) #[tt,tt,ff,ff,tt,tt,ff,ff,ff,ff,ff,ff,ff,ff,ff,ff,ff,ff,ff] rfl rfl ?_
       refine pQ HT_ 6 (some 64) #[tt,tt,ff,ff,tt,tt,tt,ff,ff,ff,ff,ff,ff,ff,ff,ff,ff,ff,ff] rfl rfl ?_
       refine pQ HT_ 11 (some 69) #[tt,tt,ff,ff,tt,tt,tt,ff,ff,ff,ff,tt,ff,ff,ff,ff,ff,ff,ff] rfl rfl ?_
       refine pQ HT_ 12 (some 70) #[tt,tt,ff,ff,tt,tt,tt,ff,ff,ff,ff,tt,tt,ff,ff,ff,ff,ff,ff] rfl rfl ?_
       refine tQ HT_ HW_ 2 (some 60) #[tt,tt,tt,ff,tt,tt,tt,ff,ff,ff,ff,tt,tt,ff,ff,ff,ff,ff,ff] rfl rfl hHeld (by rintro w' ⟨s0, s1, s2, s3, s4⟩; go_simp; with_reducible rfl) ?_
       refine tQ HT_ HW_ 7 (some 65) #[tt,tt,tt,ff,tt,tt,tt,tt,ff,ff,ff,tt,tt,ff,ff,ff,ff,ff,ff] rfl rfl hHeld (by rintro w' ⟨s0, s1, s2, s3, s4⟩; go_simp; with_reducible rfl) ?_
       refine pQ HT_ 8 (some 66) #[tt,tt,tt,ff,tt,tt,tt,tt,tt,ff,ff,tt,tt,ff,ff,ff,ff,ff,ff] rfl rfl ?_
       refine pQ HT_ 9 (some 67) #[tt,tt,tt,ff,tt,tt,tt,tt,tt,tt,ff,tt,tt,ff,ff,ff,ff,ff,ff] rfl rfl ?_
       refine tQ HT_ HW_ 10 (some 68) #[tt,tt,tt,ff,tt,tt,tt,tt,tt,tt,tt,tt,tt,ff,ff,ff,ff,ff,ff] rfl rfl hHeld (by rintro w' ⟨s0, s1, s2, s3, s4⟩; go_simp; with_reducible rfl) ?_
       refine tQ HT_ HW_ 13 (some 71) #[tt,tt,tt,ff,tt,tt,tt,tt,tt,tt,tt,tt,tt,tt,ff,ff,ff,ff,ff] rfl rfl hHeld (by rintro w' ⟨s0, s1, s2, s3, s4⟩; go_simp; with_reducible rfl) ?_
       refine pQ HT_ 14 (some 72) #[tt,tt,tt,ff,tt,tt,tt,tt,tt,tt,tt,tt,tt,tt,tt,ff,ff,ff,ff] rfl rfl ?_
       refine pQ HT_ 15 (some 73) #[tt,tt,tt,ff,tt,tt,tt,tt,tt,tt,tt,tt,tt,tt,tt,tt,ff,ff,ff] rfl rfl ?_
       refine tQ HT_ HW_ 16 (some 74) #[tt,tt,tt,ff,tt,tt,tt,tt,tt,tt,tt,tt,tt,tt,tt,tt,tt,ff,ff] rfl rfl hHeld (by rintro w' ⟨s0, s1, s2, s3, s4⟩; go_simp; with_reducible rfl) ?_
       refine one_ (i := 3) (N := some 61) #[tt,tt,tt,tt,tt,tt,tt,tt,tt,tt,tt,tt,tt,tt,tt,tt,tt,ff,ff] rfl rfl (one_of HT_.out (by kernel_rfl)) (by decide) (fun K hK => ?_)
       refine goesF_ Try.func36 (by kernel_rfl) rfl #[en63W (rd t286 x41_3), .agg #[.int .i64 t298, .int .i64 t299, .int .i64 t300]] (by rfl) rfl rfl rfl hM ?_
       with_reducible refine (impl_lessKept.calls (rd t286 x41_3) t298 t299 t300 t303 _ A34.out).mono ?_
       rintro e w58 ⟨rfl, hb⟩
       have HS3_ := (hb.cell (World.block_lt_of_cell? _ _ (hHeld.2.2.2.1))).trans (hHeld.2.2.2.1)
       have HS4_ := (hb.cell (World.block_lt_of_cell? _ _ (hHeld.2.2.2.2))).trans (hHeld.2.2.2.2)
       refine ⟨_, rfl, ?_⟩
       have n0_ := Q0_ (Kd.S_below (upS HO_7) hb)
       have n1_ := Q0_ (Kd.R_below (upR HO_39) hb)
       have n2_ := Q0_ (Kd.R_below (upR HL304_0) hb)
       have n3_ := Q0_ (blk_below (upK BK302) hb)
       have n4_ := Q0_ (Kd.C_below (upC HR304_0) hb)
       have n5_ := Q0_ (pw_cell_below hb HX304_0.out)
       have n6_ := Q0_ (below_step upH hb)
       clear HO_7 HO_39 HL304_0 BK302 HR304_0 HX304_0 HB; revert n0_ n1_ n2_ n3_ n4_ n5_ n6_; intro HO_7 HO_39 HL304_0 BK302 HR304_0 HX304_0 HB
       (try clear hb)
       (try clear hb2)
       (try clear hk)
       (try clear hi)
       refine hK.out _ _ ⟨(blk_cell BK302.out 0).trans rfl, (blk_cell BK302.out 1).trans rfl, (blk_cell BK302.out 2).trans rfl, HS3_, HS4_⟩ (fun hHeld => ?_)
       clear hK K
       refine norm_ (a' := ?_) ?_ ?_
       rotate_left
       ·show Act.put _ (some 61) _ = _
        simp only [Act.put, sI, s0, sS, i64_w, i32_w]
        rfl
       refine pQ HT_ 17 (some 75) #[tt,tt,tt,tt,tt,tt,tt,tt,tt,tt,tt,tt,tt,tt,tt,tt,tt,tt,ff] rfl rfl ?_
       refine pQ HT_ 18 (some 15) #[tt,tt,tt,tt,tt,tt,tt,tt,tt,tt,tt,tt,tt,tt,tt,tt,tt,tt,tt] rfl rfl ?_
       refine done_ (done_of HT_.out (by kernel_rfl)) ?_
       have p306 : 0 ≤ (x8_1 : Int) := of_decide_eq_true aS
       have q306 : x8_1 < (x7_3.length : Int) := of_decide_eq_true aS
       obtain ⟨ad306, A306_0, c306_0, e306, hx306_0, hl306_0, hi306_0⟩ := at_L4 (Kd.S_reads' HO_7.out).2.2 x8_1 p306 q306
       obtain rfl : (⟨go15, 0, none⟩ : Addr) = ad306 := (by injection e306)
       obtain ⟨ce306, hce306, hMe306, hcc306⟩ := Kd.S_get HO_7.out [] x8_1 p306 (by first | exact q306 | exact of_decide_eq_true aS | (have e_ := (Kd.S_reads' HO_7.out).1; omega))
       obtain ⟨ve306_0, rfl, ge306_0⟩ := hMe306
       have hv306_0 := hcc306 0 _ rfl
       rw [Nat.add_zero, show ((Kd.slice 3 (Kd.int .i64))).sz = 1 from rfl, Nat.mul_one] at hv306_0
       replace hv306_0 := Option.some.inj (hv306_0.symm.trans hx306_0)
       rw [hv306_0] at ge306_0
       have HL306_0 := Q0_ (show Kd.R (Kd.int .i64) 3 _ _ _ _ (rd_L4 x7_3 x8_1) from ge306_0)
       clear hv306_0 ge306_0
       have HX306_0 := Aside0.mk hx306_0
       clear hcc306 hce306
       (first | simp only [add_plain] at hx306_0 | simp only [add_at] at hx306_0 | simp only [Addr.add, Nat.zero_add] at hx306_0 | skip)
       have HR306_0 := Aside0.mk hi306_0
       have HC306_0 := Aside0.mk hl306_0
       clear hi306_0 hl306_0
       replace p306 := eq_true p306
       replace q306 := eq_true q306
       have p307 : 0 ≤ (x9_2 : Int) := of_decide_eq_true aS
       have q307 : x9_2 < ((rd_L4 x7_3 x8_1).length : Int) := of_decide_eq_true aS
       obtain ⟨ad307, e307, hx307_0⟩ := Kd.at_int HR306_0.out x9_2 p307 q307
       cases e307
       replace p307 := eq_true p307
       replace q307 := eq_true q307
       have p45 : 0 ≤ (x8_1 : Int) := of_decide_eq_true aS
       have q45 : (x8_1 : Int) < ((x7_3.length : Int) : Int) := of_decide_eq_true aS
       replace p45 := eq_true p45
       replace q45 := eq_true q45
       have p46 : 0 ≤ (x9_2 : Int) := of_decide_eq_true aS
       have q46 : (x9_2 : Int) < (((rd_L4 x7_3 x8_1).length : Int) : Int) := of_decide_eq_true aS
       obtain ⟨go46, co46, eo46, gb46, gl46, cl46, HG46⟩ := Kd.R_form HL306_0.out (by omega)
       (first | cases eo46 | (injection eo46 with ea_ en_ ec_; (first | subst ea_ | (injection ea_ with ea_; subst ea_)); subst ec_; clear en_))
       have GB46 := Aside0.mk gb46
       have GG46 := Aside0.mk HG46
       clear gb46 gl46 HG46
       (first | simp only [add_plain] at hx307_0 | skip)
       obtain ⟨hx46_0, hf46_0⟩ := Kd.R_celln 0 HL306_0.out (x9_2 : Int) p46 q46
       replace p46 := eq_true p46
       replace q46 := eq_true q46
       have hq59 : (x8_1 : Int) < (x7_3.length : Int) := (by have h_ : (x8_1 : Int) < ((x7_3.length : Int) : Int) := of_decide_eq_true aS; first | exact h_ | (have e_ := (Kd.S_reads' HO_7.out).1; omega) | simpa only [List.length_set, List.length_set] using h_)
       obtain ⟨oki59, ce59, hcl59, hM59, hcc59, hok59, hbk59⟩ := Kd.S_borrow HO_7.out [] (x8_1 : Int) (of_decide_eq_true aS) hq59
       obtain ⟨ve59_0, rfl, ge59_0⟩ := hM59
       have hv59 := hcc59 0 _ rfl
       rw [Nat.add_zero, show ((Kd.slice 3 (Kd.int .i64))).sz = 1 from rfl, Nat.mul_one] at hv59
       replace hv59 := Option.some.inj (hv59.symm.trans HX306_0.out)
       subst hv59
       clear hcc59 hcl59
       replace ge59_0 := (show Kd.R (Kd.int .i64) 3 _ _ _ _ (rd_L4 x7_3 x8_1) from ge59_0)
       have HP59 := Kd.R_putg ge59_0 (x9_2 : Int) (wrap64 (t303 + (rd (rd_L4 x7_3 (ji35)) (ji38))))
       try go_wp2_with (first | ((with_reducible refine gate_store (t := 3) (p := 95) rfl ?_); refine store_event (t := 3) (p := 95) (v := ?vo_w60) (w1 := (w58.setCell ⟨go46, (x9_2 : Int).toNat, none⟩ (.int .i64 (wrap64 (t303 + (rd (rd_L4 x7_3 (ji35)) (ji38))))))) ?hg ?ho ?hn ?hr ?_; (case ho => rfl); (case hg => rfl); (case hn => rfl); (case hr => first | (go_simp; done) | (go_simp; rfl)); intro w60 hw; have hg : w58.grownBy w60 (some go46) := (by rw [hw]; exact HP59.2); have hz_ : Kd.R (Kd.int .i64) 3 w60 w.heap.size oki59 (.slice (some ⟨go46, 0, none⟩) (rd_L4 x7_3 x8_1).length c306_0) y308 := (by rw [hw, Ny308.out]; exact HP59.1); have hp_ : Kd.S (Kd.slice 3 (Kd.int .i64)) 46 w60 w.heap.size (fun _ => True) (.slice (some ⟨go15, 0, none⟩) x7_3.length co15) y310 := (by rw [Ny310.out]; exact hbk59 hg (fun k_ e_ => by injection e_ with e_; subst e_; exact ge59_0.1 _ rfl) (Kd.M_row hz_)); have hm_ := Kd.R_mono hz_ hok59; clear HP59 hbk59; have n0_ := Q0_ (hp_); have n1_ := Q0_ (Kd.R_over' (v := (.slice (some ⟨go46, 0, none⟩) (rd_L4 x7_3 x8_1).length c306_0)) (upR HO_39) (Kd.R_typed HL306_0.out) (by decide) hg); have n2_ := Q0_ (blk_grown (g := gb302) (o := .cells #[.int .i64 t298, .int .i64 t299, .int .i64 t300] 65 (0, 0)) (upK BK302) hg (Kd.R_ne HL306_0.out BK302.out (by decide))); have n3_ := Q0_ ((by rw [hw]; exact below_set (HB.out) GB46.out : Below w.heap.size w w60)); have n4_ := Q0_ (hm_); have n5_ := Q0_ ((Kd.R_reads' hm_).2.1); clear HO_7 HO_39 BK302 HB HL304_0 HL306_0; revert n0_ n1_ n2_ n3_ n4_ n5_; intro HO_7 HO_39 BK302 HB HL315 HC309; clear hg hw hp_ hz_ hm_ hok59))
       (try simp only [← hl7_3])
       first | go_roundg k3 | ((try simp only [← hji4] at H' ⊢); (try simp only [← hji10] at H' ⊢); (try simp only [← hji35] at H' ⊢); (try simp only [← hji38] at H' ⊢); go_roundg k3)
       case measure => have := HK1.out; have := HK2.out; have := HK3.out; omega
       case rel => exact ⟨(y310), (true), (wrap64 (x41_3 + 1)), eX, eX, H', ⟨by have := HK1.out; have := HK2.out; have := HK3.out; omega⟩, ⟨by (try simp only [hl7_2]); (try simp only [hl7_3]); (with_reducible repeat (first | apply Kd.S_alloc | apply Kd.S_drewN | apply Kd.S_drew)); exact HO_7.out⟩, ⟨by (try simp only [hl7_2]); (try simp only [hl7_3]); (with_reducible repeat (first | apply Kd.R_alloc | apply Kd.R_drewN | apply Kd.R_drew)); exact HO_39.out⟩, ⟨by repeat (first | (with_reducible first | exact HB.out | apply below_alloc | apply pw_below_drewN | apply below_drew1 | refine below_set ?_ GE302.out) | exact HB.out)⟩⟩
end Go.Proofs.Ythpeiboobnnfgaa.E
end
section
namespace Go.Proofs.Ythpeiboobnnfgaa.E
open Go.RowKit Go.Proofs.YthpeiboobnnfgaaW.PrintWords Go.Proofs.YthpeiboobnnfgaaW.PrintLast Go.Proofs.YthpeiboobnnfgaaW.PrintMore
attribute [local go_sem] max2_int min2_int max_two min_two max_three min_three max_four min_four
set_option linter.unusedVariables false
set_option linter.unusedSimpArgs false
attribute [local go_sem] en63_mk1 en63_mk2 en63_mk3 en63_mk4
attribute [local go_sem] str_leq_ str_gtr_ str_geq_
def impl_EditCommon.f (k : Nat) (l0 : List (S36)) (l1 : List (S36)) : Option (Int) := (impl_MelodyValid.f k l0).bind fun t317 => (if t317 = true then ((impl_MelodyValid.f k l1).bind fun t318 => (if t318 = true then ((impl_leastSums_lessKept.f k l0 l1).bind fun t319 => (if 0 < (t319.length : Int) then (if 0 < ((rd_L4 t319 0).length : Int) then (some (wrap64 (-(rd (rd_L4 t319 0) 0)))) else (none)) else (none))) else (some (-1)))) else (some (-1)))
set_option maxHeartbeats 8000000 in
set_option maxRecDepth 100000 in
theorem impl_EditCommon.calls (k : Nat) (A0 : Option Addr) (c0 : Nat) (l0 : List (S36)) (A1 : Option Addr) (c1 : Nat) (l1 : List (S36)) (r : Int) (w : World) (hr0 : Kd.C k36 w A0 l0.length l0) (hc0 : l0.length ≤ c0) (hr1 : Kd.C k36 w A1 l1.length l1) (hc1 : l1.length ≤ c1) (h : impl_EditCommon.f k l0 l1 = some r) :
  Calls Try.prog 16 #[.slice A0 l0.length c0, .slice A1 l1.length c1] w fun e w' => e = .returned (.int .i64 r) ∧ Below w.heap.size w w' := by
 have HR0 := Aside0.mk hr0
 have HC0 := Aside0.mk hc0
 clear hr0 hc0
 have HR1 := Aside0.mk hr1
 have HC1 := Aside0.mk hc1
 clear hr1 hc1
 have HB := Q0_ (Below.refl w.heap.size w)
 have H : ((impl_MelodyValid.f k l0).bind fun t317 => (if t317 = true then ((impl_MelodyValid.f k l1).bind fun t318 => (if t318 = true then ((impl_leastSums_lessKept.f k l0 l1).bind fun t319 => (if 0 < (t319.length : Int) then (if 0 < ((rd_L4 t319 0).length : Int) then (some (wrap64 (-(rd (rd_L4 t319 0) 0)))) else (none)) else (none))) else (some (-1)))) else (some (-1)))) = some r := h
 clear h
 obtain ⟨t317, A30, H⟩ := Option.bind_eq_some_iff.mp H
 try dsimp only at H
 have A3 := Aside0.mk A30
 clear A30
 by_cases c4 : t317 = true
 rotate_left
 ·replace c4 := Bool.eq_false_iff.mpr c4
  subst c4
  replace H := ifN ((show ¬ (false = true) by decide)) H
  obtain rfl := Option.some.inj H
  go_enter Try.func16, Try.ntmps16
  go_wp2_with (first | ((with_reducible refine gate_callee (f := 34) rfl ?_); refine goesL_ (some 6) rfl rfl Try.func34 (by kernel_rfl) rfl #[.slice A0 l0.length c0] rfl hM ?_; (with_reducible refine (impl_MelodyValid.calls k _ _ l0 false _ ?side1 ?side2 A3.out).mono ?_); (case side1 => repeat (first | exact HR0.out | (with_reducible refine Kd.C_alloc ?_ _) | (with_reducible refine Kd.C_drewN ?_ _) | (with_reducible refine Kd.C_drew ?_))); (case side2 => exact HC0.out); rintro e w16 ⟨rfl, hb⟩; refine ⟨_, rfl, ?_⟩; have n0_ := Q0_ (below_step (upB HB) hb); clear HB; revert n0_; intro HB; (try clear hb); (try clear hb2); (try clear hk); (try clear hi)))
  go_ret
  exact ⟨by first | rfl | (simp [errW_none, errW_some] <;> rfl) | (simp [*, errW_none, errW_some] <;> rfl), by repeat (first | (with_reducible first | exact HB.out | apply below_alloc | apply pw_below_drewN | apply below_drew1) | exact HB.out)⟩
 subst c4
 replace H := ifP (rfl) H
 obtain ⟨t318, A50, H⟩ := Option.bind_eq_some_iff.mp H
 try dsimp only at H
 have A5 := Aside0.mk A50
 clear A50
 by_cases c6 : t318 = true
 rotate_left
 ·replace c6 := Bool.eq_false_iff.mpr c6
  subst c6
  replace H := ifN ((show ¬ (false = true) by decide)) H
  obtain rfl := Option.some.inj H
  go_enter Try.func16, Try.ntmps16
  go_wp2_with (first | ((with_reducible refine gate_callee (f := 34) rfl ?_); refine goesL_ (some 6) rfl rfl Try.func34 (by kernel_rfl) rfl #[.slice A0 l0.length c0] rfl hM ?_; (with_reducible refine (impl_MelodyValid.calls k _ _ l0 true _ ?side1 ?side2 A3.out).mono ?_); (case side1 => repeat (first | exact HR0.out | (with_reducible refine Kd.C_alloc ?_ _) | (with_reducible refine Kd.C_drewN ?_ _) | (with_reducible refine Kd.C_drew ?_))); (case side2 => exact HC0.out); rintro e w14 ⟨rfl, hb⟩; refine ⟨_, rfl, ?_⟩; have n0_ := Q0_ (below_step (upB HB) hb); clear HB; revert n0_; intro HB; (try clear hb); (try clear hb2); (try clear hk); (try clear hi)) | (go_at_call 34; (with_reducible refine (impl_MelodyValid.calls k _ _ l1 false _ ?side1 ?side2 A5.out).mono ?_); (case side1 => repeat (first | exact (Kd.C_below HR1.out HB.out) | (with_reducible refine Kd.C_alloc ?_ _) | (with_reducible refine Kd.C_drewN ?_ _) | (with_reducible refine Kd.C_drew ?_))); (case side2 => exact HC1.out); rintro e w15 ⟨rfl, hb⟩; have n0_ := Q0_ (below_step (upB HB) hb); clear HB; revert n0_; intro HB; (try clear hb); (try clear hb2); (try clear hk); (try clear hi)))
  go_ret
  exact ⟨by first | rfl | (simp [errW_none, errW_some] <;> rfl) | (simp [*, errW_none, errW_some] <;> rfl), by repeat (first | (with_reducible first | exact HB.out | apply below_alloc | apply pw_below_drewN | apply below_drew1) | exact HB.out)⟩
 subst c6
 replace H := ifP (rfl) H
 obtain ⟨t319, A70, H⟩ := Option.bind_eq_some_iff.mp H
 try dsimp only at H
 have A7 := Aside0.mk A70
 clear A70
 by_cases c8 : 0 < (t319.length : Int)
 rotate_left
 ·rw [if_neg c8] at H
  exact absurd H (by simp)
 rw [if_pos c8] at H
 have c8b0 : decide (0 < (t319.length : Int)) = true := decide_eq_true c8
 have c8b1 : decide (0 < t319.length) = true := decide_eq_true (by omega)
 clear c8
 by_cases c9 : 0 < ((rd_L4 t319 0).length : Int)
 rotate_left
 ·rw [if_neg c9] at H
  exact absurd H (by simp)
 rw [if_pos c9] at H
 have c9b0 : decide (0 < ((rd_L4 t319 0).length : Int)) = true := decide_eq_true c9
 have c9b1 : decide (0 < (rd_L4 t319 0).length) = true := decide_eq_true (by omega)
 clear c9
 obtain rfl := Option.some.inj H
 go_enter Try.func16, Try.ntmps16
 go_wp2_with (first | ((with_reducible refine gate_callee (f := 34) rfl ?_); refine goesL_ (some 6) rfl rfl Try.func34 (by kernel_rfl) rfl #[.slice A0 l0.length c0] rfl hM ?_; (with_reducible refine (impl_MelodyValid.calls k _ _ l0 true _ ?side1 ?side2 A3.out).mono ?_); (case side1 => repeat (first | exact HR0.out | (with_reducible refine Kd.C_alloc ?_ _) | (with_reducible refine Kd.C_drewN ?_ _) | (with_reducible refine Kd.C_drew ?_))); (case side2 => exact HC0.out); rintro e w10 ⟨rfl, hb⟩; refine ⟨_, rfl, ?_⟩; have n0_ := Q0_ (below_step (upB HB) hb); clear HB; revert n0_; intro HB; (try clear hb); (try clear hb2); (try clear hk); (try clear hi)) | (go_at_call 34; (with_reducible refine (impl_MelodyValid.calls k _ _ l1 true _ ?side1 ?side2 A5.out).mono ?_); (case side1 => repeat (first | exact (Kd.C_below HR1.out HB.out) | (with_reducible refine Kd.C_alloc ?_ _) | (with_reducible refine Kd.C_drewN ?_ _) | (with_reducible refine Kd.C_drew ?_))); (case side2 => exact HC1.out); rintro e w11 ⟨rfl, hb⟩; have n0_ := Q0_ (below_step (upB HB) hb); clear HB; revert n0_; intro HB; (try clear hb); (try clear hb2); (try clear hk); (try clear hi)) | ((with_reducible refine gate_callee (f := 35) rfl ?_); refine goesL_ (some 15) rfl rfl Try.func35 (by kernel_rfl) rfl #[.slice A0 l0.length c0, .slice A1 l1.length c1, .func (.func 36) #[] #[]] rfl hM ?_; (with_reducible refine (impl_leastSums_lessKept.calls k _ _ l0 _ _ l1 t319 _ ?side1 ?side2 ?side3 ?side4 A7.out).mono ?_); (case side1 => repeat (first | exact (Kd.C_below HR0.out HB.out) | (with_reducible refine Kd.C_alloc ?_ _) | (with_reducible refine Kd.C_drewN ?_ _) | (with_reducible refine Kd.C_drew ?_))); (case side2 => exact HC0.out); (case side3 => repeat (first | exact (Kd.C_below HR1.out HB.out) | (with_reducible refine Kd.C_alloc ?_ _) | (with_reducible refine Kd.C_drewN ?_ _) | (with_reducible refine Kd.C_drew ?_))); (case side4 => exact HC1.out); rintro e w12 ⟨v320, rfl, ho0, hb⟩; refine ⟨_, rfl, ?_⟩; have n0_ := Q0_ (Kd.S_lower ho0 (below_size (upB HB))); have n1_ := Q0_ (below_step (upB HB) hb); clear HB; revert n0_ n1_; intro HO321 HB; (try clear hb); (try clear hb2); (try clear hk); (try clear hi); (try clear ho0); obtain ⟨Ao13, co13, eo13⟩ := Kd.S_slice HO321.out; subst eo13; have p322 : 0 ≤ (0 : Int) := (by omega); have q322 : 0 < (t319.length : Int) := of_decide_eq_true aS; obtain ⟨ad322, A322_0, c322_0, e322, hx322_0, hl322_0, hi322_0⟩ := at_L4 (Kd.S_reads' HO321.out).2.2 0 p322 q322; cases e322; obtain ⟨ce322, hce322, hMe322, hcc322⟩ := Kd.S_get HO321.out [] 0 p322 (by first | exact q322 | exact of_decide_eq_true aS | (have e_ := (Kd.S_reads' HO321.out).1; omega)); obtain ⟨ve322_0, rfl, ge322_0⟩ := hMe322; have hv322_0 := hcc322 0 _ rfl; rw [Nat.add_zero, show ((Kd.slice 3 (Kd.int .i64))).sz = 1 from rfl, Nat.mul_one] at hv322_0; replace hv322_0 := Option.some.inj (hv322_0.symm.trans hx322_0); rw [hv322_0] at ge322_0; have HL322_0 := Q0_ (show Kd.R (Kd.int .i64) 3 _ _ _ _ (rd_L4 t319 0) from ge322_0); clear hv322_0 ge322_0; clear hcc322 hce322; have qi322 : (0 < t319.length) = True := eq_true (by omega); (try rw [show ((0 : Int)).toNat = 0 from rfl] at hx322_0); (try rw [Addr.add_zero'] at hx322_0); have HR322_0 := Aside0.mk hi322_0; have HC322_0 := Aside0.mk hl322_0; clear hi322_0 hl322_0; replace p322 := eq_true p322; replace q322 := eq_true q322; have p323 : 0 ≤ (0 : Int) := (by omega); have q323 : 0 < ((rd_L4 t319 0).length : Int) := of_decide_eq_true aS; obtain ⟨ad323, e323, hx323_0⟩ := Kd.at_int HR322_0.out 0 p323 q323; cases e323; have qi323 : (0 < (rd_L4 t319 0).length) = True := eq_true (by omega); (try rw [show ((0 : Int)).toNat = 0 from rfl] at hx323_0); (try rw [Addr.add_zero'] at hx323_0); replace p323 := eq_true p323; replace q323 := eq_true q323))
 go_ret
 exact ⟨by first | rfl | (simp [errW_none, errW_some] <;> rfl) | (simp [*, errW_none, errW_some] <;> rfl), by repeat (first | (with_reducible first | exact HB.out | apply below_alloc | apply pw_below_drewN | apply below_drew1) | exact HB.out)⟩
end Go.Proofs.Ythpeiboobnnfgaa.E
end
section
namespace Go.Proofs.Ythpeiboobnnfgaa.E
open Go.RowKit Go.Proofs.YthpeiboobnnfgaaW.PrintWords Go.Proofs.YthpeiboobnnfgaaW.PrintLast Go.Proofs.YthpeiboobnnfgaaW.PrintMore
attribute [local go_sem] max2_int min2_int max_two min_two max_three min_three max_four min_four
set_option linter.unusedVariables false
set_option linter.unusedSimpArgs false
attribute [local go_sem] en63_mk1 en63_mk2 en63_mk3 en63_mk4
attribute [local go_sem] str_leq_ str_gtr_ str_geq_
def impl_EditCost.f (k : Nat) (l0 : List (S36)) (l1 : List (S36)) : Option (Int) := (impl_MelodyValid.f k l0).bind fun t324 => (if t324 = true then ((impl_MelodyValid.f k l1).bind fun t325 => (if t325 = true then ((impl_leastSums_costOf.f k l0 l1).bind fun t326 => (if 0 < (t326.length : Int) then (if 0 < ((rd_L4 t326 0).length : Int) then (some (rd (rd_L4 t326 0) 0)) else (none)) else (none))) else (some (-1)))) else (some (-1)))
set_option maxHeartbeats 8000000 in
set_option maxRecDepth 100000 in
theorem impl_EditCost.calls (k : Nat) (A0 : Option Addr) (c0 : Nat) (l0 : List (S36)) (A1 : Option Addr) (c1 : Nat) (l1 : List (S36)) (r : Int) (w : World) (hr0 : Kd.C k36 w A0 l0.length l0) (hc0 : l0.length ≤ c0) (hr1 : Kd.C k36 w A1 l1.length l1) (hc1 : l1.length ≤ c1) (h : impl_EditCost.f k l0 l1 = some r) :
  Calls Try.prog 19 #[.slice A0 l0.length c0, .slice A1 l1.length c1] w fun e w' => e = .returned (.int .i64 r) ∧ Below w.heap.size w w' := by
 have HR0 := Aside0.mk hr0
 have HC0 := Aside0.mk hc0
 clear hr0 hc0
 have HR1 := Aside0.mk hr1
 have HC1 := Aside0.mk hc1
 clear hr1 hc1
 have HB := Q0_ (Below.refl w.heap.size w)
 have H : ((impl_MelodyValid.f k l0).bind fun t324 => (if t324 = true then ((impl_MelodyValid.f k l1).bind fun t325 => (if t325 = true then ((impl_leastSums_costOf.f k l0 l1).bind fun t326 => (if 0 < (t326.length : Int) then (if 0 < ((rd_L4 t326 0).length : Int) then (some (rd (rd_L4 t326 0) 0)) else (none)) else (none))) else (some (-1)))) else (some (-1)))) = some r := h
 clear h
 obtain ⟨t324, A30, H⟩ := Option.bind_eq_some_iff.mp H
 try dsimp only at H
 have A3 := Aside0.mk A30
 clear A30
 by_cases c4 : t324 = true
 rotate_left
 ·replace c4 := Bool.eq_false_iff.mpr c4
  subst c4
  replace H := ifN ((show ¬ (false = true) by decide)) H
  obtain rfl := Option.some.inj H
  go_enter Try.func19, Try.ntmps19
  go_wp2_with (first | ((with_reducible refine gate_callee (f := 34) rfl ?_); refine goesL_ (some 6) rfl rfl Try.func34 (by kernel_rfl) rfl #[.slice A0 l0.length c0] rfl hM ?_; (with_reducible refine (impl_MelodyValid.calls k _ _ l0 false _ ?side1 ?side2 A3.out).mono ?_); (case side1 => repeat (first | exact HR0.out | (with_reducible refine Kd.C_alloc ?_ _) | (with_reducible refine Kd.C_drewN ?_ _) | (with_reducible refine Kd.C_drew ?_))); (case side2 => exact HC0.out); rintro e w16 ⟨rfl, hb⟩; refine ⟨_, rfl, ?_⟩; have n0_ := Q0_ (below_step (upB HB) hb); clear HB; revert n0_; intro HB; (try clear hb); (try clear hb2); (try clear hk); (try clear hi)))
  go_ret
  exact ⟨by first | rfl | (simp [errW_none, errW_some] <;> rfl) | (simp [*, errW_none, errW_some] <;> rfl), by repeat (first | (with_reducible first | exact HB.out | apply below_alloc | apply pw_below_drewN | apply below_drew1) | exact HB.out)⟩
 subst c4
 replace H := ifP (rfl) H
 obtain ⟨t325, A50, H⟩ := Option.bind_eq_some_iff.mp H
 try dsimp only at H
 have A5 := Aside0.mk A50
 clear A50
 by_cases c6 : t325 = true
 rotate_left
 ·replace c6 := Bool.eq_false_iff.mpr c6
  subst c6
  replace H := ifN ((show ¬ (false = true) by decide)) H
  obtain rfl := Option.some.inj H
  go_enter Try.func19, Try.ntmps19
  go_wp2_with (first | ((with_reducible refine gate_callee (f := 34) rfl ?_); refine goesL_ (some 6) rfl rfl Try.func34 (by kernel_rfl) rfl #[.slice A0 l0.length c0] rfl hM ?_; (with_reducible refine (impl_MelodyValid.calls k _ _ l0 true _ ?side1 ?side2 A3.out).mono ?_); (case side1 => repeat (first | exact HR0.out | (with_reducible refine Kd.C_alloc ?_ _) | (with_reducible refine Kd.C_drewN ?_ _) | (with_reducible refine Kd.C_drew ?_))); (case side2 => exact HC0.out); rintro e w14 ⟨rfl, hb⟩; refine ⟨_, rfl, ?_⟩; have n0_ := Q0_ (below_step (upB HB) hb); clear HB; revert n0_; intro HB; (try clear hb); (try clear hb2); (try clear hk); (try clear hi)) | (go_at_call 34; (with_reducible refine (impl_MelodyValid.calls k _ _ l1 false _ ?side1 ?side2 A5.out).mono ?_); (case side1 => repeat (first | exact (Kd.C_below HR1.out HB.out) | (with_reducible refine Kd.C_alloc ?_ _) | (with_reducible refine Kd.C_drewN ?_ _) | (with_reducible refine Kd.C_drew ?_))); (case side2 => exact HC1.out); rintro e w15 ⟨rfl, hb⟩; have n0_ := Q0_ (below_step (upB HB) hb); clear HB; revert n0_; intro HB; (try clear hb); (try clear hb2); (try clear hk); (try clear hi)))
  go_ret
  exact ⟨by first | rfl | (simp [errW_none, errW_some] <;> rfl) | (simp [*, errW_none, errW_some] <;> rfl), by repeat (first | (with_reducible first | exact HB.out | apply below_alloc | apply pw_below_drewN | apply below_drew1) | exact HB.out)⟩
 subst c6
 replace H := ifP (rfl) H
 obtain ⟨t326, A70, H⟩ := Option.bind_eq_some_iff.mp H
 try dsimp only at H
 have A7 := Aside0.mk A70
 clear A70
 by_cases c8 : 0 < (t326.length : Int)
 rotate_left
 ·rw [if_neg c8] at H
  exact absurd H (by simp)
 rw [if_pos c8] at H
 have c8b0 : decide (0 < (t326.length : Int)) = true := decide_eq_true c8
 have c8b1 : decide (0 < t326.length) = true := decide_eq_true (by omega)
 clear c8
 by_cases c9 : 0 < ((rd_L4 t326 0).length : Int)
 rotate_left
 ·rw [if_neg c9] at H
  exact absurd H (by simp)
 rw [if_pos c9] at H
 have c9b0 : decide (0 < ((rd_L4 t326 0).length : Int)) = true := decide_eq_true c9
 have c9b1 : decide (0 < (rd_L4 t326 0).length) = true := decide_eq_true (by omega)
 clear c9
 obtain rfl := Option.some.inj H
 go_enter Try.func19, Try.ntmps19
 go_wp2_with (first | ((with_reducible refine gate_callee (f := 34) rfl ?_); refine goesL_ (some 6) rfl rfl Try.func34 (by kernel_rfl) rfl #[.slice A0 l0.length c0] rfl hM ?_; (with_reducible refine (impl_MelodyValid.calls k _ _ l0 true _ ?side1 ?side2 A3.out).mono ?_); (case side1 => repeat (first | exact HR0.out | (with_reducible refine Kd.C_alloc ?_ _) | (with_reducible refine Kd.C_drewN ?_ _) | (with_reducible refine Kd.C_drew ?_))); (case side2 => exact HC0.out); rintro e w10 ⟨rfl, hb⟩; refine ⟨_, rfl, ?_⟩; have n0_ := Q0_ (below_step (upB HB) hb); clear HB; revert n0_; intro HB; (try clear hb); (try clear hb2); (try clear hk); (try clear hi)) | (go_at_call 34; (with_reducible refine (impl_MelodyValid.calls k _ _ l1 true _ ?side1 ?side2 A5.out).mono ?_); (case side1 => repeat (first | exact (Kd.C_below HR1.out HB.out) | (with_reducible refine Kd.C_alloc ?_ _) | (with_reducible refine Kd.C_drewN ?_ _) | (with_reducible refine Kd.C_drew ?_))); (case side2 => exact HC1.out); rintro e w11 ⟨rfl, hb⟩; have n0_ := Q0_ (below_step (upB HB) hb); clear HB; revert n0_; intro HB; (try clear hb); (try clear hb2); (try clear hk); (try clear hi)) | ((with_reducible refine gate_callee (f := 35) rfl ?_); refine goesL_ (some 15) rfl rfl Try.func35 (by kernel_rfl) rfl #[.slice A0 l0.length c0, .slice A1 l1.length c1, .func (.func 39) #[] #[]] rfl hM ?_; (with_reducible refine (impl_leastSums_costOf.calls k _ _ l0 _ _ l1 t326 _ ?side1 ?side2 ?side3 ?side4 A7.out).mono ?_); (case side1 => repeat (first | exact (Kd.C_below HR0.out HB.out) | (with_reducible refine Kd.C_alloc ?_ _) | (with_reducible refine Kd.C_drewN ?_ _) | (with_reducible refine Kd.C_drew ?_))); (case side2 => exact HC0.out); (case side3 => repeat (first | exact (Kd.C_below HR1.out HB.out) | (with_reducible refine Kd.C_alloc ?_ _) | (with_reducible refine Kd.C_drewN ?_ _) | (with_reducible refine Kd.C_drew ?_))); (case side4 => exact HC1.out); rintro e w12 ⟨v327, rfl, ho0, hb⟩; refine ⟨_, rfl, ?_⟩; have n0_ := Q0_ (Kd.S_lower ho0 (below_size (upB HB))); have n1_ := Q0_ (below_step (upB HB) hb); clear HB; revert n0_ n1_; intro HO328 HB; (try clear hb); (try clear hb2); (try clear hk); (try clear hi); (try clear ho0); obtain ⟨Ao13, co13, eo13⟩ := Kd.S_slice HO328.out; subst eo13; have p329 : 0 ≤ (0 : Int) := (by omega); have q329 : 0 < (t326.length : Int) := of_decide_eq_true aS; obtain ⟨ad329, A329_0, c329_0, e329, hx329_0, hl329_0, hi329_0⟩ := at_L4 (Kd.S_reads' HO328.out).2.2 0 p329 q329; cases e329; obtain ⟨ce329, hce329, hMe329, hcc329⟩ := Kd.S_get HO328.out [] 0 p329 (by first | exact q329 | exact of_decide_eq_true aS | (have e_ := (Kd.S_reads' HO328.out).1; omega)); obtain ⟨ve329_0, rfl, ge329_0⟩ := hMe329; have hv329_0 := hcc329 0 _ rfl; rw [Nat.add_zero, show ((Kd.slice 3 (Kd.int .i64))).sz = 1 from rfl, Nat.mul_one] at hv329_0; replace hv329_0 := Option.some.inj (hv329_0.symm.trans hx329_0); rw [hv329_0] at ge329_0; have HL329_0 := Q0_ (show Kd.R (Kd.int .i64) 3 _ _ _ _ (rd_L4 t326 0) from ge329_0); clear hv329_0 ge329_0; clear hcc329 hce329; have qi329 : (0 < t326.length) = True := eq_true (by omega); (try rw [show ((0 : Int)).toNat = 0 from rfl] at hx329_0); (try rw [Addr.add_zero'] at hx329_0); have HR329_0 := Aside0.mk hi329_0; have HC329_0 := Aside0.mk hl329_0; clear hi329_0 hl329_0; replace p329 := eq_true p329; replace q329 := eq_true q329; have p330 : 0 ≤ (0 : Int) := (by omega); have q330 : 0 < ((rd_L4 t326 0).length : Int) := of_decide_eq_true aS; obtain ⟨ad330, e330, hx330_0⟩ := Kd.at_int HR329_0.out 0 p330 q330; cases e330; have qi330 : (0 < (rd_L4 t326 0).length) = True := eq_true (by omega); (try rw [show ((0 : Int)).toNat = 0 from rfl] at hx330_0); (try rw [Addr.add_zero'] at hx330_0); replace p330 := eq_true p330; replace q330 := eq_true q330))
 go_ret
 exact ⟨by first | rfl | (simp [errW_none, errW_some] <;> rfl) | (simp [*, errW_none, errW_some] <;> rfl), by repeat (first | (with_reducible first | exact HB.out | apply below_alloc | apply pw_below_drewN | apply below_drew1) | exact HB.out)⟩
end Go.Proofs.Ythpeiboobnnfgaa.E
end
section
namespace Go.Proofs.Ythpeiboobnnfgaa.E
open Go.RowKit Go.Proofs.YthpeiboobnnfgaaW.PrintWords Go.Proofs.YthpeiboobnnfgaaW.PrintLast Go.Proofs.YthpeiboobnnfgaaW.PrintMore
attribute [local go_sem] max2_int min2_int max_two min_two max_three min_three max_four min_four
set_option linter.unusedVariables false
set_option linter.unusedSimpArgs false
attribute [local go_sem] en63_mk1 en63_mk2 en63_mk3 en63_mk4
attribute [local go_sem] str_leq_ str_gtr_ str_geq_
def spec_l1Letter.f (a0 : Int) : Option (Int) := some (Int.tmod a0 7)
set_option maxHeartbeats 8000000 in
set_option maxRecDepth 100000 in
theorem spec_l1Letter.calls (a0 : Int) (r : Int) (w : World) (h : spec_l1Letter.f a0 = some r) :
  Calls Try.prog 52 #[.int .i64 a0] w fun e w' => e = .returned (.int .i64 r) ∧ Drawn0 w w' := by
 have H : (some (Int.tmod a0 7)) = some r := h
 clear h
 obtain rfl := Option.some.inj H
 go_enter Try.func52, Try.ntmps52
 go_wp2
 go_ret
 exact ⟨by first | rfl | (simp; done) | (simp [*]; done), by repeat (first | exact Drawn0.refl _ | apply Drawn0.step)⟩
end Go.Proofs.Ythpeiboobnnfgaa.E
end
section
namespace Go.Proofs.Ythpeiboobnnfgaa.E
open Go.RowKit Go.Proofs.YthpeiboobnnfgaaW.PrintWords Go.Proofs.YthpeiboobnnfgaaW.PrintLast Go.Proofs.YthpeiboobnnfgaaW.PrintMore
attribute [local go_sem] max2_int min2_int max_two min_two max_three min_three max_four min_four
set_option linter.unusedVariables false
set_option linter.unusedSimpArgs false
attribute [local go_sem] en63_mk1 en63_mk2 en63_mk3 en63_mk4
attribute [local go_sem] str_leq_ str_gtr_ str_geq_
def spec_l6In.f (a0 : Int) (a1 : Int) (a2 : Int) : Option (Bool) := if a0 ≥ a1 then (some (decide (a0 ≤ a2))) else (some false)
set_option maxHeartbeats 8000000 in
set_option maxRecDepth 100000 in
theorem spec_l6In.calls (a0 : Int) (a1 : Int) (a2 : Int) (r : Bool) (w : World) (h : spec_l6In.f a0 a1 a2 = some r) :
  Calls Try.prog 54 #[.int .i64 a0, .int .i64 a1, .int .i64 a2] w fun e w' => e = .returned (.bool r) ∧ Drawn0 w w' := by
 have H : (if a0 ≥ a1 then (some (decide (a0 ≤ a2))) else (some false)) = some r := h
 clear h
 by_cases c4 : a0 ≥ a1
 ·rw [if_pos c4] at H
  have c4b0 : decide (a1 ≤ a0) = true := decide_eq_true c4
  clear c4
  obtain rfl := Option.some.inj H
  go_enter Try.func54, Try.ntmps54
  go_wp2
  go_ret
  exact ⟨by first | rfl | (simp; done) | (simp [*]; done), by repeat (first | exact Drawn0.refl _ | apply Drawn0.step)⟩
 rw [if_neg c4] at H
 have c4b0 : decide (a1 ≤ a0) = false := decide_eq_false c4
 clear c4
 obtain rfl := Option.some.inj H
 go_enter Try.func54, Try.ntmps54
 go_wp2
 go_ret
 exact ⟨by first | rfl | (simp; done) | (simp [*]; done), by repeat (first | exact Drawn0.refl _ | apply Drawn0.step)⟩
end Go.Proofs.Ythpeiboobnnfgaa.E
end
section
namespace Go.Proofs.Ythpeiboobnnfgaa.E
open Go.RowKit Go.Proofs.YthpeiboobnnfgaaW.PrintWords Go.Proofs.YthpeiboobnnfgaaW.PrintLast Go.Proofs.YthpeiboobnnfgaaW.PrintMore
attribute [local go_sem] max2_int min2_int max_two min_two max_three min_three max_four min_four
set_option linter.unusedVariables false
set_option linter.unusedSimpArgs false
attribute [local go_sem] en63_mk1 en63_mk2 en63_mk3 en63_mk4
attribute [local go_sem] str_leq_ str_gtr_ str_geq_
def spec_ToneValid.f (a0_0 : Int) (a0_1 : Bool) : Option (Bool) := (spec_l6In.f a0_0 0 20).bind fun t117 => (if t117 = true then (if a0_1 = true then ((spec_l1Letter.f a0_0).bind fun t118 => (some (t118 == 2))) else (some true)) else (some false))
set_option maxHeartbeats 8000000 in
set_option maxRecDepth 100000 in
theorem spec_ToneValid.calls (a0_0 : Int) (a0_1 : Bool) (r : Bool) (w : World) (h : spec_ToneValid.f a0_0 a0_1 = some r) :
  Calls Try.prog 47 #[.agg #[.int .i64 a0_0, .bool a0_1]] w fun e w' => e = .returned (.bool r) ∧ Below w.heap.size w w' := by
 have hu36 := Try.underlying36
 have HB := Q0_ (Below.refl w.heap.size w)
 have H : ((spec_l6In.f a0_0 0 20).bind fun t117 => (if t117 = true then (if a0_1 = true then ((spec_l1Letter.f a0_0).bind fun t118 => (some (t118 == 2))) else (some true)) else (some false))) = some r := h
 clear h
 obtain ⟨t117, A20, H⟩ := Option.bind_eq_some_iff.mp H
 try dsimp only at H
 have A2 := Aside0.mk A20
 clear A20
 by_cases c3 : t117 = true
 rotate_left
 ·replace c3 := Bool.eq_false_iff.mpr c3
  subst c3
  replace H := ifN ((show ¬ (false = true) by decide)) H
  obtain rfl := Option.some.inj H
  go_enter Try.func47, Try.ntmps47
  go_wp2_with (first | ((with_reducible refine gate_dst (N := 1) rfl ?_); refine box_event ?hg (N := 1) ?hd (cs := #[.int .i64 a0_0, .bool a0_1]) (t := 36) ?hr ?_; (case hd => rfl); (case hg => rfl); (case hr => first | (go_simp; done) | (go_simp; rfl)); intro gb116 hg w10 hbox hb; have n0_ := Q0_ (below_step (upB HB) hb); have n1_ := Q0_ (hbox); have n2_ := Q0_ ((by rw [hg]; exact (below_size (upB HB)) : w.heap.size ≤ gb116)); have n3_ := Q0_ ((by rw [hg]; exact (below_size (upB HB)) : w.heap.size ≤ gb116)); clear HB; revert n0_ n1_ n2_ n3_; intro HB BK116 GW116 GE116; clear hb hbox hg; have hcz11_0 : w10.cell? ⟨gb116, 0, none⟩ = some (.int .i64 a0_0) := (blk_cell BK116.out 0).trans rfl; have hcz11_1 : w10.cell? ⟨gb116, 1, none⟩ = some (.bool a0_1) := (blk_cell BK116.out 1).trans rfl; have hfz11_0 := blk_frozen BK116.out 0; have hfz11_1 := blk_frozen BK116.out 1) | ((with_reducible refine gate_callee (f := 54) rfl ?_); refine goesL_ (some 5) rfl rfl Try.func54 (by kernel_rfl) rfl #[.int .i64 a0_0, .int .i64 0, .int .i64 20] rfl hM ?_; (with_reducible refine (spec_l6In.calls a0_0 0 20 false _ A2.out).mono ?_); rintro e w' ⟨rfl, ⟨nd, rfl⟩⟩; refine ⟨_, rfl, ?_⟩))
  go_ret
  exact ⟨by first | rfl | (simp [errW_none, errW_some] <;> rfl) | (simp [*, errW_none, errW_some] <;> rfl), by repeat (first | (with_reducible first | exact HB.out | apply below_alloc | apply pw_below_drewN | apply below_drew1 | refine below_set ?_ GE116.out) | exact HB.out)⟩
 subst c3
 replace H := ifP (rfl) H
 by_cases c4 : a0_1 = true
 rotate_left
 ·replace c4 := Bool.eq_false_iff.mpr c4
  subst c4
  replace H := ifN ((show ¬ (false = true) by decide)) H
  obtain rfl := Option.some.inj H
  go_enter Try.func47, Try.ntmps47
  go_wp2_with (first | ((with_reducible refine gate_dst (N := 1) rfl ?_); refine box_event ?hg (N := 1) ?hd (cs := #[.int .i64 a0_0, .bool false]) (t := 36) ?hr ?_; (case hd => rfl); (case hg => rfl); (case hr => first | (go_simp; done) | (go_simp; rfl)); intro gb116 hg w8 hbox hb; have n0_ := Q0_ (below_step (upB HB) hb); have n1_ := Q0_ (hbox); have n2_ := Q0_ ((by rw [hg]; exact (below_size (upB HB)) : w.heap.size ≤ gb116)); have n3_ := Q0_ ((by rw [hg]; exact (below_size (upB HB)) : w.heap.size ≤ gb116)); clear HB; revert n0_ n1_ n2_ n3_; intro HB BK116 GW116 GE116; clear hb hbox hg; have hcz9_0 : w8.cell? ⟨gb116, 0, none⟩ = some (.int .i64 a0_0) := (blk_cell BK116.out 0).trans rfl; have hcz9_1 : w8.cell? ⟨gb116, 1, none⟩ = some (.bool false) := (blk_cell BK116.out 1).trans rfl; have hfz9_0 := blk_frozen BK116.out 0; have hfz9_1 := blk_frozen BK116.out 1) | ((with_reducible refine gate_callee (f := 54) rfl ?_); refine goesL_ (some 5) rfl rfl Try.func54 (by kernel_rfl) rfl #[.int .i64 a0_0, .int .i64 0, .int .i64 20] rfl hM ?_; (with_reducible refine (spec_l6In.calls a0_0 0 20 true _ A2.out).mono ?_); rintro e w' ⟨rfl, ⟨nd, rfl⟩⟩; refine ⟨_, rfl, ?_⟩))
  go_ret
  exact ⟨by first | rfl | (simp [errW_none, errW_some] <;> rfl) | (simp [*, errW_none, errW_some] <;> rfl), by repeat (first | (with_reducible first | exact HB.out | apply below_alloc | apply pw_below_drewN | apply below_drew1 | refine below_set ?_ GE116.out) | exact HB.out)⟩
 subst c4
 replace H := ifP (rfl) H
 obtain ⟨t118, A50, H⟩ := Option.bind_eq_some_iff.mp H
 try dsimp only at H
 have A5 := Aside0.mk A50
 clear A50
 obtain rfl := Option.some.inj H
 go_enter Try.func47, Try.ntmps47
 go_wp2_with (first | ((with_reducible refine gate_dst (N := 1) rfl ?_); refine box_event ?hg (N := 1) ?hd (cs := #[.int .i64 a0_0, .bool true]) (t := 36) ?hr ?_; (case hd => rfl); (case hg => rfl); (case hr => first | (go_simp; done) | (go_simp; rfl)); intro gb116 hg w6 hbox hb; have n0_ := Q0_ (below_step (upB HB) hb); have n1_ := Q0_ (hbox); have n2_ := Q0_ ((by rw [hg]; exact (below_size (upB HB)) : w.heap.size ≤ gb116)); have n3_ := Q0_ ((by rw [hg]; exact (below_size (upB HB)) : w.heap.size ≤ gb116)); clear HB; revert n0_ n1_ n2_ n3_; intro HB BK116 GW116 GE116; clear hb hbox hg; have hcz7_0 : w6.cell? ⟨gb116, 0, none⟩ = some (.int .i64 a0_0) := (blk_cell BK116.out 0).trans rfl; have hcz7_1 : w6.cell? ⟨gb116, 1, none⟩ = some (.bool true) := (blk_cell BK116.out 1).trans rfl; have hfz7_0 := blk_frozen BK116.out 0; have hfz7_1 := blk_frozen BK116.out 1) | ((with_reducible refine gate_callee (f := 54) rfl ?_); refine goesL_ (some 5) rfl rfl Try.func54 (by kernel_rfl) rfl #[.int .i64 a0_0, .int .i64 0, .int .i64 20] rfl hM ?_; (with_reducible refine (spec_l6In.calls a0_0 0 20 true _ A2.out).mono ?_); rintro e w' ⟨rfl, ⟨nd, rfl⟩⟩; refine ⟨_, rfl, ?_⟩) | (go_at_call 52; (with_reducible refine (spec_l1Letter.calls a0_0 t118 _ A5.out).mono ?_); rintro e w' ⟨rfl, ⟨nd, rfl⟩⟩))
 go_ret
 exact ⟨by first | rfl | (simp [errW_none, errW_some] <;> rfl) | (simp [*, errW_none, errW_some] <;> rfl), by repeat (first | (with_reducible first | exact HB.out | apply below_alloc | apply pw_below_drewN | apply below_drew1 | refine below_set ?_ GE116.out) | exact HB.out)⟩
end Go.Proofs.Ythpeiboobnnfgaa.E
end
section
namespace Go.Proofs.Ythpeiboobnnfgaa.E
open Go.RowKit Go.Proofs.YthpeiboobnnfgaaW.PrintWords Go.Proofs.YthpeiboobnnfgaaW.PrintLast Go.Proofs.YthpeiboobnnfgaaW.PrintMore
attribute [local go_sem] max2_int min2_int max_two min_two max_three min_three max_four min_four
set_option linter.unusedVariables false
set_option linter.unusedSimpArgs false
attribute [local go_sem] en63_mk1 en63_mk2 en63_mk3 en63_mk4
attribute [local go_sem] str_leq_ str_gtr_ str_geq_
def spec_MelodyValid.l0 : Nat → List (S36) → Int → Option (Bool)
 | 0, _, _ => none
 | k + 1, x0, x3 => if x3 < (x0.length : Int) then (if 0 ≤ x3 then ((spec_ToneValid.f ((rd_T36 x0 x3).f0) ((rd_T36 x0 x3).f1)).bind fun t120 => (if t120 = true then (spec_MelodyValid.l0 k x0 (wrap64 (x3 + 1))) else (some false))) else (none)) else (some (decide ((x0.length : Int) ≤ 24)))
def spec_MelodyValid.f (k : Nat) (l0 : List (S36)) : Option (Bool) := spec_MelodyValid.l0 k l0 0
set_option maxHeartbeats 8000000 in
set_option maxRecDepth 100000 in
theorem spec_MelodyValid.calls (k : Nat) (A0 : Option Addr) (c0 : Nat) (l0 : List (S36)) (r : Bool) (w : World) (hr0 : Kd.C k36 w A0 l0.length l0) (hc0 : l0.length ≤ c0) (h : spec_MelodyValid.f k l0 = some r) :
  Calls Try.prog 32 #[.slice A0 l0.length c0] w fun e w' => e = .returned (.bool r) ∧ Below w.heap.size w w' := by
 have hu36 := Try.underlying36
 have HR0 := Aside0.mk hr0
 have HC0 := Aside0.mk hc0
 clear hr0 hc0
 have HB := Q0_ (Below.refl w.heap.size w)
 have H : (spec_MelodyValid.l0 k l0 0) = some r := h
 clear h
 have H' := Aside0.mk H
 clear H
 go_enter Try.func32, Try.ntmps32
 go_wp2
 go_loopg [3] k (fun kq v3 w' => ∃ (x3_1 : Int), v3 = .int .i64 x3_1 ∧ Aside0 (spec_MelodyValid.l0 kq l0 x3_1 = some r) ∧ Aside0 (kq ≤ k) ∧ Aside0 (Below w.heap.size w w'))
 case atStart => exact ⟨(0), eX, H', ⟨Nat.le_refl _⟩, ⟨by repeat (first | (with_reducible first | exact HB.out | apply below_alloc | apply pw_below_drewN | apply below_drew1) | exact HB.out)⟩⟩
 case round =>
  clear H'
  obtain ⟨x3_1, rfl, HA, HK1, HB⟩ := hrel
  cases gk with
  | zero => exact absurd HA.out (by simp [spec_MelodyValid.l0])
  | succ k1 =>
   have H := HA.out
   clear HA
   simp only [spec_MelodyValid.l0] at H
   by_cases c2 : x3_1 < (l0.length : Int)
   rotate_left
   ·rw [if_neg c2] at H
    have c2b0 : decide (x3_1 < (l0.length : Int)) = false := decide_eq_false c2
    clear c2
    obtain rfl := Option.some.inj H
    go_wp2
    go_ret
    exact ⟨by first | rfl | (simp [errW_none, errW_some] <;> rfl) | (simp [*, errW_none, errW_some] <;> rfl), by repeat (first | (with_reducible first | exact HB.out | apply below_alloc | apply pw_below_drewN | apply below_drew1) | exact HB.out)⟩
   rw [if_pos c2] at H
   have c2b0 : decide (x3_1 < (l0.length : Int)) = true := decide_eq_true c2
   clear c2
   by_cases c3 : 0 ≤ x3_1
   rotate_left
   ·rw [if_neg c3] at H
    exact absurd H (by simp)
   rw [if_pos c3] at H
   have c3b0 : decide (0 ≤ x3_1) = true := decide_eq_true c3
   clear c3
   obtain ⟨t120, A40, H⟩ := Option.bind_eq_some_iff.mp H
   try dsimp only at H
   have A4 := Aside0.mk A40
   clear A40
   by_cases c5 : t120 = true
   rotate_left
   ·replace c5 := Bool.eq_false_iff.mpr c5
    subst c5
    replace H := ifN ((show ¬ (false = true) by decide)) H
    obtain rfl := Option.some.inj H
    have p119 : 0 ≤ (x3_1 : Int) := of_decide_eq_true aS
    have q119 : x3_1 < (l0.length : Int) := of_decide_eq_true aS
    obtain ⟨ad119, e119, hx119_0, hx119_1⟩ := at_T36 HR0.out x3_1 p119 q119
    cases e119
    replace hx119_0 := (HB.out.cell (World.block_lt_of_cell? w _ hx119_0)).trans hx119_0
    replace hx119_1 := (HB.out.cell (World.block_lt_of_cell? w _ hx119_1)).trans hx119_1
    replace p119 := eq_true p119
    replace q119 := eq_true q119
    go_wp2_with (first | ((with_reducible refine gate_callee (f := 47) rfl ?_); refine goesL_ (some 14) rfl rfl Try.func47 (by kernel_rfl) rfl #[.agg #[.int .i64 ((rd_T36 l0 x3_1).f0), .bool ((rd_T36 l0 x3_1).f1)]] rfl hM ?_; (with_reducible refine (spec_ToneValid.calls ((rd_T36 l0 x3_1).f0) ((rd_T36 l0 x3_1).f1) false _ A4.out).mono ?_); rintro e w7 ⟨rfl, hb⟩; refine ⟨_, rfl, ?_⟩; have n0_ := Q0_ (below_step (upB HB) hb); clear HB; revert n0_; intro HB; (try clear hb); (try clear hb2); (try clear hk); (try clear hi)))
    go_ret
    exact ⟨by first | rfl | (simp [errW_none, errW_some] <;> rfl) | (simp [*, errW_none, errW_some] <;> rfl), by repeat (first | (with_reducible first | exact HB.out | apply below_alloc | apply pw_below_drewN | apply below_drew1) | exact HB.out)⟩
   subst c5
   replace H := ifP (rfl) H
   have H' := Aside0.mk H
   clear H
   have p119 : 0 ≤ (x3_1 : Int) := of_decide_eq_true aS
   have q119 : x3_1 < (l0.length : Int) := of_decide_eq_true aS
   obtain ⟨ad119, e119, hx119_0, hx119_1⟩ := at_T36 HR0.out x3_1 p119 q119
   cases e119
   replace hx119_0 := (HB.out.cell (World.block_lt_of_cell? w _ hx119_0)).trans hx119_0
   replace hx119_1 := (HB.out.cell (World.block_lt_of_cell? w _ hx119_1)).trans hx119_1
   replace p119 := eq_true p119
   replace q119 := eq_true q119
   go_wp2_with (first | ((with_reducible refine gate_callee (f := 47) rfl ?_); refine goesL_ (some 14) rfl rfl Try.func47 (by kernel_rfl) rfl #[.agg #[.int .i64 ((rd_T36 l0 x3_1).f0), .bool ((rd_T36 l0 x3_1).f1)]] rfl hM ?_; (with_reducible refine (spec_ToneValid.calls ((rd_T36 l0 x3_1).f0) ((rd_T36 l0 x3_1).f1) true _ A4.out).mono ?_); rintro e w6 ⟨rfl, hb⟩; refine ⟨_, rfl, ?_⟩; have n0_ := Q0_ (below_step (upB HB) hb); clear HB; revert n0_; intro HB; (try clear hb); (try clear hb2); (try clear hk); (try clear hi)))
   go_roundg k1
   case measure => have := HK1.out; omega
   case rel => exact ⟨(wrap64 (x3_1 + 1)), eX, H', ⟨by have := HK1.out; omega⟩, ⟨by repeat (first | (with_reducible first | exact HB.out | apply below_alloc | apply pw_below_drewN | apply below_drew1) | exact HB.out)⟩⟩
end Go.Proofs.Ythpeiboobnnfgaa.E
end
section
namespace Go.Proofs.Ythpeiboobnnfgaa.E
open Go.RowKit Go.Proofs.YthpeiboobnnfgaaW.PrintWords Go.Proofs.YthpeiboobnnfgaaW.PrintLast Go.Proofs.YthpeiboobnnfgaaW.PrintMore
attribute [local go_sem] max2_int min2_int max_two min_two max_three min_three max_four min_four
set_option linter.unusedVariables false
set_option linter.unusedSimpArgs false
attribute [local go_sem] en63_mk1 en63_mk2 en63_mk3 en63_mk4
attribute [local go_sem] str_leq_ str_gtr_ str_geq_
def spec_l7Replace.f (a0_0 : Int) (a0_1 : Bool) (a1_0 : Int) (a1_1 : Bool) : Option (Int) := if a0_0 = a1_0 then (if a0_1 = a1_1 then (some 0) else (some 1)) else (some 3)
set_option maxHeartbeats 8000000 in
set_option maxRecDepth 100000 in
theorem spec_l7Replace.calls (a0_0 : Int) (a0_1 : Bool) (a1_0 : Int) (a1_1 : Bool) (r : Int) (w : World) (h : spec_l7Replace.f a0_0 a0_1 a1_0 a1_1 = some r) :
  Calls Try.prog 40 #[.agg #[.int .i64 a0_0, .bool a0_1], .agg #[.int .i64 a1_0, .bool a1_1]] w fun e w' => e = .returned (.int .i64 r) ∧ Below w.heap.size w w' := by
 have hu36 := Try.underlying36
 have HB := Q0_ (Below.refl w.heap.size w)
 have H : (if a0_0 = a1_0 then (if a0_1 = a1_1 then (some 0) else (some 1)) else (some 3)) = some r := h
 clear h
 by_cases c3 : a0_0 = a1_0
 rotate_left
 ·rw [if_neg c3] at H
  have c3b0 : (a0_0 == a1_0) = false := beq_eq_false_iff_ne.mpr c3
  have c3b1 : (a0_0 != a1_0) = true := bne_iff_ne.mpr c3
  obtain rfl := Option.some.inj H
  go_enter Try.func40, Try.ntmps40
  go_wp2_with (first | ((with_reducible refine gate_dst (N := 2) rfl ?_); refine box_event ?hg (N := 2) ?hd (cs := #[.int .i64 a0_0, .bool a0_1]) (t := 36) ?hr ?_; (case hd => rfl); (case hg => rfl); (case hr => first | (go_simp; done) | (go_simp; rfl)); intro gb121 hg w15 hbox hb; have n0_ := Q0_ (below_step (upB HB) hb); have n1_ := Q0_ (hbox); have n2_ := Q0_ ((by rw [hg]; exact (below_size (upB HB)) : w.heap.size ≤ gb121)); have n3_ := Q0_ ((by rw [hg]; exact (below_size (upB HB)) : w.heap.size ≤ gb121)); clear HB; revert n0_ n1_ n2_ n3_; intro HB BK121 GW121 GE121; clear hb hbox hg) | ((with_reducible refine gate_dst (N := 3) rfl ?_); refine box_event ?hg (N := 3) ?hd (cs := #[.int .i64 a1_0, .bool a1_1]) (t := 36) ?hr ?_; (case hd => rfl); (case hg => rfl); (case hr => first | (go_simp; done) | (go_simp; rfl)); intro gb122 hg w16 hbox hb; have n0_ := Q0_ (blk_below (upK BK121) hb); have n1_ := Q0_ (below_step upH hb); have n2_ := Q0_ (hbox); have n3_ := Q0_ ((by rw [hg]; exact (below_size upH) : w.heap.size ≤ gb122)); have n4_ := Q0_ ((by rw [hg]; exact (below_size upH) : w.heap.size ≤ gb122)); have n5_ := Q0_ ((by rw [hg]; exact Nat.ne_of_lt (blk_lt (upK BK121)) : gb121 ≠ gb122)); have n6_ := Q0_ ((by rw [hg]; exact Nat.ne_of_gt (blk_lt (upK BK121)) : gb122 ≠ gb121)); clear BK121 HB; revert n0_ n1_ n2_ n3_ n4_ n5_ n6_; intro BK121 HB BK122 GW122 GE122 NB121_122 NB122_121; clear hb hbox hg; have hnb17 := NB121_122.out; have hnc17 := NB122_121.out; have hcz18_0 : w16.cell? ⟨gb121, 0, none⟩ = some (.int .i64 a0_0) := (blk_cell BK121.out 0).trans rfl; have hcz18_1 : w16.cell? ⟨gb121, 1, none⟩ = some (.bool a0_1) := (blk_cell BK121.out 1).trans rfl; have hfz18_0 := blk_frozen BK121.out 0; have hfz18_1 := blk_frozen BK121.out 1; have hcz19_0 : w16.cell? ⟨gb122, 0, none⟩ = some (.int .i64 a1_0) := (blk_cell BK122.out 0).trans rfl; have hcz19_1 : w16.cell? ⟨gb122, 1, none⟩ = some (.bool a1_1) := (blk_cell BK122.out 1).trans rfl; have hfz19_0 := blk_frozen BK122.out 0; have hfz19_1 := blk_frozen BK122.out 1))
  go_ret
  exact ⟨by first | rfl | (simp [errW_none, errW_some] <;> rfl) | (simp [*, errW_none, errW_some] <;> rfl), by repeat (first | (with_reducible first | exact HB.out | apply below_alloc | apply pw_below_drewN | apply below_drew1 | refine below_set ?_ GE121.out | refine below_set ?_ GE122.out) | exact HB.out)⟩
 rw [if_pos c3] at H
 have c3b0 : (a0_0 == a1_0) = true := beq_iff_eq.mpr c3
 have c3b1 : (a0_0 != a1_0) = false := bne_eq_false_iff_eq.mpr c3
 clear c3
 by_cases c4 : a0_1 = a1_1
 rotate_left
 ·rw [if_neg c4] at H
  have c4b0 : (a0_1 == a1_1) = false := beq_eq_false_iff_ne.mpr c4
  have c4b1 : (a0_1 != a1_1) = true := bne_iff_ne.mpr c4
  obtain rfl := Option.some.inj H
  go_enter Try.func40, Try.ntmps40
  go_wp2_with (first | ((with_reducible refine gate_dst (N := 2) rfl ?_); refine box_event ?hg (N := 2) ?hd (cs := #[.int .i64 a0_0, .bool a0_1]) (t := 36) ?hr ?_; (case hd => rfl); (case hg => rfl); (case hr => first | (go_simp; done) | (go_simp; rfl)); intro gb121 hg w10 hbox hb; have n0_ := Q0_ (below_step (upB HB) hb); have n1_ := Q0_ (hbox); have n2_ := Q0_ ((by rw [hg]; exact (below_size (upB HB)) : w.heap.size ≤ gb121)); have n3_ := Q0_ ((by rw [hg]; exact (below_size (upB HB)) : w.heap.size ≤ gb121)); clear HB; revert n0_ n1_ n2_ n3_; intro HB BK121 GW121 GE121; clear hb hbox hg) | ((with_reducible refine gate_dst (N := 3) rfl ?_); refine box_event ?hg (N := 3) ?hd (cs := #[.int .i64 a1_0, .bool a1_1]) (t := 36) ?hr ?_; (case hd => rfl); (case hg => rfl); (case hr => first | (go_simp; done) | (go_simp; rfl)); intro gb122 hg w11 hbox hb; have n0_ := Q0_ (blk_below (upK BK121) hb); have n1_ := Q0_ (below_step upH hb); have n2_ := Q0_ (hbox); have n3_ := Q0_ ((by rw [hg]; exact (below_size upH) : w.heap.size ≤ gb122)); have n4_ := Q0_ ((by rw [hg]; exact (below_size upH) : w.heap.size ≤ gb122)); have n5_ := Q0_ ((by rw [hg]; exact Nat.ne_of_lt (blk_lt (upK BK121)) : gb121 ≠ gb122)); have n6_ := Q0_ ((by rw [hg]; exact Nat.ne_of_gt (blk_lt (upK BK121)) : gb122 ≠ gb121)); clear BK121 HB; revert n0_ n1_ n2_ n3_ n4_ n5_ n6_; intro BK121 HB BK122 GW122 GE122 NB121_122 NB122_121; clear hb hbox hg; have hnb12 := NB121_122.out; have hnc12 := NB122_121.out; have hcz13_0 : w11.cell? ⟨gb121, 0, none⟩ = some (.int .i64 a0_0) := (blk_cell BK121.out 0).trans rfl; have hcz13_1 : w11.cell? ⟨gb121, 1, none⟩ = some (.bool a0_1) := (blk_cell BK121.out 1).trans rfl; have hfz13_0 := blk_frozen BK121.out 0; have hfz13_1 := blk_frozen BK121.out 1; have hcz14_0 : w11.cell? ⟨gb122, 0, none⟩ = some (.int .i64 a1_0) := (blk_cell BK122.out 0).trans rfl; have hcz14_1 : w11.cell? ⟨gb122, 1, none⟩ = some (.bool a1_1) := (blk_cell BK122.out 1).trans rfl; have hfz14_0 := blk_frozen BK122.out 0; have hfz14_1 := blk_frozen BK122.out 1))
  go_ret
  exact ⟨by first | rfl | (simp [errW_none, errW_some] <;> rfl) | (simp [*, errW_none, errW_some] <;> rfl), by repeat (first | (with_reducible first | exact HB.out | apply below_alloc | apply pw_below_drewN | apply below_drew1 | refine below_set ?_ GE121.out | refine below_set ?_ GE122.out) | exact HB.out)⟩
 rw [if_pos c4] at H
 have c4b0 : (a0_1 == a1_1) = true := beq_iff_eq.mpr c4
 have c4b1 : (a0_1 != a1_1) = false := bne_eq_false_iff_eq.mpr c4
 clear c4
 obtain rfl := Option.some.inj H
 go_enter Try.func40, Try.ntmps40
 go_wp2_with (first | ((with_reducible refine gate_dst (N := 2) rfl ?_); refine box_event ?hg (N := 2) ?hd (cs := #[.int .i64 a0_0, .bool a0_1]) (t := 36) ?hr ?_; (case hd => rfl); (case hg => rfl); (case hr => first | (go_simp; done) | (go_simp; rfl)); intro gb121 hg w5 hbox hb; have n0_ := Q0_ (below_step (upB HB) hb); have n1_ := Q0_ (hbox); have n2_ := Q0_ ((by rw [hg]; exact (below_size (upB HB)) : w.heap.size ≤ gb121)); have n3_ := Q0_ ((by rw [hg]; exact (below_size (upB HB)) : w.heap.size ≤ gb121)); clear HB; revert n0_ n1_ n2_ n3_; intro HB BK121 GW121 GE121; clear hb hbox hg) | ((with_reducible refine gate_dst (N := 3) rfl ?_); refine box_event ?hg (N := 3) ?hd (cs := #[.int .i64 a1_0, .bool a1_1]) (t := 36) ?hr ?_; (case hd => rfl); (case hg => rfl); (case hr => first | (go_simp; done) | (go_simp; rfl)); intro gb122 hg w6 hbox hb; have n0_ := Q0_ (blk_below (upK BK121) hb); have n1_ := Q0_ (below_step upH hb); have n2_ := Q0_ (hbox); have n3_ := Q0_ ((by rw [hg]; exact (below_size upH) : w.heap.size ≤ gb122)); have n4_ := Q0_ ((by rw [hg]; exact (below_size upH) : w.heap.size ≤ gb122)); have n5_ := Q0_ ((by rw [hg]; exact Nat.ne_of_lt (blk_lt (upK BK121)) : gb121 ≠ gb122)); have n6_ := Q0_ ((by rw [hg]; exact Nat.ne_of_gt (blk_lt (upK BK121)) : gb122 ≠ gb121)); clear BK121 HB; revert n0_ n1_ n2_ n3_ n4_ n5_ n6_; intro BK121 HB BK122 GW122 GE122 NB121_122 NB122_121; clear hb hbox hg; have hnb7 := NB121_122.out; have hnc7 := NB122_121.out; have hcz8_0 : w6.cell? ⟨gb121, 0, none⟩ = some (.int .i64 a0_0) := (blk_cell BK121.out 0).trans rfl; have hcz8_1 : w6.cell? ⟨gb121, 1, none⟩ = some (.bool a0_1) := (blk_cell BK121.out 1).trans rfl; have hfz8_0 := blk_frozen BK121.out 0; have hfz8_1 := blk_frozen BK121.out 1; have hcz9_0 : w6.cell? ⟨gb122, 0, none⟩ = some (.int .i64 a1_0) := (blk_cell BK122.out 0).trans rfl; have hcz9_1 : w6.cell? ⟨gb122, 1, none⟩ = some (.bool a1_1) := (blk_cell BK122.out 1).trans rfl; have hfz9_0 := blk_frozen BK122.out 0; have hfz9_1 := blk_frozen BK122.out 1))
 go_ret
 exact ⟨by first | rfl | (simp [errW_none, errW_some] <;> rfl) | (simp [*, errW_none, errW_some] <;> rfl), by repeat (first | (with_reducible first | exact HB.out | apply below_alloc | apply pw_below_drewN | apply below_drew1 | refine below_set ?_ GE121.out | refine below_set ?_ GE122.out) | exact HB.out)⟩
end Go.Proofs.Ythpeiboobnnfgaa.E
end
section
namespace Go.Proofs.Ythpeiboobnnfgaa.E
open Go.RowKit Go.Proofs.YthpeiboobnnfgaaW.PrintWords Go.Proofs.YthpeiboobnnfgaaW.PrintLast Go.Proofs.YthpeiboobnnfgaaW.PrintMore
attribute [local go_sem] max2_int min2_int max_two min_two max_three min_three max_four min_four
set_option linter.unusedVariables false
set_option linter.unusedSimpArgs false
attribute [local go_sem high] eqA36
attribute [local go_sem] en63_mk1 en63_mk2 en63_mk3 en63_mk4
attribute [local go_sem] str_leq_ str_gtr_ str_geq_
mutual
def spec_EditSum.j0 : Nat → List (S36) → List (S36) → ByteArray → Bool → Option (Int)
 | 0, _, _, _, _ => none
 | k + 1, x0, x1, x2, x19 => if x19 = true then (some (-1)) else (spec_EditSum.l0 k x0 x1 x2 0 0 0 0)
def spec_EditSum.l0 : Nat → List (S36) → List (S36) → ByteArray → Int → Int → Int → Int → Option (Int)
 | 0, _, _, _, _, _, _, _ => none
 | k + 1, x0, x1, x2, x7, x8, x9, x10 => if x10 < (x2.size : Int) then (if x7 < (x0.length : Int) then (spec_EditSum.j2 k x0 x1 x2 x7 x8 x9 x10 (decide (x8 < (x1.length : Int)))) else (spec_EditSum.j2 k x0 x1 x2 x7 x8 x9 x10 false)) else (if x7 < (x0.length : Int) then (some (-1)) else (if x8 < (x1.length : Int) then (some (-1)) else (some x9)))
def spec_EditSum.j2 : Nat → List (S36) → List (S36) → ByteArray → Int → Int → Int → Int → Bool → Option (Int)
 | 0, _, _, _, _, _, _, _, _ => none
 | k + 1, x0, x1, x2, x7, x8, x9, x10, x11 => if 0 ≤ x10 then (if x10 < (x2.size : Int) then (if (bt x2 x10) = 105 then (spec_EditSum.j3 k x0 x1 x2 x7 x8 x9 x10 x11 (decide (x8 < (x1.length : Int)))) else (spec_EditSum.j3 k x0 x1 x2 x7 x8 x9 x10 x11 false)) else (none)) else (none)
def spec_EditSum.j3 : Nat → List (S36) → List (S36) → ByteArray → Int → Int → Int → Int → Bool → Bool → Option (Int)
 | 0, _, _, _, _, _, _, _, _, _ => none
 | k + 1, x0, x1, x2, x7, x8, x9, x10, x11, x36 => if x36 = true then (spec_EditSum.l0 k x0 x1 x2 x7 (wrap64 (x8 + 1)) (wrap64 (x9 + 2)) (wrap64 (x10 + 1))) else (if 0 ≤ x10 then (if x10 < (x2.size : Int) then (if (bt x2 x10) = 111 then (spec_EditSum.j4 k x0 x1 x2 x7 x8 x9 x10 x11 (decide (x7 < (x0.length : Int)))) else (spec_EditSum.j4 k x0 x1 x2 x7 x8 x9 x10 x11 false)) else (none)) else (none))
def spec_EditSum.j4 : Nat → List (S36) → List (S36) → ByteArray → Int → Int → Int → Int → Bool → Bool → Option (Int)
 | 0, _, _, _, _, _, _, _, _, _ => none
 | k + 1, x0, x1, x2, x7, x8, x9, x10, x11, x51 => if x51 = true then (spec_EditSum.l0 k x0 x1 x2 (wrap64 (x7 + 1)) x8 (wrap64 (x9 + 2)) (wrap64 (x10 + 1))) else (if 0 ≤ x10 then (if x10 < (x2.size : Int) then (if (bt x2 x10) = 107 then (if x11 = true then (if 0 ≤ x7 then (if x7 < (x0.length : Int) then (if 0 ≤ x8 then (if x8 < (x1.length : Int) then (spec_EditSum.j5 k x0 x1 x2 x7 x8 x9 x10 x11 (((rd_T36 x0 x7).f0) == ((rd_T36 x1 x8).f0) && (((rd_T36 x0 x7).f1) == ((rd_T36 x1 x8).f1)))) else (none)) else (none)) else (none)) else (none)) else (spec_EditSum.j5 k x0 x1 x2 x7 x8 x9 x10 x11 false)) else (spec_EditSum.j5 k x0 x1 x2 x7 x8 x9 x10 x11 false)) else (none)) else (none))
def spec_EditSum.j5 : Nat → List (S36) → List (S36) → ByteArray → Int → Int → Int → Int → Bool → Bool → Option (Int)
 | 0, _, _, _, _, _, _, _, _, _ => none
 | k + 1, x0, x1, x2, x7, x8, x9, x10, x11, x66 => if x66 = true then (spec_EditSum.l0 k x0 x1 x2 (wrap64 (x7 + 1)) (wrap64 (x8 + 1)) x9 (wrap64 (x10 + 1))) else (if 0 ≤ x10 then (if x10 < (x2.size : Int) then (if (bt x2 x10) = 114 then (if x11 = true then (if 0 ≤ x7 then (if x7 < (x0.length : Int) then (if 0 ≤ x8 then (if x8 < (x1.length : Int) then (if (!(((rd_T36 x0 x7).f0) == ((rd_T36 x1 x8).f0)) || (!(((rd_T36 x0 x7).f1) == ((rd_T36 x1 x8).f1)))) = true then ((spec_l7Replace.f ((rd_T36 x0 x7).f0) ((rd_T36 x0 x7).f1) ((rd_T36 x1 x8).f0) ((rd_T36 x1 x8).f1)).bind fun t339 => (spec_EditSum.l0 k x0 x1 x2 (wrap64 (x7 + 1)) (wrap64 (x8 + 1)) (wrap64 (x9 + t339)) (wrap64 (x10 + 1)))) else (some (-1))) else (none)) else (none)) else (none)) else (none)) else (some (-1))) else (some (-1))) else (none)) else (none))
end
def spec_EditSum.f (k : Nat) (l0 : List (S36)) (l1 : List (S36)) (a2 : ByteArray) : Option (Int) := (spec_MelodyValid.f k l0).bind fun t331 => (if t331 = true then ((spec_MelodyValid.f k l1).bind fun t332 => (spec_EditSum.j0 k l0 l1 a2 (!t332))) else (spec_EditSum.j0 k l0 l1 a2 true))
def spec_EditSum.T17 : Bool × List (List Nat × List Nat) := (true, [([], []), ([], []), ([0, 1], [0, 1]), ([2], [2]), ([3], [3]), ([4], [4]), ([4, 5], [4, 5]), ([6, 4], [6]), ([7], [7]), ([7], [7]), ([8, 9, 7], [7, 8, 9]), ([10, 7], [7, 10]), ([7], [7]), ([7], [7]), ([12, 13, 7], [7, 12, 13]), ([14, 7], [7, 14]), ([11, 15, 7], [7, 11, 15]), ([7, 16], [7, 16]), ([17, 7], [17])])
def spec_EditSum.B17 : List Nat := [0, 0, 3, 7, 15, 31, 63, 127, 255, 255, 1023, 2047, 255, 255, 12543, 28927, 65535, 131071, 262143]
theorem spec_EditSum.tab17 : rtab .any (opsOf Try.f20 17) = spec_EditSum.T17 := by kernel_rfl
theorem spec_EditSum.bits17 : waitsOk spec_EditSum.T17.2 spec_EditSum.B17 = true := by kernel_rfl
def spec_EditSum.T20 : Bool × List (List Nat × List Nat) := (true, [([], []), ([], []), ([0, 1], [0, 1]), ([2], [2]), ([3], [3]), ([4], [4]), ([4, 5], [4, 5]), ([6, 4], [6]), ([7], [7]), ([7], [7]), ([8, 9, 7], [7, 8, 9]), ([10, 7], [7, 10]), ([7], [7]), ([7], [7]), ([12, 13, 7], [7, 12, 13]), ([14, 7], [7, 14]), ([11, 15, 7], [7, 11, 15]), ([7, 16], [7, 16]), ([17, 7], [17])])
def spec_EditSum.B20 : List Nat := [0, 0, 3, 7, 15, 31, 63, 127, 255, 255, 1023, 2047, 255, 255, 12543, 28927, 65535, 131071, 262143]
theorem spec_EditSum.tab20 : rtab .any (opsOf Try.f20 20) = spec_EditSum.T20 := by kernel_rfl
theorem spec_EditSum.bits20 : waitsOk spec_EditSum.T20.2 spec_EditSum.B20 = true := by kernel_rfl
def spec_EditSum.T21 : Bool × List (List Nat × List Nat) := (true, [([], []), ([], []), ([], []), ([1, 2], [1, 2]), ([3], [3]), ([], []), ([], []), ([5, 6], [5, 6]), ([7], [7]), ([4, 8], [4, 8]), ([0, 9], [0, 9]), ([10, 9, 0, 1, 2, 3, 4, 5, 6, 7, 8, 9, 10], [0, 10])])
def spec_EditSum.B21 : List Nat := [0, 0, 0, 6, 14, 0, 0, 96, 224, 510, 1023, 2047]
theorem spec_EditSum.tab21 : rtab .any (opsOf Try.f20 21) = spec_EditSum.T21 := by kernel_rfl
theorem spec_EditSum.bits21 : waitsOk spec_EditSum.T21.2 spec_EditSum.B21 = true := by kernel_rfl
set_option maxHeartbeats 8000000 in
set_option maxRecDepth 100000 in
theorem spec_EditSum.calls (k : Nat) (A0 : Option Addr) (c0 : Nat) (l0 : List (S36)) (A1 : Option Addr) (c1 : Nat) (l1 : List (S36)) (a2 : ByteArray) (r : Int) (w : World) (hr0 : Kd.C k36 w A0 l0.length l0) (hc0 : l0.length ≤ c0) (hr1 : Kd.C k36 w A1 l1.length l1) (hc1 : l1.length ≤ c1) (h : spec_EditSum.f k l0 l1 a2 = some r) :
  Calls Try.prog 20 #[.slice A0 l0.length c0, .slice A1 l1.length c1, .string a2] w fun e w' => e = .returned (.int .i64 r) ∧ Below w.heap.size w w' := by
 have hu36 := Try.underlying36
 have HR0 := Aside0.mk hr0
 have HC0 := Aside0.mk hc0
 clear hr0 hc0
 have HR1 := Aside0.mk hr1
 have HC1 := Aside0.mk hc1
 clear hr1 hc1
 have HB := Q0_ (Below.refl w.heap.size w)
 have H : ((spec_MelodyValid.f k l0).bind fun t331 => (if t331 = true then ((spec_MelodyValid.f k l1).bind fun t332 => (spec_EditSum.j0 k l0 l1 a2 (!t332))) else (spec_EditSum.j0 k l0 l1 a2 true))) = some r := h
 clear h
 have HC4 := Aside0.mk H
 clear H
 go_enter Try.func20, Try.ntmps20
 go_upto_region 1 with (fail)
 go_cut [19] (fun v19 wc => ∃ (kq : Nat) (x19_3 : Bool), v19 = .bool x19_3 ∧ Aside0 (spec_EditSum.j0 kq l0 l1 a2 x19_3 = some r) ∧ Aside0 (kq ≤ k) ∧ Aside0 (Below w.heap.size w wc))
 case first =>
  have H := HC4.out
  clear HC4
  obtain ⟨t331, A50, H⟩ := Option.bind_eq_some_iff.mp H
  try dsimp only at H
  have A5 := Aside0.mk A50
  clear A50
  by_cases c6 : t331 = true
  rotate_left
  ·replace c6 := Bool.eq_false_iff.mpr c6
   subst c6
   replace H := ifN ((show ¬ (false = true) by decide)) H
   have H' := Aside0.mk H
   clear H
   go_wp2_with (first | ((with_reducible refine gate_callee (f := 32) rfl ?_); refine goesL_ (some 13) rfl rfl Try.func32 (by kernel_rfl) rfl #[.slice A0 l0.length c0] rfl hM ?_; (with_reducible refine (spec_MelodyValid.calls k _ _ l0 false _ ?side1 ?side2 A5.out).mono ?_); (case side1 => repeat (first | exact (Kd.C_below HR0.out HB.out) | (with_reducible refine Kd.C_alloc ?_ _) | (with_reducible refine Kd.C_drewN ?_ _) | (with_reducible refine Kd.C_drew ?_))); (case side2 => exact HC0.out); rintro e w10 ⟨rfl, hb⟩; refine ⟨_, rfl, ?_⟩; have n0_ := Q0_ (below_step (upB HB) hb); clear HB; revert n0_; intro HB; (try clear hb); (try clear hb2); (try clear hk); (try clear hi)))
   go_meet
   case rel => exact ⟨_, (true), eX, H', ⟨by first | omega | exact Nat.le_refl _⟩, ⟨by repeat (first | (with_reducible first | exact HB.out | apply below_alloc | apply pw_below_drewN | apply below_drew1) | exact HB.out)⟩⟩
  subst c6
  replace H := ifP (rfl) H
  obtain ⟨t332, A70, H⟩ := Option.bind_eq_some_iff.mp H
  try dsimp only at H
  have A7 := Aside0.mk A70
  clear A70
  have H' := Aside0.mk H
  clear H
  go_wp2_with (first | ((with_reducible refine gate_callee (f := 32) rfl ?_); refine goesL_ (some 13) rfl rfl Try.func32 (by kernel_rfl) rfl #[.slice A0 l0.length c0] rfl hM ?_; (with_reducible refine (spec_MelodyValid.calls k _ _ l0 true _ ?side1 ?side2 A5.out).mono ?_); (case side1 => repeat (first | exact (Kd.C_below HR0.out HB.out) | (with_reducible refine Kd.C_alloc ?_ _) | (with_reducible refine Kd.C_drewN ?_ _) | (with_reducible refine Kd.C_drew ?_))); (case side2 => exact HC0.out); rintro e w8 ⟨rfl, hb⟩; refine ⟨_, rfl, ?_⟩; have n0_ := Q0_ (below_step (upB HB) hb); clear HB; revert n0_; intro HB; (try clear hb); (try clear hb2); (try clear hk); (try clear hi)) | (go_at_call 32; (with_reducible refine (spec_MelodyValid.calls k _ _ l1 t332 _ ?side1 ?side2 A7.out).mono ?_); (case side1 => repeat (first | exact (Kd.C_below HR1.out HB.out) | (with_reducible refine Kd.C_alloc ?_ _) | (with_reducible refine Kd.C_drewN ?_ _) | (with_reducible refine Kd.C_drew ?_))); (case side2 => exact HC1.out); rintro e w9 ⟨rfl, hb⟩; have n0_ := Q0_ (below_step (upB HB) hb); clear HB; revert n0_; intro HB; (try clear hb); (try clear hb2); (try clear hk); (try clear hi)))
  go_meet
  case rel => exact ⟨_, (!t332), eX, H', ⟨by first | omega | exact Nat.le_refl _⟩, ⟨by repeat (first | (with_reducible first | exact HB.out | apply below_alloc | apply pw_below_drewN | apply below_drew1) | exact HB.out)⟩⟩
 case rest =>
  clear HC4
  try clear c1
  try clear c2
  try clear p2
  try clear c3
  try clear c6
  obtain ⟨kq, x19_3, rfl, HA, HJ3, HB⟩ := hcut
  cases kq with
  | zero => exact absurd HA.out (by simp [spec_EditSum.j0])
  | succ kj3 =>
   have H := HA.out
   clear HA
   simp only [spec_EditSum.j0] at H
   by_cases c11 : x19_3 = true
   ·subst c11
    replace H := ifP (rfl) H
    obtain rfl := Option.some.inj H
    go_wp2
    go_ret
    exact ⟨by first | rfl | (simp [errW_none, errW_some] <;> rfl) | (simp [*, errW_none, errW_some] <;> rfl), by repeat (first | (with_reducible first | exact HB.out | apply below_alloc | apply pw_below_drewN | apply below_drew1) | exact HB.out)⟩
   replace c11 := Bool.eq_false_iff.mpr c11
   subst c11
   replace H := ifN ((show ¬ (false = true) by decide)) H
   have H' := Aside0.mk H
   clear H
   go_wp2
   go_loopg [7, 8, 9, 10] kj3 (fun kq v7 v8 v9 v10 w' => ∃ (x7_2 : Int) (x8_2 : Int) (x9_2 : Int) (x10_2 : Int), v7 = .int .i64 x7_2 ∧ v8 = .int .i64 x8_2 ∧ v9 = .int .i64 x9_2 ∧ v10 = .int .i64 x10_2 ∧ Aside0 (spec_EditSum.l0 kq l0 l1 a2 x7_2 x8_2 x9_2 x10_2 = some r) ∧ Aside0 (kq ≤ kj3) ∧ Aside0 (Below w.heap.size w w'))
   case atStart => exact ⟨(0), (0), (0), (0), eX, eX, eX, eX, H', ⟨Nat.le_refl _⟩, ⟨by repeat (first | (with_reducible first | exact HB.out | apply below_alloc | apply pw_below_drewN | apply below_drew1) | exact HB.out)⟩⟩
   case round =>
    clear H'
    try clear c1
    try clear c2
    try clear p2
    try clear c3
    try clear c6
    try clear c11
    try clear p2
    obtain ⟨x7_2, x8_2, x9_2, x10_2, rfl, rfl, rfl, rfl, HA, HK2, HB⟩ := hrel
    cases gk with
    | zero => exact absurd HA.out (by simp [spec_EditSum.l0])
    | succ k2 =>
     have H := HA.out
     clear HA
     simp only [spec_EditSum.l0] at H
     by_cases c12 : x10_2 < (a2.size : Int)
     rotate_left
     ·rw [if_neg c12] at H
      have c12b0 : decide (x10_2 < (a2.size : Int)) = false := decide_eq_false c12
      clear c12
      by_cases c58 : x7_2 < (l0.length : Int)
      ·rw [if_pos c58] at H
       have c58b0 : decide (x7_2 < (l0.length : Int)) = true := decide_eq_true c58
       clear c58
       obtain rfl := Option.some.inj H
       go_wp2
       go_ret
       exact ⟨by first | rfl | (simp [errW_none, errW_some] <;> rfl) | (simp [*, errW_none, errW_some] <;> rfl), by repeat (first | (with_reducible first | exact HB.out | apply below_alloc | apply pw_below_drewN | apply below_drew1) | exact HB.out)⟩
      rw [if_neg c58] at H
      have c58b0 : decide (x7_2 < (l0.length : Int)) = false := decide_eq_false c58
      clear c58
      by_cases c59 : x8_2 < (l1.length : Int)
      ·rw [if_pos c59] at H
       have c59b0 : decide (x8_2 < (l1.length : Int)) = true := decide_eq_true c59
       clear c59
       obtain rfl := Option.some.inj H
       go_wp2
       go_ret
       exact ⟨by first | rfl | (simp [errW_none, errW_some] <;> rfl) | (simp [*, errW_none, errW_some] <;> rfl), by repeat (first | (with_reducible first | exact HB.out | apply below_alloc | apply pw_below_drewN | apply below_drew1) | exact HB.out)⟩
      rw [if_neg c59] at H
      have c59b0 : decide (x8_2 < (l1.length : Int)) = false := decide_eq_false c59
      clear c59
      obtain rfl := Option.some.inj H
      go_wp2
      go_ret
      exact ⟨by first | rfl | (simp [errW_none, errW_some] <;> rfl) | (simp [*, errW_none, errW_some] <;> rfl), by repeat (first | (with_reducible first | exact HB.out | apply below_alloc | apply pw_below_drewN | apply below_drew1) | exact HB.out)⟩
     rw [if_pos c12] at H
     have c12b0 : decide (x10_2 < (a2.size : Int)) = true := decide_eq_true c12
     clear c12
     have HC13 := Aside0.mk H
     clear H
     go_upto_region 9 with (fail)
     go_cut [11] (fun v11 wc => ∃ (kq : Nat) (x11_12 : Bool), v11 = .bool x11_12 ∧ Aside0 (spec_EditSum.j2 kq l0 l1 a2 x7_2 x8_2 x9_2 x10_2 x11_12 = some r) ∧ Aside0 (kq ≤ k2) ∧ Aside0 (Below w.heap.size w wc))
     case first =>
      have H := HC13.out
      clear HC13
      by_cases c14 : x7_2 < (l0.length : Int)
      rotate_left
      ·rw [if_neg c14] at H
       have c14b0 : decide (x7_2 < (l0.length : Int)) = false := decide_eq_false c14
       clear c14
       (first | rw [c14b0] | (simp only [i64_w, i32_w]; rw [c14b0]) | skip)
       have H' := Aside0.mk H
       clear H
       go_wp2
       go_meet
       case rel => exact ⟨_, (false), eX, H', ⟨by have := HJ3.out; have := HK2.out; first | omega | exact Nat.le_refl _⟩, ⟨by repeat (first | (with_reducible first | exact HB.out | apply below_alloc | apply pw_below_drewN | apply below_drew1) | exact HB.out)⟩⟩
      rw [if_pos c14] at H
      have c14b0 : decide (x7_2 < (l0.length : Int)) = true := decide_eq_true c14
      clear c14
      (first | rw [c14b0] | (simp only [i64_w, i32_w]; rw [c14b0]) | skip)
      have H' := Aside0.mk H
      clear H
      go_wp2
      go_meet
      case rel => exact ⟨_, (decide (x8_2 < (l1.length : Int))), eX, H', ⟨by have := HJ3.out; have := HK2.out; first | omega | exact Nat.le_refl _⟩, ⟨by repeat (first | (with_reducible first | exact HB.out | apply below_alloc | apply pw_below_drewN | apply below_drew1) | exact HB.out)⟩⟩
     case rest =>
      clear HC13
      try clear c1
      try clear c2
      try clear p2
      try clear c3
      try clear c6
      try clear c11
      try clear c12
      try clear c12b0
      try clear c14
      try clear c14b0
      try clear p2
      obtain ⟨kq, x11_12, rfl, HA, HJ12, HB⟩ := hcut
      cases kq with
      | zero => exact absurd HA.out (by simp [spec_EditSum.j2])
      | succ kj12 =>
       have H := HA.out
       clear HA
       simp only [spec_EditSum.j2] at H
       have HC15 := Aside0.mk H
       clear H
       go_upto_region 11 with (fail)
       go_cut [36] (fun v36 wc => ∃ (kq : Nat) (x36_14 : Bool), v36 = .bool x36_14 ∧ Aside0 (spec_EditSum.j3 kq l0 l1 a2 x7_2 x8_2 x9_2 x10_2 x11_12 x36_14 = some r) ∧ Aside0 (kq ≤ kj12) ∧ Aside0 (Below w.heap.size w wc))
       case first =>
        have H := HC15.out
        clear HC15
        by_cases c16 : 0 ≤ x10_2
        rotate_left
        ·rw [if_neg c16] at H
         exact absurd H (by simp)
        rw [if_pos c16] at H
        have c16b0 : decide (0 ≤ x10_2) = true := decide_eq_true c16
        clear c16
        (first | rw [c16b0] | (simp only [i64_w, i32_w]; rw [c16b0]) | skip)
        by_cases c17 : x10_2 < (a2.size : Int)
        rotate_left
        ·rw [if_neg c17] at H
         exact absurd H (by simp)
        rw [if_pos c17] at H
        have c17b0 : decide (x10_2 < (a2.size : Int)) = true := decide_eq_true c17
        clear c17
        by_cases c19 : (bt a2 x10_2) = 105
        rotate_left
        ·rw [if_neg c19] at H
         have c19b0 : ((bt a2 x10_2) == 105) = false := beq_eq_false_iff_ne.mpr c19
         have c19b1 : ((bt a2 x10_2) != 105) = true := bne_iff_ne.mpr c19
         have H' := Aside0.mk H
         clear H
         have p18 : 0 ≤ (x10_2 : Int) := of_decide_eq_true aS
         have q18 : x10_2 < (a2.size : Int) := of_decide_eq_true aS
         have hx18 := bt_at a2 x10_2
         replace p18 := eq_true p18
         replace q18 := eq_true q18
         go_wp2
         go_meet
         case rel => exact ⟨_, (false), eX, H', ⟨by have := HJ3.out; have := HK2.out; have := HJ12.out; first | omega | exact Nat.le_refl _⟩, ⟨by repeat (first | (with_reducible first | exact HB.out | apply below_alloc | apply pw_below_drewN | apply below_drew1) | exact HB.out)⟩⟩
        rw [if_pos c19] at H
        have c19b0 : ((bt a2 x10_2) == 105) = true := beq_iff_eq.mpr c19
        have c19b1 : ((bt a2 x10_2) != 105) = false := bne_eq_false_iff_eq.mpr c19
        clear c19
        have H' := Aside0.mk H
        clear H
        have p18 : 0 ≤ (x10_2 : Int) := of_decide_eq_true aS
        have q18 : x10_2 < (a2.size : Int) := of_decide_eq_true aS
        have hx18 := bt_at a2 x10_2
        replace p18 := eq_true p18
        replace q18 := eq_true q18
        go_wp2
        go_meet
        case rel => exact ⟨_, (decide (x8_2 < (l1.length : Int))), eX, H', ⟨by have := HJ3.out; have := HK2.out; have := HJ12.out; first | omega | exact Nat.le_refl _⟩, ⟨by repeat (first | (with_reducible first | exact HB.out | apply below_alloc | apply pw_below_drewN | apply below_drew1) | exact HB.out)⟩⟩
       case rest =>
        clear HC15
        try clear c1
        try clear p1
        try clear q1
        try clear hx1
        try clear c2
        try clear p2
        try clear c3
        try clear c6
        try clear c11
        try clear c12
        try clear c12b0
        try clear c14
        try clear c14b0
        try clear c16
        try clear c16b0
        try clear c17
        try clear c17b0
        try clear p18
        try clear q18
        try clear hx18
        try clear c19
        try clear c19b0
        try clear c19b1
        try clear p18
        try clear p2
        try clear q18
        obtain ⟨kq, x36_14, rfl, HA, HJ14, HB⟩ := hcut
        cases kq with
        | zero => exact absurd HA.out (by simp [spec_EditSum.j3])
        | succ kj14 =>
         have H := HA.out
         clear HA
         simp only [spec_EditSum.j3] at H
         by_cases c20 : x36_14 = true
         ·subst c20
          replace H := ifP (rfl) H
          have H' := Aside0.mk H
          clear H
          go_wp2
          go_roundg kj14
          case measure => have := HJ3.out; have := HK2.out; have := HJ12.out; have := HJ14.out; omega
          case rel => exact ⟨(x7_2), (wrap64 (x8_2 + 1)), (wrap64 (x9_2 + 2)), (wrap64 (x10_2 + 1)), eX, eX, eX, eX, H', ⟨by have := HJ3.out; have := HK2.out; have := HJ12.out; have := HJ14.out; omega⟩, ⟨by repeat (first | (with_reducible first | exact HB.out | apply below_alloc | apply pw_below_drewN | apply below_drew1) | exact HB.out)⟩⟩
         replace c20 := Bool.eq_false_iff.mpr c20
         subst c20
         replace H := ifN ((show ¬ (false = true) by decide)) H
         have HC21 := Aside0.mk H
         clear H
         go_upto_region 14 with (fail)
         go_cut [51] (fun v51 wc => ∃ (kq : Nat) (x51_20 : Bool), v51 = .bool x51_20 ∧ Aside0 (spec_EditSum.j4 kq l0 l1 a2 x7_2 x8_2 x9_2 x10_2 x11_12 x51_20 = some r) ∧ Aside0 (kq ≤ kj14) ∧ Aside0 (Below w.heap.size w wc))
         case first =>
          have H := HC21.out
          clear HC21
          by_cases c22 : 0 ≤ x10_2
          rotate_left
          ·rw [if_neg c22] at H
           exact absurd H (by simp)
          rw [if_pos c22] at H
          have c22b0 : decide (0 ≤ x10_2) = true := decide_eq_true c22
          clear c22
          (first | rw [c22b0] | (simp only [i64_w, i32_w]; rw [c22b0]) | skip)
          by_cases c23 : x10_2 < (a2.size : Int)
          rotate_left
          ·rw [if_neg c23] at H
           exact absurd H (by simp)
          rw [if_pos c23] at H
          have c23b0 : decide (x10_2 < (a2.size : Int)) = true := decide_eq_true c23
          clear c23
          by_cases c25 : (bt a2 x10_2) = 111
          rotate_left
          ·rw [if_neg c25] at H
           have c25b0 : ((bt a2 x10_2) == 111) = false := beq_eq_false_iff_ne.mpr c25
           have c25b1 : ((bt a2 x10_2) != 111) = true := bne_iff_ne.mpr c25
           have H' := Aside0.mk H
           clear H
           have p24 : 0 ≤ (x10_2 : Int) := of_decide_eq_true aS
           have q24 : x10_2 < (a2.size : Int) := of_decide_eq_true aS
           have hx24 := bt_at a2 x10_2
           replace p24 := eq_true p24
           replace q24 := eq_true q24
           go_wp2
           go_meet
           case rel => exact ⟨_, (false), eX, H', ⟨by have := HJ3.out; have := HK2.out; have := HJ12.out; have := HJ14.out; first | omega | exact Nat.le_refl _⟩, ⟨by repeat (first | (with_reducible first | exact HB.out | apply below_alloc | apply pw_below_drewN | apply below_drew1) | exact HB.out)⟩⟩
          rw [if_pos c25] at H
          have c25b0 : ((bt a2 x10_2) == 111) = true := beq_iff_eq.mpr c25
          have c25b1 : ((bt a2 x10_2) != 111) = false := bne_eq_false_iff_eq.mpr c25
          clear c25
          have H' := Aside0.mk H
          clear H
          have p24 : 0 ≤ (x10_2 : Int) := of_decide_eq_true aS
          have q24 : x10_2 < (a2.size : Int) := of_decide_eq_true aS
          have hx24 := bt_at a2 x10_2
          replace p24 := eq_true p24
          replace q24 := eq_true q24
          go_wp2
          go_meet
          case rel => exact ⟨_, (decide (x7_2 < (l0.length : Int))), eX, H', ⟨by have := HJ3.out; have := HK2.out; have := HJ12.out; have := HJ14.out; first | omega | exact Nat.le_refl _⟩, ⟨by repeat (first | (with_reducible first | exact HB.out | apply below_alloc | apply pw_below_drewN | apply below_drew1) | exact HB.out)⟩⟩
         case rest =>
          clear HC21
          try clear c1
          try clear p1
          try clear q1
          try clear hx1
          try clear c2
          try clear p2
          try clear q2
          try clear hx2
          try clear c3
          try clear c6
          try clear p6
          try clear c11
          try clear c12
          try clear c12b0
          try clear c14
          try clear c14b0
          try clear c16
          try clear c16b0
          try clear c17
          try clear c17b0
          try clear p18
          try clear q18
          try clear hx18
          try clear c19
          try clear c19b0
          try clear c19b1
          try clear c20
          try clear c22
          try clear c22b0
          try clear c23
          try clear c23b0
          try clear p24
          try clear q24
          try clear hx24
          try clear c25
          try clear c25b0
          try clear c25b1
          try clear p1
          try clear p18
          try clear p2
          try clear p24
          try clear q1
          try clear q18
          try clear q24
          obtain ⟨kq, x51_20, rfl, HA, HJ20, HB⟩ := hcut
          cases kq with
          | zero => exact absurd HA.out (by simp [spec_EditSum.j4])
          | succ kj20 =>
           have H := HA.out
           clear HA
           simp only [spec_EditSum.j4] at H
           by_cases c26 : x51_20 = true
           ·subst c26
            replace H := ifP (rfl) H
            have H' := Aside0.mk H
            clear H
            go_wp2
            go_roundg kj20
            case measure => have := HJ3.out; have := HK2.out; have := HJ12.out; have := HJ14.out; have := HJ20.out; omega
            case rel => exact ⟨(wrap64 (x7_2 + 1)), (x8_2), (wrap64 (x9_2 + 2)), (wrap64 (x10_2 + 1)), eX, eX, eX, eX, H', ⟨by have := HJ3.out; have := HK2.out; have := HJ12.out; have := HJ14.out; have := HJ20.out; omega⟩, ⟨by repeat (first | (with_reducible first | exact HB.out | apply below_alloc | apply pw_below_drewN | apply below_drew1) | exact HB.out)⟩⟩
           replace c26 := Bool.eq_false_iff.mpr c26
           subst c26
           replace H := ifN ((show ¬ (false = true) by decide)) H
           have HC27 := Aside0.mk H
           clear H
           go_upto_region 17 with (fail)
           go_cut [66] (fun v66 wc => ∃ (kq : Nat) (x66_26 : Bool), v66 = .bool x66_26 ∧ Aside0 (spec_EditSum.j5 kq l0 l1 a2 x7_2 x8_2 x9_2 x10_2 x11_12 x66_26 = some r) ∧ Aside0 (kq ≤ kj20) ∧ Aside0 (Below w.heap.size w wc))
           case first =>
            have H := HC27.out
            clear HC27
            by_cases c28 : 0 ≤ x10_2
            rotate_left
            ·rw [if_neg c28] at H
             exact absurd H (by simp)
            rw [if_pos c28] at H
            have c28b0 : decide (0 ≤ x10_2) = true := decide_eq_true c28
            clear c28
            (first | rw [c28b0] | (simp only [i64_w, i32_w]; rw [c28b0]) | skip)
            by_cases c29 : x10_2 < (a2.size : Int)
            rotate_left
            ·rw [if_neg c29] at H
             exact absurd H (by simp)
            rw [if_pos c29] at H
            have c29b0 : decide (x10_2 < (a2.size : Int)) = true := decide_eq_true c29
            clear c29
            by_cases c31 : (bt a2 x10_2) = 107
            rotate_left
            ·rw [if_neg c31] at H
             have c31b0 : ((bt a2 x10_2) == 107) = false := beq_eq_false_iff_ne.mpr c31
             have c31b1 : ((bt a2 x10_2) != 107) = true := bne_iff_ne.mpr c31
             have H' := Aside0.mk H
             clear H
             try go_wp2
             have n0_ := Q0_ (below_drew1 HB.out)
             clear HB; revert n0_; intro HB
             have p30 : 0 ≤ (x10_2 : Int) := of_decide_eq_true aS
             have q30 : x10_2 < (a2.size : Int) := of_decide_eq_true aS
             have hx30 := bt_at a2 x10_2
             replace p30 := eq_true p30
             replace q30 := eq_true q30
             refine start_ (n := 19) (S := fun w' => True) (ds := []) #[ff,ff,ff,ff,ff,ff,ff,ff,ff,ff,ff,ff,ff,ff,ff,ff,ff,ff,ff] (by kernel_rfl) rfl rfl trivial (fun hHeld => ?_); refine with_tabW spec_EditSum.tab17 spec_EditSum.bits17 (fun HT_ HW_ => ?_)
             generalize wc.drew = w39 at HB hHeld ⊢
             refine pQ HT_ 0 (some 67) #[tt,ff,ff,ff,ff,ff,ff,ff,ff,ff,ff,ff,ff,ff,ff,ff,ff,ff,ff] rfl rfl ?_
             refine pQ HT_ 1 (some 68) #[tt,tt,ff,ff,ff,ff,ff,ff,ff,ff,ff,ff,ff,ff,ff,ff,ff,ff,ff] rfl rfl ?_
             refine tQ HT_ HW_ 2 (some 69) #[tt,tt,tt,ff,ff,ff,ff,ff,ff,ff,ff,ff,ff,ff,ff,ff,ff,ff,ff] rfl rfl hHeld (by intro w' _; go_simp; with_reducible rfl) ?_
             refine pQ HT_ 3 (some 70) #[tt,tt,tt,tt,ff,ff,ff,ff,ff,ff,ff,ff,ff,ff,ff,ff,ff,ff,ff] rfl rfl ?_
             refine pQ HT_ 4 (some 71) #[tt,tt,tt,tt,tt,ff,ff,ff,ff,ff,ff,ff,ff,ff,ff,ff,ff,ff,ff] rfl rfl ?_
             refine pU HT_ 5 (some 72) #[tt,tt,tt,tt,tt,tt,ff,ff,ff,ff,ff,ff,ff,ff,ff,ff,ff,ff,ff] rfl rfl ?_
             refine pQ HT_ 6 (some 73) #[tt,tt,tt,tt,tt,tt,tt,ff,ff,ff,ff,ff,ff,ff,ff,ff,ff,ff,ff] rfl rfl ?_
             refine pQ HT_ 7 (some 74) #[tt,tt,tt,tt,tt,tt,tt,tt,ff,ff,ff,ff,ff,ff,ff,ff,ff,ff,ff] rfl rfl ?_
             refine pU HT_ 8 (some 75) #[tt,tt,tt,tt,tt,tt,tt,tt,tt,ff,ff,ff,ff,ff,ff,ff,ff,ff,ff] rfl rfl ?_
             refine pU HT_ 9 (some 76) #[tt,tt,tt,tt,tt,tt,tt,tt,tt,tt,ff,ff,ff,ff,ff,ff,ff,ff,ff] rfl rfl ?_
             refine pU HT_ 10 (some 77) #[tt,tt,tt,tt,tt,tt,tt,tt,tt,tt,tt,ff,ff,ff,ff,ff,ff,ff,ff] rfl rfl ?_
             refine pU HT_ 11 (some 78) #[tt,tt,tt,tt,tt,tt,tt,tt,tt,tt,tt,tt,ff,ff,ff,ff,ff,ff,ff] rfl rfl ?_
             refine pU HT_ 12 (some 79) #[tt,tt,tt,tt,tt,tt,tt,tt,tt,tt,tt,tt,tt,ff,ff,ff,ff,ff,ff] rfl rfl ?_
             refine pU HT_ 13 (some 80) #[tt,tt,tt,tt,tt,tt,tt,tt,tt,tt,tt,tt,tt,tt,ff,ff,ff,ff,ff] rfl rfl ?_
             refine pU HT_ 14 (some 81) #[tt,tt,tt,tt,tt,tt,tt,tt,tt,tt,tt,tt,tt,tt,tt,ff,ff,ff,ff] rfl rfl ?_
             refine pU HT_ 15 (some 82) #[tt,tt,tt,tt,tt,tt,tt,tt,tt,tt,tt,tt,tt,tt,tt,tt,ff,ff,ff] rfl rfl ?_
             refine pU HT_ 16 (some 83) #[tt,tt,tt,tt,tt,tt,tt,tt,tt,tt,tt,tt,tt,tt,tt,tt,tt,ff,ff] rfl rfl ?_
             refine pQ HT_ 17 (some 84) #[tt,tt,tt,tt,tt,tt,tt,tt,tt,tt,tt,tt,tt,tt,tt,tt,tt,tt,ff] rfl rfl ?_
             refine pQ HT_ 18 (some 66) #[tt,tt,tt,tt,tt,tt,tt,tt,tt,tt,tt,tt,tt,tt,tt,tt,tt,tt,tt] rfl rfl ?_
             refine done_ (done_of HT_.out (by kernel_rfl)) ?_
             try go_wp2
             go_meet
             case rel => exact ⟨_, (false), eX, H', ⟨by have := HJ3.out; have := HK2.out; have := HJ12.out; have := HJ14.out; have := HJ20.out; first | omega | exact Nat.le_refl _⟩, ⟨by repeat (first | (with_reducible first | exact HB.out | apply below_alloc | apply pw_below_drewN | apply below_drew1) | exact HB.out)⟩⟩
            rw [if_pos c31] at H
            have c31b0 : ((bt a2 x10_2) == 107) = true := beq_iff_eq.mpr c31
            have c31b1 : ((bt a2 x10_2) != 107) = false := bne_eq_false_iff_eq.mpr c31
            clear c31
            by_cases c32 : x11_12 = true
            rotate_left
            ·replace c32 := Bool.eq_false_iff.mpr c32
             subst c32
             replace H := ifN ((show ¬ (false = true) by decide)) H
             have H' := Aside0.mk H
             clear H
             try go_wp2
             have n0_ := Q0_ (below_drew1 HB.out)
             clear HB; revert n0_; intro HB
             have p30 : 0 ≤ (x10_2 : Int) := of_decide_eq_true aS
             have q30 : x10_2 < (a2.size : Int) := of_decide_eq_true aS
             have hx30 := bt_at a2 x10_2
             replace p30 := eq_true p30
             replace q30 := eq_true q30
             refine start_ (n := 19) (S := fun w' => True) (ds := []) #[ff,ff,ff,ff,ff,ff,ff,ff,ff,ff,ff,ff,ff,ff,ff,ff,ff,ff,ff] (by kernel_rfl) rfl rfl trivial (fun hHeld => ?_); refine with_tabW spec_EditSum.tab17 spec_EditSum.bits17 (fun HT_ HW_ => ?_)
             generalize wc.drew = w38 at HB hHeld ⊢
             refine pQ HT_ 0 (some 67) #[tt,ff,ff,ff,ff,ff,ff,ff,ff,ff,ff,ff,ff,ff,ff,ff,ff,ff,ff] rfl rfl ?_
             refine pQ HT_ 1 (some 68) #[tt,tt,ff,ff,ff,ff,ff,ff,ff,ff,ff,ff,ff,ff,ff,ff,ff,ff,ff] rfl rfl ?_
             refine tQ HT_ HW_ 2 (some 69) #[tt,tt,tt,ff,ff,ff,ff,ff,ff,ff,ff,ff,ff,ff,ff,ff,ff,ff,ff] rfl rfl hHeld (by intro w' _; go_simp; with_reducible rfl) ?_
             refine pQ HT_ 3 (some 70) #[tt,tt,tt,tt,ff,ff,ff,ff,ff,ff,ff,ff,ff,ff,ff,ff,ff,ff,ff] rfl rfl ?_
             refine pQ HT_ 4 (some 71) #[tt,tt,tt,tt,tt,ff,ff,ff,ff,ff,ff,ff,ff,ff,ff,ff,ff,ff,ff] rfl rfl ?_
             refine pQ HT_ 5 (some 72) #[tt,tt,tt,tt,tt,tt,ff,ff,ff,ff,ff,ff,ff,ff,ff,ff,ff,ff,ff] rfl rfl ?_
             refine pQ HT_ 6 (some 73) #[tt,tt,tt,tt,tt,tt,tt,ff,ff,ff,ff,ff,ff,ff,ff,ff,ff,ff,ff] rfl rfl ?_
             refine pQ HT_ 7 (some 74) #[tt,tt,tt,tt,tt,tt,tt,tt,ff,ff,ff,ff,ff,ff,ff,ff,ff,ff,ff] rfl rfl ?_
             refine pU HT_ 8 (some 75) #[tt,tt,tt,tt,tt,tt,tt,tt,tt,ff,ff,ff,ff,ff,ff,ff,ff,ff,ff] rfl rfl ?_
             refine pU HT_ 9 (some 76) #[tt,tt,tt,tt,tt,tt,tt,tt,tt,tt,ff,ff,ff,ff,ff,ff,ff,ff,ff] rfl rfl ?_
             refine pU HT_ 10 (some 77) #[tt,tt,tt,tt,tt,tt,tt,tt,tt,tt,tt,ff,ff,ff,ff,ff,ff,ff,ff] rfl rfl ?_
             refine pU HT_ 11 (some 78) #[tt,tt,tt,tt,tt,tt,tt,tt,tt,tt,tt,tt,ff,ff,ff,ff,ff,ff,ff] rfl rfl ?_
             refine pU HT_ 12 (some 79) #[tt,tt,tt,tt,tt,tt,tt,tt,tt,tt,tt,tt,tt,ff,ff,ff,ff,ff,ff] rfl rfl ?_
             refine pU HT_ 13 (some 80) #[tt,tt,tt,tt,tt,tt,tt,tt,tt,tt,tt,tt,tt,tt,ff,ff,ff,ff,ff] rfl rfl ?_
             refine pU HT_ 14 (some 81) #[tt,tt,tt,tt,tt,tt,tt,tt,tt,tt,tt,tt,tt,tt,tt,ff,ff,ff,ff] rfl rfl ?_
             refine pU HT_ 15 (some 82) #[tt,tt,tt,tt,tt,tt,tt,tt,tt,tt,tt,tt,tt,tt,tt,tt,ff,ff,ff] rfl rfl ?_
             refine pU HT_ 16 (some 83) #[tt,tt,tt,tt,tt,tt,tt,tt,tt,tt,tt,tt,tt,tt,tt,tt,tt,ff,ff] rfl rfl ?_
             refine pQ HT_ 17 (some 84) #[tt,tt,tt,tt,tt,tt,tt,tt,tt,tt,tt,tt,tt,tt,tt,tt,tt,tt,ff] rfl rfl ?_
             refine pQ HT_ 18 (some 66) #[tt,tt,tt,tt,tt,tt,tt,tt,tt,tt,tt,tt,tt,tt,tt,tt,tt,tt,tt] rfl rfl ?_
             refine done_ (done_of HT_.out (by kernel_rfl)) ?_
             try go_wp2
             go_meet
             case rel => exact ⟨_, (false), eX, H', ⟨by have := HJ3.out; have := HK2.out; have := HJ12.out; have := HJ14.out; have := HJ20.out; first | omega | exact Nat.le_refl _⟩, ⟨by repeat (first | (with_reducible first | exact HB.out | apply below_alloc | apply pw_below_drewN | apply below_drew1) | exact HB.out)⟩⟩
            subst c32
            replace H := ifP (rfl) H
            by_cases c33 : 0 ≤ x7_2
            rotate_left
            ·rw [if_neg c33] at H
             exact absurd H (by simp)
            rw [if_pos c33] at H
            have c33b0 : decide (0 ≤ x7_2) = true := decide_eq_true c33
            clear c33
            by_cases c34 : x7_2 < (l0.length : Int)
            rotate_left
            ·rw [if_neg c34] at H
             exact absurd H (by simp)
            rw [if_pos c34] at H
            have c34b0 : decide (x7_2 < (l0.length : Int)) = true := decide_eq_true c34
            clear c34
            by_cases c35 : 0 ≤ x8_2
            rotate_left
            ·rw [if_neg c35] at H
             exact absurd H (by simp)
            rw [if_pos c35] at H
            have c35b0 : decide (0 ≤ x8_2) = true := decide_eq_true c35
            clear c35
            by_cases c36 : x8_2 < (l1.length : Int)
            rotate_left
            ·rw [if_neg c36] at H
             exact absurd H (by simp)
            rw [if_pos c36] at H
            have c36b0 : decide (x8_2 < (l1.length : Int)) = true := decide_eq_true c36
            clear c36
            have H' := Aside0.mk H
            clear H
            try go_wp2
            have n0_ := Q0_ (below_drew1 HB.out)
            clear HB; revert n0_; intro HB
            have p30 : 0 ≤ (x10_2 : Int) := of_decide_eq_true aS
            have q30 : x10_2 < (a2.size : Int) := of_decide_eq_true aS
            have hx30 := bt_at a2 x10_2
            replace p30 := eq_true p30
            replace q30 := eq_true q30
            have p333 : 0 ≤ (x7_2 : Int) := of_decide_eq_true aS
            have q333 : x7_2 < (l0.length : Int) := of_decide_eq_true aS
            obtain ⟨ad333, e333, hx333_0, hx333_1⟩ := at_T36 HR0.out x7_2 p333 q333
            have hw333_1 := hx333_1
            have hw333_0 := hx333_0
            cases e333
            replace hx333_0 := (HB.out.cell (World.block_lt_of_cell? w _ hx333_0)).trans hx333_0
            replace hx333_1 := (HB.out.cell (World.block_lt_of_cell? w _ hx333_1)).trans hx333_1
            replace p333 := eq_true p333
            replace q333 := eq_true q333
            have p334 : 0 ≤ (x8_2 : Int) := of_decide_eq_true aS
            have q334 : x8_2 < (l1.length : Int) := of_decide_eq_true aS
            obtain ⟨ad334, e334, hx334_0, hx334_1⟩ := at_T36 HR1.out x8_2 p334 q334
            have hw334_1 := hx334_1
            have hw334_0 := hx334_0
            cases e334
            replace hx334_0 := (HB.out.cell (World.block_lt_of_cell? w _ hx334_0)).trans hx334_0
            replace hx334_1 := (HB.out.cell (World.block_lt_of_cell? w _ hx334_1)).trans hx334_1
            replace p334 := eq_true p334
            replace q334 := eq_true q334
            refine start_ (n := 19) (S := fun w' => w'.cell? (ad333.add ((x7_2).toNat * 2)) = some (.int .i64 ((rd_T36 l0 x7_2).f0)) ∧ w'.cell? ⟨(ad333.add ((x7_2).toNat * 2)).block, (ad333.add ((x7_2).toNat * 2)).off + 1, none⟩ = some (.bool ((rd_T36 l0 x7_2).f1)) ∧ w'.cell? (ad334.add ((x8_2).toNat * 2)) = some (.int .i64 ((rd_T36 l1 x8_2).f0)) ∧ w'.cell? ⟨(ad334.add ((x8_2).toNat * 2)).block, (ad334.add ((x8_2).toNat * 2)).off + 1, none⟩ = some (.bool ((rd_T36 l1 x8_2).f1))) (ds := []) #[ff,ff,ff,ff,ff,ff,ff,ff,ff,ff,ff,ff,ff,ff,ff,ff,ff,ff,ff] (by kernel_rfl) rfl rfl ⟨((HB.out.cell (World.block_lt_of_cell? w _ hw333_0)).trans hw333_0), ((HB.out.cell (World.block_lt_of_cell? w _ hw333_1)).trans hw333_1), ((HB.out.cell (World.block_lt_of_cell? w _ hw334_0)).trans hw334_0), ((HB.out.cell (World.block_lt_of_cell? w _ hw334_1)).trans hw334_1)⟩ (fun hHeld => ?_); refine with_tabW spec_EditSum.tab17 spec_EditSum.bits17 (fun HT_ HW_ => ?_)
            generalize wc.drew = w37 at HB hx333_0 hx333_1 hx334_0 hx334_1 hHeld ⊢
            refine pQ HT_ 0 (some 67) #[tt,ff,ff,ff,ff,ff,ff,ff,ff,ff,ff,ff,ff,ff,ff,ff,ff,ff,ff] rfl rfl ?_
            refine pQ HT_ 1 (some 68) #[tt,tt,ff,ff,ff,ff,ff,ff,ff,ff,ff,ff,ff,ff,ff,ff,ff,ff,ff] rfl rfl ?_
            refine tQ HT_ HW_ 2 (some 69) #[tt,tt,tt,ff,ff,ff,ff,ff,ff,ff,ff,ff,ff,ff,ff,ff,ff,ff,ff] rfl rfl hHeld (by rintro w' ⟨s0, s1, s2, s3⟩; go_simp; with_reducible rfl) ?_
            refine pQ HT_ 3 (some 70) #[tt,tt,tt,tt,ff,ff,ff,ff,ff,ff,ff,ff,ff,ff,ff,ff,ff,ff,ff] rfl rfl ?_
            refine pQ HT_ 4 (some 71) #[tt,tt,tt,tt,tt,ff,ff,ff,ff,ff,ff,ff,ff,ff,ff,ff,ff,ff,ff] rfl rfl ?_
            refine pQ HT_ 5 (some 72) #[tt,tt,tt,tt,tt,tt,ff,ff,ff,ff,ff,ff,ff,ff,ff,ff,ff,ff,ff] rfl rfl ?_
            refine pQ HT_ 6 (some 73) #[tt,tt,tt,tt,tt,tt,tt,ff,ff,ff,ff,ff,ff,ff,ff,ff,ff,ff,ff] rfl rfl ?_
            refine pQ HT_ 7 (some 74) #[tt,tt,tt,tt,tt,tt,tt,tt,ff,ff,ff,ff,ff,ff,ff,ff,ff,ff,ff] rfl rfl ?_
            refine pQ HT_ 8 (some 75) #[tt,tt,tt,tt,tt,tt,tt,tt,tt,ff,ff,ff,ff,ff,ff,ff,ff,ff,ff] rfl rfl ?_
            refine pQ HT_ 9 (some 76) #[tt,tt,tt,tt,tt,tt,tt,tt,tt,tt,ff,ff,ff,ff,ff,ff,ff,ff,ff] rfl rfl ?_
            refine pQ HT_ 10 (some 77) #[tt,tt,tt,tt,tt,tt,tt,tt,tt,tt,tt,ff,ff,ff,ff,ff,ff,ff,ff] rfl rfl ?_
            refine pQ HT_ 12 (some 79) #[tt,tt,tt,tt,tt,tt,tt,tt,tt,tt,tt,ff,tt,ff,ff,ff,ff,ff,ff] rfl rfl ?_
            refine pQ HT_ 13 (some 80) #[tt,tt,tt,tt,tt,tt,tt,tt,tt,tt,tt,ff,tt,tt,ff,ff,ff,ff,ff] rfl rfl ?_
            refine pQ HT_ 14 (some 81) #[tt,tt,tt,tt,tt,tt,tt,tt,tt,tt,tt,ff,tt,tt,tt,ff,ff,ff,ff] rfl rfl ?_
            refine tQ HT_ HW_ 11 (some 78) #[tt,tt,tt,tt,tt,tt,tt,tt,tt,tt,tt,tt,tt,tt,tt,ff,ff,ff,ff] rfl rfl hHeld (by rintro w' ⟨s0, s1, s2, s3⟩; go_simp; with_reducible rfl) ?_
            refine tQ HT_ HW_ 15 (some 82) #[tt,tt,tt,tt,tt,tt,tt,tt,tt,tt,tt,tt,tt,tt,tt,tt,ff,ff,ff] rfl rfl hHeld (by rintro w' ⟨s0, s1, s2, s3⟩; go_simp; with_reducible rfl) ?_
            refine pQ HT_ 16 (some 83) #[tt,tt,tt,tt,tt,tt,tt,tt,tt,tt,tt,tt,tt,tt,tt,tt,tt,ff,ff] rfl rfl ?_
            refine pQ HT_ 17 (some 84) #[tt,tt,tt,tt,tt,tt,tt,tt,tt,tt,tt,tt,tt,tt,tt,tt,tt,tt,ff] rfl rfl ?_
            refine pQ HT_ 18 (some 66) #[tt,tt,tt,tt,tt,tt,tt,tt,tt,tt,tt,tt,tt,tt,tt,tt,tt,tt,tt] rfl rfl ?_
            refine done_ (done_of HT_.out (by kernel_rfl)) ?_
            try go_wp2
            go_meet
            case rel => exact ⟨_, ((((rd_T36 l0 x7_2).f0) == ((rd_T36 l1 x8_2).f0) && (((rd_T36 l0 x7_2).f1) == ((rd_T36 l1 x8_2).f1)))), eX, H', ⟨by have := HJ3.out; have := HK2.out; have := HJ12.out; have := HJ14.out; have := HJ20.out; first | omega | exact Nat.le_refl _⟩, ⟨by repeat (first | (with_reducible first | exact HB.out | apply below_alloc | apply pw_below_drewN | apply below_drew1) | exact HB.out)⟩⟩
           case rest =>
            clear HC27
            try clear c1
            try clear p1
            try clear q1
            try clear hx1
            try clear c2
            try clear p2
            try clear q2
            try clear hx2
            try clear c3
            try clear p3
            try clear q3
            try clear hx3
            try clear c6
            try clear p6
            try clear c11
            try clear c12
            try clear c12b0
            try clear c14
            try clear c14b0
            try clear c16
            try clear c16b0
            try clear c17
            try clear c17b0
            try clear p18
            try clear q18
            try clear hx18
            try clear c19
            try clear c19b0
            try clear c19b1
            try clear c20
            try clear c22
            try clear c22b0
            try clear c23
            try clear c23b0
            try clear p24
            try clear q24
            try clear hx24
            try clear c25
            try clear c25b0
            try clear c25b1
            try clear c26
            try clear c28
            try clear c28b0
            try clear c29
            try clear c29b0
            try clear p30
            try clear q30
            try clear hx30
            try clear c31
            try clear c31b0
            try clear c31b1
            try clear c32
            try clear c33
            try clear c33b0
            try clear p33
            try clear q33
            try clear hx33
            try clear c34
            try clear c34b0
            try clear c35
            try clear c35b0
            try clear c36
            try clear c36b0
            try clear hx333_0
            try clear hx333_1
            try clear hx334_0
            try clear hx334_1
            try clear p1
            try clear p18
            try clear p2
            try clear p24
            try clear p30
            try clear p333
            try clear p334
            try clear p6
            try clear q1
            try clear q18
            try clear q2
            try clear q24
            try clear q30
            try clear q333
            try clear q334
            obtain ⟨kq, x66_26, rfl, HA, HJ26, HB⟩ := hcut
            cases kq with
            | zero => exact absurd HA.out (by simp [spec_EditSum.j5])
            | succ kj26 =>
             have H := HA.out
             clear HA
             simp only [spec_EditSum.j5] at H
             by_cases c40 : x66_26 = true
             ·subst c40
              replace H := ifP (rfl) H
              have H' := Aside0.mk H
              clear H
              go_wp2
              go_roundg kj26
              case measure => have := HJ3.out; have := HK2.out; have := HJ12.out; have := HJ14.out; have := HJ20.out; have := HJ26.out; omega
              case rel => exact ⟨(wrap64 (x7_2 + 1)), (wrap64 (x8_2 + 1)), (x9_2), (wrap64 (x10_2 + 1)), eX, eX, eX, eX, H', ⟨by have := HJ3.out; have := HK2.out; have := HJ12.out; have := HJ14.out; have := HJ20.out; have := HJ26.out; omega⟩, ⟨by repeat (first | (with_reducible first | exact HB.out | apply below_alloc | apply pw_below_drewN | apply below_drew1) | exact HB.out)⟩⟩
             replace c40 := Bool.eq_false_iff.mpr c40
             subst c40
             replace H := ifN ((show ¬ (false = true) by decide)) H
             by_cases c41 : 0 ≤ x10_2
             rotate_left
             ·rw [if_neg c41] at H
              exact absurd H (by simp)
             rw [if_pos c41] at H
             have c41b0 : decide (0 ≤ x10_2) = true := decide_eq_true c41
             clear c41
             by_cases c42 : x10_2 < (a2.size : Int)
             rotate_left
             ·rw [if_neg c42] at H
              exact absurd H (by simp)
             rw [if_pos c42] at H
             have c42b0 : decide (x10_2 < (a2.size : Int)) = true := decide_eq_true c42
             clear c42
             by_cases c44 : (bt a2 x10_2) = 114
             rotate_left
             ·rw [if_neg c44] at H
              have c44b0 : ((bt a2 x10_2) == 114) = false := beq_eq_false_iff_ne.mpr c44
              have c44b1 : ((bt a2 x10_2) != 114) = true := bne_iff_ne.mpr c44
              obtain rfl := Option.some.inj H
              try go_wp2
              have n0_ := Q0_ (below_drew1 HB.out)
              clear HB; revert n0_; intro HB
              have p43 : 0 ≤ (x10_2 : Int) := of_decide_eq_true aS
              have q43 : x10_2 < (a2.size : Int) := of_decide_eq_true aS
              have hx43 := bt_at a2 x10_2
              replace p43 := eq_true p43
              replace q43 := eq_true q43
              refine start_ (n := 19) (S := fun w' => True) (ds := []) #[ff,ff,ff,ff,ff,ff,ff,ff,ff,ff,ff,ff,ff,ff,ff,ff,ff,ff,ff] (by kernel_rfl) rfl rfl trivial (fun hHeld => ?_); refine with_tabW spec_EditSum.tab20 spec_EditSum.bits20 (fun HT_ HW_ => ?_)
              generalize wc.drew = w57 at HB hHeld ⊢
              refine pQ HT_ 0 (some 90) #[tt,ff,ff,ff,ff,ff,ff,ff,ff,ff,ff,ff,ff,ff,ff,ff,ff,ff,ff] rfl rfl ?_
              refine pQ HT_ 1 (some 91) #[tt,tt,ff,ff,ff,ff,ff,ff,ff,ff,ff,ff,ff,ff,ff,ff,ff,ff,ff] rfl rfl ?_
              refine tQ HT_ HW_ 2 (some 92) #[tt,tt,tt,ff,ff,ff,ff,ff,ff,ff,ff,ff,ff,ff,ff,ff,ff,ff,ff] rfl rfl hHeld (by intro w' _; go_simp; with_reducible rfl) ?_
              refine pQ HT_ 3 (some 93) #[tt,tt,tt,tt,ff,ff,ff,ff,ff,ff,ff,ff,ff,ff,ff,ff,ff,ff,ff] rfl rfl ?_
              refine pQ HT_ 4 (some 94) #[tt,tt,tt,tt,tt,ff,ff,ff,ff,ff,ff,ff,ff,ff,ff,ff,ff,ff,ff] rfl rfl ?_
              refine pU HT_ 5 (some 95) #[tt,tt,tt,tt,tt,tt,ff,ff,ff,ff,ff,ff,ff,ff,ff,ff,ff,ff,ff] rfl rfl ?_
              refine pQ HT_ 6 (some 96) #[tt,tt,tt,tt,tt,tt,tt,ff,ff,ff,ff,ff,ff,ff,ff,ff,ff,ff,ff] rfl rfl ?_
              refine pQ HT_ 7 (some 97) #[tt,tt,tt,tt,tt,tt,tt,tt,ff,ff,ff,ff,ff,ff,ff,ff,ff,ff,ff] rfl rfl ?_
              refine pU HT_ 8 (some 98) #[tt,tt,tt,tt,tt,tt,tt,tt,tt,ff,ff,ff,ff,ff,ff,ff,ff,ff,ff] rfl rfl ?_
              refine pU HT_ 9 (some 99) #[tt,tt,tt,tt,tt,tt,tt,tt,tt,tt,ff,ff,ff,ff,ff,ff,ff,ff,ff] rfl rfl ?_
              refine pU HT_ 10 (some 100) #[tt,tt,tt,tt,tt,tt,tt,tt,tt,tt,tt,ff,ff,ff,ff,ff,ff,ff,ff] rfl rfl ?_
              refine pU HT_ 11 (some 101) #[tt,tt,tt,tt,tt,tt,tt,tt,tt,tt,tt,tt,ff,ff,ff,ff,ff,ff,ff] rfl rfl ?_
              refine pU HT_ 12 (some 102) #[tt,tt,tt,tt,tt,tt,tt,tt,tt,tt,tt,tt,tt,ff,ff,ff,ff,ff,ff] rfl rfl ?_
              refine pU HT_ 13 (some 103) #[tt,tt,tt,tt,tt,tt,tt,tt,tt,tt,tt,tt,tt,tt,ff,ff,ff,ff,ff] rfl rfl ?_
              refine pU HT_ 14 (some 104) #[tt,tt,tt,tt,tt,tt,tt,tt,tt,tt,tt,tt,tt,tt,tt,ff,ff,ff,ff] rfl rfl ?_
              refine pU HT_ 15 (some 105) #[tt,tt,tt,tt,tt,tt,tt,tt,tt,tt,tt,tt,tt,tt,tt,tt,ff,ff,ff] rfl rfl ?_
              refine pU HT_ 16 (some 106) #[tt,tt,tt,tt,tt,tt,tt,tt,tt,tt,tt,tt,tt,tt,tt,tt,tt,ff,ff] rfl rfl ?_
              refine pQ HT_ 17 (some 107) #[tt,tt,tt,tt,tt,tt,tt,tt,tt,tt,tt,tt,tt,tt,tt,tt,tt,tt,ff] rfl rfl ?_
              refine pQ HT_ 18 (some 89) #[tt,tt,tt,tt,tt,tt,tt,tt,tt,tt,tt,tt,tt,tt,tt,tt,tt,tt,tt] rfl rfl ?_
              refine done_ (done_of HT_.out (by kernel_rfl)) ?_
              try go_wp2
              go_ret
              exact ⟨by first | rfl | (simp [errW_none, errW_some] <;> rfl) | (simp [*, errW_none, errW_some] <;> rfl), by repeat (first | (with_reducible first | exact HB.out | apply below_alloc | apply pw_below_drewN | apply below_drew1) | exact HB.out)⟩
             rw [if_pos c44] at H
             have c44b0 : ((bt a2 x10_2) == 114) = true := beq_iff_eq.mpr c44
             have c44b1 : ((bt a2 x10_2) != 114) = false := bne_eq_false_iff_eq.mpr c44
             clear c44
             by_cases c45 : x11_12 = true
             rotate_left
             ·replace c45 := Bool.eq_false_iff.mpr c45
              subst c45
              replace H := ifN ((show ¬ (false = true) by decide)) H
              obtain rfl := Option.some.inj H
              try go_wp2
              have n0_ := Q0_ (below_drew1 HB.out)
              clear HB; revert n0_; intro HB
              have p43 : 0 ≤ (x10_2 : Int) := of_decide_eq_true aS
              have q43 : x10_2 < (a2.size : Int) := of_decide_eq_true aS
              have hx43 := bt_at a2 x10_2
              replace p43 := eq_true p43
              replace q43 := eq_true q43
              refine start_ (n := 19) (S := fun w' => True) (ds := []) #[ff,ff,ff,ff,ff,ff,ff,ff,ff,ff,ff,ff,ff,ff,ff,ff,ff,ff,ff] (by kernel_rfl) rfl rfl trivial (fun hHeld => ?_); refine with_tabW spec_EditSum.tab20 spec_EditSum.bits20 (fun HT_ HW_ => ?_)
              generalize wc.drew = w56 at HB hHeld ⊢
              refine pQ HT_ 0 (some 90) #[tt,ff,ff,ff,ff,ff,ff,ff,ff,ff,ff,ff,ff,ff,ff,ff,ff,ff,ff] rfl rfl ?_
              refine pQ HT_ 1 (some 91) #[tt,tt,ff,ff,ff,ff,ff,ff,ff,ff,ff,ff,ff,ff,ff,ff,ff,ff,ff] rfl rfl ?_
              refine tQ HT_ HW_ 2 (some 92) #[tt,tt,tt,ff,ff,ff,ff,ff,ff,ff,ff,ff,ff,ff,ff,ff,ff,ff,ff] rfl rfl hHeld (by intro w' _; go_simp; with_reducible rfl) ?_
              refine pQ HT_ 3 (some 93) #[tt,tt,tt,tt,ff,ff,ff,ff,ff,ff,ff,ff,ff,ff,ff,ff,ff,ff,ff] rfl rfl ?_
              refine pQ HT_ 4 (some 94) #[tt,tt,tt,tt,tt,ff,ff,ff,ff,ff,ff,ff,ff,ff,ff,ff,ff,ff,ff] rfl rfl ?_
              refine pQ HT_ 5 (some 95) #[tt,tt,tt,tt,tt,tt,ff,ff,ff,ff,ff,ff,ff,ff,ff,ff,ff,ff,ff] rfl rfl ?_
              refine pQ HT_ 6 (some 96) #[tt,tt,tt,tt,tt,tt,tt,ff,ff,ff,ff,ff,ff,ff,ff,ff,ff,ff,ff] rfl rfl ?_
              refine pQ HT_ 7 (some 97) #[tt,tt,tt,tt,tt,tt,tt,tt,ff,ff,ff,ff,ff,ff,ff,ff,ff,ff,ff] rfl rfl ?_
              refine pU HT_ 8 (some 98) #[tt,tt,tt,tt,tt,tt,tt,tt,tt,ff,ff,ff,ff,ff,ff,ff,ff,ff,ff] rfl rfl ?_
              refine pU HT_ 9 (some 99) #[tt,tt,tt,tt,tt,tt,tt,tt,tt,tt,ff,ff,ff,ff,ff,ff,ff,ff,ff] rfl rfl ?_
              refine pU HT_ 10 (some 100) #[tt,tt,tt,tt,tt,tt,tt,tt,tt,tt,tt,ff,ff,ff,ff,ff,ff,ff,ff] rfl rfl ?_
              refine pU HT_ 11 (some 101) #[tt,tt,tt,tt,tt,tt,tt,tt,tt,tt,tt,tt,ff,ff,ff,ff,ff,ff,ff] rfl rfl ?_
              refine pU HT_ 12 (some 102) #[tt,tt,tt,tt,tt,tt,tt,tt,tt,tt,tt,tt,tt,ff,ff,ff,ff,ff,ff] rfl rfl ?_
              refine pU HT_ 13 (some 103) #[tt,tt,tt,tt,tt,tt,tt,tt,tt,tt,tt,tt,tt,tt,ff,ff,ff,ff,ff] rfl rfl ?_
              refine pU HT_ 14 (some 104) #[tt,tt,tt,tt,tt,tt,tt,tt,tt,tt,tt,tt,tt,tt,tt,ff,ff,ff,ff] rfl rfl ?_
              refine pU HT_ 15 (some 105) #[tt,tt,tt,tt,tt,tt,tt,tt,tt,tt,tt,tt,tt,tt,tt,tt,ff,ff,ff] rfl rfl ?_
              refine pU HT_ 16 (some 106) #[tt,tt,tt,tt,tt,tt,tt,tt,tt,tt,tt,tt,tt,tt,tt,tt,tt,ff,ff] rfl rfl ?_
              refine pQ HT_ 17 (some 107) #[tt,tt,tt,tt,tt,tt,tt,tt,tt,tt,tt,tt,tt,tt,tt,tt,tt,tt,ff] rfl rfl ?_
              refine pQ HT_ 18 (some 89) #[tt,tt,tt,tt,tt,tt,tt,tt,tt,tt,tt,tt,tt,tt,tt,tt,tt,tt,tt] rfl rfl ?_
              refine done_ (done_of HT_.out (by kernel_rfl)) ?_
              try go_wp2
              go_ret
              exact ⟨by first | rfl | (simp [errW_none, errW_some] <;> rfl) | (simp [*, errW_none, errW_some] <;> rfl), by repeat (first | (with_reducible first | exact HB.out | apply below_alloc | apply pw_below_drewN | apply below_drew1) | exact HB.out)⟩
             subst c45
             replace H := ifP (rfl) H
             by_cases c46 : 0 ≤ x7_2
             rotate_left
             ·rw [if_neg c46] at H
              exact absurd H (by simp)
             rw [if_pos c46] at H
             have c46b0 : decide (0 ≤ x7_2) = true := decide_eq_true c46
             clear c46
             by_cases c47 : x7_2 < (l0.length : Int)
             rotate_left
             ·rw [if_neg c47] at H
              exact absurd H (by simp)
             rw [if_pos c47] at H
             have c47b0 : decide (x7_2 < (l0.length : Int)) = true := decide_eq_true c47
             clear c47
             by_cases c48 : 0 ≤ x8_2
             rotate_left
             ·rw [if_neg c48] at H
              exact absurd H (by simp)
             rw [if_pos c48] at H
             have c48b0 : decide (0 ≤ x8_2) = true := decide_eq_true c48
             clear c48
             by_cases c49 : x8_2 < (l1.length : Int)
             rotate_left
             ·rw [if_neg c49] at H
              exact absurd H (by simp)
             rw [if_pos c49] at H
             have c49b0 : decide (x8_2 < (l1.length : Int)) = true := decide_eq_true c49
             clear c49
             by_cases c50 : (!(((rd_T36 l0 x7_2).f0) == ((rd_T36 l1 x8_2).f0)) || (!(((rd_T36 l0 x7_2).f1) == ((rd_T36 l1 x8_2).f1)))) = true
             rotate_left
             ·rw [if_neg c50] at H
              have c50b0 : (!(((rd_T36 l0 x7_2).f0) == ((rd_T36 l1 x8_2).f0)) || (!(((rd_T36 l0 x7_2).f1) == ((rd_T36 l1 x8_2).f1)))) = false := by simpa using c50
              clear c50
              obtain rfl := Option.some.inj H
              try go_wp2
              have n0_ := Q0_ (below_drew1 HB.out)
              clear HB; revert n0_; intro HB
              have p43 : 0 ≤ (x10_2 : Int) := of_decide_eq_true aS
              have q43 : x10_2 < (a2.size : Int) := of_decide_eq_true aS
              have hx43 := bt_at a2 x10_2
              replace p43 := eq_true p43
              replace q43 := eq_true q43
              have p335 : 0 ≤ (x7_2 : Int) := of_decide_eq_true aS
              have q335 : x7_2 < (l0.length : Int) := of_decide_eq_true aS
              obtain ⟨ad335, e335, hx335_0, hx335_1⟩ := at_T36 HR0.out x7_2 p335 q335
              have hw335_1 := hx335_1
              have hw335_0 := hx335_0
              cases e335
              replace hx335_0 := (HB.out.cell (World.block_lt_of_cell? w _ hx335_0)).trans hx335_0
              replace hx335_1 := (HB.out.cell (World.block_lt_of_cell? w _ hx335_1)).trans hx335_1
              replace p335 := eq_true p335
              replace q335 := eq_true q335
              have p336 : 0 ≤ (x8_2 : Int) := of_decide_eq_true aS
              have q336 : x8_2 < (l1.length : Int) := of_decide_eq_true aS
              obtain ⟨ad336, e336, hx336_0, hx336_1⟩ := at_T36 HR1.out x8_2 p336 q336
              have hw336_1 := hx336_1
              have hw336_0 := hx336_0
              cases e336
              replace hx336_0 := (HB.out.cell (World.block_lt_of_cell? w _ hx336_0)).trans hx336_0
              replace hx336_1 := (HB.out.cell (World.block_lt_of_cell? w _ hx336_1)).trans hx336_1
              replace p336 := eq_true p336
              replace q336 := eq_true q336
              refine start_ (n := 19) (S := fun w' => w'.cell? (ad335.add ((x7_2).toNat * 2)) = some (.int .i64 ((rd_T36 l0 x7_2).f0)) ∧ w'.cell? ⟨(ad335.add ((x7_2).toNat * 2)).block, (ad335.add ((x7_2).toNat * 2)).off + 1, none⟩ = some (.bool ((rd_T36 l0 x7_2).f1)) ∧ w'.cell? (ad336.add ((x8_2).toNat * 2)) = some (.int .i64 ((rd_T36 l1 x8_2).f0)) ∧ w'.cell? ⟨(ad336.add ((x8_2).toNat * 2)).block, (ad336.add ((x8_2).toNat * 2)).off + 1, none⟩ = some (.bool ((rd_T36 l1 x8_2).f1))) (ds := []) #[ff,ff,ff,ff,ff,ff,ff,ff,ff,ff,ff,ff,ff,ff,ff,ff,ff,ff,ff] (by kernel_rfl) rfl rfl ⟨((HB.out.cell (World.block_lt_of_cell? w _ hw335_0)).trans hw335_0), ((HB.out.cell (World.block_lt_of_cell? w _ hw335_1)).trans hw335_1), ((HB.out.cell (World.block_lt_of_cell? w _ hw336_0)).trans hw336_0), ((HB.out.cell (World.block_lt_of_cell? w _ hw336_1)).trans hw336_1)⟩ (fun hHeld => ?_); refine with_tabW spec_EditSum.tab20 spec_EditSum.bits20 (fun HT_ HW_ => ?_)
              generalize wc.drew = w55 at HB hx335_0 hx335_1 hx336_0 hx336_1 hHeld ⊢
              refine pQ HT_ 0 (some 90) #[tt,ff,ff,ff,ff,ff,ff,ff,ff,ff,ff,ff,ff,ff,ff,ff,ff,ff,ff] rfl rfl ?_
              refine pQ HT_ 1 (some 91) #[tt,tt,ff,ff,ff,ff,ff,ff,ff,ff,ff,ff,ff,ff,ff,ff,ff,ff,ff] rfl rfl ?_
              refine tQ HT_ HW_ 2 (some 92) #[tt,tt,tt,ff,ff,ff,ff,ff,ff,ff,ff,ff,ff,ff,ff,ff,ff,ff,ff] rfl rfl hHeld (by rintro w' ⟨s0, s1, s2, s3⟩; go_simp; with_reducible rfl) ?_
              refine pQ HT_ 3 (some 93) #[tt,tt,tt,tt,ff,ff,ff,ff,ff,ff,ff,ff,ff,ff,ff,ff,ff,ff,ff] rfl rfl ?_
              refine pQ HT_ 4 (some 94) #[tt,tt,tt,tt,tt,ff,ff,ff,ff,ff,ff,ff,ff,ff,ff,ff,ff,ff,ff] rfl rfl ?_
              refine pQ HT_ 5 (some 95) #[tt,tt,tt,tt,tt,tt,ff,ff,ff,ff,ff,ff,ff,ff,ff,ff,ff,ff,ff] rfl rfl ?_
              refine pQ HT_ 6 (some 96) #[tt,tt,tt,tt,tt,tt,tt,ff,ff,ff,ff,ff,ff,ff,ff,ff,ff,ff,ff] rfl rfl ?_
              refine pQ HT_ 7 (some 97) #[tt,tt,tt,tt,tt,tt,tt,tt,ff,ff,ff,ff,ff,ff,ff,ff,ff,ff,ff] rfl rfl ?_
              refine pQ HT_ 8 (some 98) #[tt,tt,tt,tt,tt,tt,tt,tt,tt,ff,ff,ff,ff,ff,ff,ff,ff,ff,ff] rfl rfl ?_
              refine pQ HT_ 9 (some 99) #[tt,tt,tt,tt,tt,tt,tt,tt,tt,tt,ff,ff,ff,ff,ff,ff,ff,ff,ff] rfl rfl ?_
              refine pQ HT_ 10 (some 100) #[tt,tt,tt,tt,tt,tt,tt,tt,tt,tt,tt,ff,ff,ff,ff,ff,ff,ff,ff] rfl rfl ?_
              refine pQ HT_ 12 (some 102) #[tt,tt,tt,tt,tt,tt,tt,tt,tt,tt,tt,ff,tt,ff,ff,ff,ff,ff,ff] rfl rfl ?_
              refine pQ HT_ 13 (some 103) #[tt,tt,tt,tt,tt,tt,tt,tt,tt,tt,tt,ff,tt,tt,ff,ff,ff,ff,ff] rfl rfl ?_
              refine pQ HT_ 14 (some 104) #[tt,tt,tt,tt,tt,tt,tt,tt,tt,tt,tt,ff,tt,tt,tt,ff,ff,ff,ff] rfl rfl ?_
              refine tQ HT_ HW_ 11 (some 101) #[tt,tt,tt,tt,tt,tt,tt,tt,tt,tt,tt,tt,tt,tt,tt,ff,ff,ff,ff] rfl rfl hHeld (by rintro w' ⟨s0, s1, s2, s3⟩; go_simp; with_reducible rfl) ?_
              refine tQ HT_ HW_ 15 (some 105) #[tt,tt,tt,tt,tt,tt,tt,tt,tt,tt,tt,tt,tt,tt,tt,tt,ff,ff,ff] rfl rfl hHeld (by rintro w' ⟨s0, s1, s2, s3⟩; go_simp; with_reducible rfl) ?_
              refine pQ HT_ 16 (some 106) #[tt,tt,tt,tt,tt,tt,tt,tt,tt,tt,tt,tt,tt,tt,tt,tt,tt,ff,ff] rfl rfl ?_
              refine pQ HT_ 17 (some 107) #[tt,tt,tt,tt,tt,tt,tt,tt,tt,tt,tt,tt,tt,tt,tt,tt,tt,tt,ff] rfl rfl ?_
              refine pQ HT_ 18 (some 89) #[tt,tt,tt,tt,tt,tt,tt,tt,tt,tt,tt,tt,tt,tt,tt,tt,tt,tt,tt] rfl rfl ?_
              refine done_ (done_of HT_.out (by kernel_rfl)) ?_
              try go_wp2
              go_ret
              exact ⟨by first | rfl | (simp [errW_none, errW_some] <;> rfl) | (simp [*, errW_none, errW_some] <;> rfl), by repeat (first | (with_reducible first | exact HB.out | apply below_alloc | apply pw_below_drewN | apply below_drew1) | exact HB.out)⟩
             rw [if_pos c50] at H
             have c50b0 : (!(((rd_T36 l0 x7_2).f0) == ((rd_T36 l1 x8_2).f0)) || (!(((rd_T36 l0 x7_2).f1) == ((rd_T36 l1 x8_2).f1)))) = true := c50
             clear c50
             obtain ⟨t339, A510, H⟩ := Option.bind_eq_some_iff.mp H
             try dsimp only at H
             have A51 := Aside0.mk A510
             clear A510
             have H' := Aside0.mk H
             clear H
             try go_wp2
             have n0_ := Q0_ (below_drew1 HB.out)
             clear HB; revert n0_; intro HB
             have p43 : 0 ≤ (x10_2 : Int) := of_decide_eq_true aS
             have q43 : x10_2 < (a2.size : Int) := of_decide_eq_true aS
             have hx43 := bt_at a2 x10_2
             replace p43 := eq_true p43
             replace q43 := eq_true q43
             have p335 : 0 ≤ (x7_2 : Int) := of_decide_eq_true aS
             have q335 : x7_2 < (l0.length : Int) := of_decide_eq_true aS
             obtain ⟨ad335, e335, hx335_0, hx335_1⟩ := at_T36 HR0.out x7_2 p335 q335
             have hw335_1 := hx335_1
             have hw335_0 := hx335_0
             cases e335
             replace hx335_0 := (HB.out.cell (World.block_lt_of_cell? w _ hx335_0)).trans hx335_0
             replace hx335_1 := (HB.out.cell (World.block_lt_of_cell? w _ hx335_1)).trans hx335_1
             replace p335 := eq_true p335
             replace q335 := eq_true q335
             have p336 : 0 ≤ (x8_2 : Int) := of_decide_eq_true aS
             have q336 : x8_2 < (l1.length : Int) := of_decide_eq_true aS
             obtain ⟨ad336, e336, hx336_0, hx336_1⟩ := at_T36 HR1.out x8_2 p336 q336
             have hw336_1 := hx336_1
             have hw336_0 := hx336_0
             cases e336
             replace hx336_0 := (HB.out.cell (World.block_lt_of_cell? w _ hx336_0)).trans hx336_0
             replace hx336_1 := (HB.out.cell (World.block_lt_of_cell? w _ hx336_1)).trans hx336_1
             replace p336 := eq_true p336
             replace q336 := eq_true q336
             refine start_ (n := 19) (S := fun w' => w'.cell? (ad335.add ((x7_2).toNat * 2)) = some (.int .i64 ((rd_T36 l0 x7_2).f0)) ∧ w'.cell? ⟨(ad335.add ((x7_2).toNat * 2)).block, (ad335.add ((x7_2).toNat * 2)).off + 1, none⟩ = some (.bool ((rd_T36 l0 x7_2).f1)) ∧ w'.cell? (ad336.add ((x8_2).toNat * 2)) = some (.int .i64 ((rd_T36 l1 x8_2).f0)) ∧ w'.cell? ⟨(ad336.add ((x8_2).toNat * 2)).block, (ad336.add ((x8_2).toNat * 2)).off + 1, none⟩ = some (.bool ((rd_T36 l1 x8_2).f1))) (ds := []) #[ff,ff,ff,ff,ff,ff,ff,ff,ff,ff,ff,ff,ff,ff,ff,ff,ff,ff,ff] (by kernel_rfl) rfl rfl ⟨((HB.out.cell (World.block_lt_of_cell? w _ hw335_0)).trans hw335_0), ((HB.out.cell (World.block_lt_of_cell? w _ hw335_1)).trans hw335_1), ((HB.out.cell (World.block_lt_of_cell? w _ hw336_0)).trans hw336_0), ((HB.out.cell (World.block_lt_of_cell? w _ hw336_1)).trans hw336_1)⟩ (fun hHeld => ?_); refine with_tabW spec_EditSum.tab20 spec_EditSum.bits20 (fun HT_ HW_ => ?_)
             generalize wc.drew = w52 at HB hx335_0 hx335_1 hx336_0 hx336_1 hHeld ⊢
             refine pQ HT_ 0 (some 90) #[tt,ff,ff,ff,ff,ff,ff,ff,ff,ff,ff,ff,ff,ff,ff,ff,ff,ff,ff] rfl rfl ?_
             refine pQ HT_ 1 (some 91) #[tt,tt,ff,ff,ff,ff,ff,ff,ff,ff,ff,ff,ff,ff,ff,ff,ff,ff,ff] rfl rfl ?_
             refine tQ HT_ HW_ 2 (some 92) #[tt,tt,tt,ff,ff,ff,ff,ff,ff,ff,ff,ff,ff,ff,ff,ff,ff,ff,ff] rfl rfl hHeld (by rintro w' ⟨s0, s1, s2, s3⟩; go_simp; with_reducible rfl) ?_
             refine pQ HT_ 3 (some 93) #[tt,tt,tt,tt,ff,ff,ff,ff,ff,ff,ff,ff,ff,ff,ff,ff,ff,ff,ff] rfl rfl ?_
             refine pQ HT_ 4 (some 94) #[tt,tt,tt,tt,tt,ff,ff,ff,ff,ff,ff,ff,ff,ff,ff,ff,ff,ff,ff] rfl rfl ?_
             refine pQ HT_ 5 (some 95) #[tt,tt,tt,tt,tt,tt,ff,ff,ff,ff,ff,ff,ff,ff,ff,ff,ff,ff,ff] rfl rfl ?_
             refine pQ HT_ 6 (some 96) #[tt,tt,tt,tt,tt,tt,tt,ff,ff,ff,ff,ff,ff,ff,ff,ff,ff,ff,ff] rfl rfl ?_
             refine pQ HT_ 7 (some 97) #[tt,tt,tt,tt,tt,tt,tt,tt,ff,ff,ff,ff,ff,ff,ff,ff,ff,ff,ff] rfl rfl ?_
             refine pQ HT_ 8 (some 98) #[tt,tt,tt,tt,tt,tt,tt,tt,tt,ff,ff,ff,ff,ff,ff,ff,ff,ff,ff] rfl rfl ?_
             refine pQ HT_ 9 (some 99) #[tt,tt,tt,tt,tt,tt,tt,tt,tt,tt,ff,ff,ff,ff,ff,ff,ff,ff,ff] rfl rfl ?_
             refine pQ HT_ 10 (some 100) #[tt,tt,tt,tt,tt,tt,tt,tt,tt,tt,tt,ff,ff,ff,ff,ff,ff,ff,ff] rfl rfl ?_
             refine pQ HT_ 12 (some 102) #[tt,tt,tt,tt,tt,tt,tt,tt,tt,tt,tt,ff,tt,ff,ff,ff,ff,ff,ff] rfl rfl ?_
             refine pQ HT_ 13 (some 103) #[tt,tt,tt,tt,tt,tt,tt,tt,tt,tt,tt,ff,tt,tt,ff,ff,ff,ff,ff] rfl rfl ?_
             refine pQ HT_ 14 (some 104) #[tt,tt,tt,tt,tt,tt,tt,tt,tt,tt,tt,ff,tt,tt,tt,ff,ff,ff,ff] rfl rfl ?_
             refine tQ HT_ HW_ 11 (some 101) #[tt,tt,tt,tt,tt,tt,tt,tt,tt,tt,tt,tt,tt,tt,tt,ff,ff,ff,ff] rfl rfl hHeld (by rintro w' ⟨s0, s1, s2, s3⟩; go_simp; with_reducible rfl) ?_
             refine tQ HT_ HW_ 15 (some 105) #[tt,tt,tt,tt,tt,tt,tt,tt,tt,tt,tt,tt,tt,tt,tt,tt,ff,ff,ff] rfl rfl hHeld (by rintro w' ⟨s0, s1, s2, s3⟩; go_simp; with_reducible rfl) ?_
             refine pQ HT_ 16 (some 106) #[tt,tt,tt,tt,tt,tt,tt,tt,tt,tt,tt,tt,tt,tt,tt,tt,tt,ff,ff] rfl rfl ?_
             refine pQ HT_ 17 (some 107) #[tt,tt,tt,tt,tt,tt,tt,tt,tt,tt,tt,tt,tt,tt,tt,tt,tt,tt,ff] rfl rfl ?_
             refine pQ HT_ 18 (some 89) #[tt,tt,tt,tt,tt,tt,tt,tt,tt,tt,tt,tt,tt,tt,tt,tt,tt,tt,tt] rfl rfl ?_
             refine done_ (done_of HT_.out (by kernel_rfl)) ?_
             try go_wp2
             have n0_ := Q0_ (below_drew1 HB.out)
             clear HB; revert n0_; intro HB
             have p337 : 0 ≤ (x7_2 : Int) := of_decide_eq_true aS
             have q337 : x7_2 < (l0.length : Int) := of_decide_eq_true aS
             obtain ⟨ad337, e337, hx337_0, hx337_1⟩ := at_T36 HR0.out x7_2 p337 q337
             have hw337_1 := hx337_1
             have hw337_0 := hx337_0
             obtain rfl : ad335 = ad337 := (by injection e337)
             replace hx337_0 := (HB.out.cell (World.block_lt_of_cell? w _ hx337_0)).trans hx337_0
             replace hx337_1 := (HB.out.cell (World.block_lt_of_cell? w _ hx337_1)).trans hx337_1
             replace p337 := eq_true p337
             replace q337 := eq_true q337
             have p338 : 0 ≤ (x8_2 : Int) := of_decide_eq_true aS
             have q338 : x8_2 < (l1.length : Int) := of_decide_eq_true aS
             obtain ⟨ad338, e338, hx338_0, hx338_1⟩ := at_T36 HR1.out x8_2 p338 q338
             have hw338_1 := hx338_1
             have hw338_0 := hx338_0
             obtain rfl : ad336 = ad338 := (by injection e338)
             replace hx338_0 := (HB.out.cell (World.block_lt_of_cell? w _ hx338_0)).trans hx338_0
             replace hx338_1 := (HB.out.cell (World.block_lt_of_cell? w _ hx338_1)).trans hx338_1
             replace p338 := eq_true p338
             replace q338 := eq_true q338
             refine start_ (n := 12) (S := fun w' => w'.cell? (ad335.add ((x7_2).toNat * 2)) = some (.int .i64 ((rd_T36 l0 x7_2).f0)) ∧ w'.cell? ⟨(ad335.add ((x7_2).toNat * 2)).block, (ad335.add ((x7_2).toNat * 2)).off + 1, none⟩ = some (.bool ((rd_T36 l0 x7_2).f1)) ∧ w'.cell? (ad336.add ((x8_2).toNat * 2)) = some (.int .i64 ((rd_T36 l1 x8_2).f0)) ∧ w'.cell? ⟨(ad336.add ((x8_2).toNat * 2)).block, (ad336.add ((x8_2).toNat * 2)).off + 1, none⟩ = some (.bool ((rd_T36 l1 x8_2).f1))) (ds := []) #[ff,ff,ff,ff,ff,ff,ff,ff,ff,ff,ff,ff] (by kernel_rfl) rfl rfl ⟨((HB.out.cell (World.block_lt_of_cell? w _ hw337_0)).trans hw337_0), ((HB.out.cell (World.block_lt_of_cell? w _ hw337_1)).trans hw337_1), ((HB.out.cell (World.block_lt_of_cell? w _ hw338_0)).trans hw338_0), ((HB.out.cell (World.block_lt_of_cell? w _ hw338_1)).trans hw338_1)⟩ (fun hHeld => ?_); refine with_tabW spec_EditSum.tab21 spec_EditSum.bits21 (fun HT_ HW_ => ?_)
             generalize w52.drew = w53 at HB hx337_0 hx337_1 hx338_0 hx338_1 hHeld ⊢
             refine pQ HT_ 0 (some 108) #[tt,ff,ff,ff,ff,ff,ff,ff,ff,ff,ff,ff] rfl rfl ?_
             refine pQ HT_ 1 (some 109) #[tt,tt,ff,ff,ff,ff,ff,ff,ff,ff,ff,ff] rfl rfl ?_
             refine pQ HT_ 2 (some 110) #[tt,tt,tt,ff,ff,ff,ff,ff,ff,ff,ff,ff] rfl rfl ?_
             refine pQ HT_ 3 (some 111) #[tt,tt,tt,tt,ff,ff,ff,ff,ff,ff,ff,ff] rfl rfl ?_
             refine pQ HT_ 5 (some 113) #[tt,tt,tt,tt,ff,tt,ff,ff,ff,ff,ff,ff] rfl rfl ?_
             refine pQ HT_ 6 (some 114) #[tt,tt,tt,tt,ff,tt,tt,ff,ff,ff,ff,ff] rfl rfl ?_
             refine pQ HT_ 7 (some 115) #[tt,tt,tt,tt,ff,tt,tt,tt,ff,ff,ff,ff] rfl rfl ?_
             refine tQ HT_ HW_ 4 (some 112) #[tt,tt,tt,tt,tt,tt,tt,tt,ff,ff,ff,ff] rfl rfl hHeld (by rintro w' ⟨s0, s1, s2, s3⟩; go_simp; with_reducible rfl) ?_
             refine tQ HT_ HW_ 8 (some 116) #[tt,tt,tt,tt,tt,tt,tt,tt,tt,ff,ff,ff] rfl rfl hHeld (by rintro w' ⟨s0, s1, s2, s3⟩; go_simp; with_reducible rfl) ?_
             refine one_ (i := 9) (N := some 117) #[tt,tt,tt,tt,tt,tt,tt,tt,tt,tt,ff,ff] rfl rfl (one_of HT_.out (by kernel_rfl)) (by decide) (fun K hK => ?_)
             refine goes_ Try.func40 (by kernel_rfl) rfl #[.agg #[.int .i64 ((rd_T36 l0 x7_2).f0), .bool ((rd_T36 l0 x7_2).f1)], .agg #[.int .i64 ((rd_T36 l1 x8_2).f0), .bool ((rd_T36 l1 x8_2).f1)]] (by rfl) rfl rfl hM ?_
             with_reducible refine (spec_l7Replace.calls ((rd_T36 l0 x7_2).f0) ((rd_T36 l0 x7_2).f1) ((rd_T36 l1 x8_2).f0) ((rd_T36 l1 x8_2).f1) t339 _ A51.out).mono ?_
             rintro e w54 ⟨rfl, hb⟩
             refine ⟨_, rfl, ?_⟩
             have n0_ := Q0_ (below_step (upB HB) hb)
             clear HB; revert n0_; intro HB
             (try clear hb)
             (try clear hb2)
             (try clear hk)
             (try clear hi)
             refine hK.out _ _ ⟨((HB.out.cell (World.block_lt_of_cell? w _ hw337_0)).trans hw337_0), ((HB.out.cell (World.block_lt_of_cell? w _ hw337_1)).trans hw337_1), ((HB.out.cell (World.block_lt_of_cell? w _ hw338_0)).trans hw338_0), ((HB.out.cell (World.block_lt_of_cell? w _ hw338_1)).trans hw338_1)⟩ (fun hHeld => ?_)
             clear hK K
             refine norm_ (a' := ?_) ?_ ?_
             rotate_left
             ·show Act.put _ (some 117) _ = _
              simp only [Act.put, sI, s0, sS, i64_w, i32_w]
              rfl
             refine pQ HT_ 10 (some 118) #[tt,tt,tt,tt,tt,tt,tt,tt,tt,tt,tt,ff] rfl rfl ?_
             refine pQ HT_ 11 (some 9) #[tt,tt,tt,tt,tt,tt,tt,tt,tt,tt,tt,tt] rfl rfl ?_
             refine done_ (done_of HT_.out (by kernel_rfl)) ?_
             try go_wp2
             go_roundg kj26
             case measure => have := HJ3.out; have := HK2.out; have := HJ12.out; have := HJ14.out; have := HJ20.out; have := HJ26.out; omega
             case rel => exact ⟨(wrap64 (x7_2 + 1)), (wrap64 (x8_2 + 1)), (wrap64 (x9_2 + t339)), (wrap64 (x10_2 + 1)), eX, eX, eX, eX, H', ⟨by have := HJ3.out; have := HK2.out; have := HJ12.out; have := HJ14.out; have := HJ20.out; have := HJ26.out; omega⟩, ⟨by repeat (first | (with_reducible first | exact HB.out | apply below_alloc | apply pw_below_drewN | apply below_drew1) | exact HB.out)⟩⟩
end Go.Proofs.Ythpeiboobnnfgaa.E
end
section
namespace Go.Proofs.Ythpeiboobnnfgaa.E
open Go.RowKit Go.Proofs.YthpeiboobnnfgaaW.PrintWords Go.Proofs.YthpeiboobnnfgaaW.PrintLast Go.Proofs.YthpeiboobnnfgaaW.PrintMore
attribute [local go_sem] max2_int min2_int max_two min_two max_three min_three max_four min_four
set_option linter.unusedVariables false
set_option linter.unusedSimpArgs false
attribute [local go_sem] en63_mk1 en63_mk2 en63_mk3 en63_mk4
attribute [local go_sem] str_leq_ str_gtr_ str_geq_
def impl_editOf.l0 : Nat → Int → List Int → Int → Int → Option (Int)
 | 0, _, _, _, _ => none
 | k + 1, x0, x5, x6, x7 => if x7 < x6 then (if 0 ≤ x7 then (if x7 < (x5.length : Int) then ((en63_letter.f (rd x5 x7)).bind fun t344 => (if t344 = x0 then (some (rd x5 x7)) else (impl_editOf.l0 k x0 x5 x6 (wrap64 (x7 + 1))))) else (none)) else (none)) else (some 0)
def impl_editOf.f (k : Nat) (a0 : Int) : Option (Int) := (impl_allEdits.f).bind fun t340 => (impl_editOf.l0 k a0 t340 (t340.length : Int) 0)
set_option maxHeartbeats 8000000 in
set_option maxRecDepth 100000 in
theorem impl_editOf.calls (k : Nat) (a0 : Int) (r : Int) (w : World) (h : impl_editOf.f k a0 = some r) :
  Calls Try.prog 49 #[.int .u8 a0] w fun e w' => e = .returned (en63W r) ∧ Below w.heap.size w w' := by
 have hni63 : Value.nilIface = en63W 0 := rfl
 have HB := Q0_ (Below.refl w.heap.size w)
 have H : ((impl_allEdits.f).bind fun t340 => (impl_editOf.l0 k a0 t340 (t340.length : Int) 0)) = some r := h
 clear h
 obtain ⟨t340, A20, H⟩ := Option.bind_eq_some_iff.mp H
 try dsimp only at H
 have A2 := Aside0.mk A20
 clear A20
 have H' := Aside0.mk H
 clear H
 go_enter Try.func49, Try.ntmps49
 go_wp2_with (first | ((with_reducible refine gate_callee (f := 44) rfl ?_); refine goesL_ (some 5) rfl rfl Try.func44 (by kernel_rfl) rfl #[] rfl hM ?_; (with_reducible refine (impl_allEdits.calls  t340 _ A2.out).mono ?_); rintro e w3 ⟨v341, rfl, ho0, hb⟩; refine ⟨_, rfl, ?_⟩; have n0_ := Q0_ (Kd.R_lower ho0 (below_size (upB HB))); have n1_ := Q0_ (below_step (upB HB) hb); clear HB; revert n0_ n1_; intro HO342 HB; (try clear hb); (try clear hb2); (try clear hk); (try clear hi); (try clear ho0); obtain ⟨Ao4, co4, eo4⟩ := Kd.R_slice HO342.out; subst eo4))
 go_loopg [7] k (fun kq v7 w' => ∃ (x7_1 : Int), v7 = .int .i64 x7_1 ∧ Aside0 (impl_editOf.l0 kq a0 t340 (t340.length : Int) x7_1 = some r) ∧ Aside0 (kq ≤ k) ∧ Aside0 (Kd.R (Kd.scalar en63W en63_one) 63 w' w.heap.size (fun _ => True) (.slice Ao4 t340.length co4) t340) ∧ Aside0 (Below w.heap.size w w'))
 case atStart => exact ⟨(0), eX, H', ⟨Nat.le_refl _⟩, ⟨by (with_reducible repeat (first | apply Kd.R_alloc | apply Kd.R_drewN | apply Kd.R_drew)); exact HO342.out⟩, ⟨by repeat (first | (with_reducible first | exact HB.out | apply below_alloc | apply pw_below_drewN | apply below_drew1) | exact HB.out)⟩⟩
 case round =>
  clear H'
  try clear p2
  try clear c4
  obtain ⟨x7_1, rfl, HA, HK1, HO_5, HB⟩ := hrel
  cases gk with
  | zero => exact absurd HA.out (by simp [impl_editOf.l0])
  | succ k1 =>
   have H := HA.out
   clear HA
   simp only [impl_editOf.l0] at H
   by_cases c5 : x7_1 < (t340.length : Int)
   rotate_left
   ·rw [if_neg c5] at H
    have c5b0 : decide (x7_1 < (t340.length : Int)) = false := decide_eq_false c5
    clear c5
    obtain rfl := Option.some.inj H
    go_wp2
    go_ret
    exact ⟨by first | rfl | (simp [errW_none, errW_some] <;> rfl) | (simp [*, errW_none, errW_some] <;> rfl), by repeat (first | (with_reducible first | exact HB.out | apply below_alloc | apply pw_below_drewN | apply below_drew1) | exact HB.out)⟩
   rw [if_pos c5] at H
   have c5b0 : decide (x7_1 < (t340.length : Int)) = true := decide_eq_true c5
   clear c5
   by_cases c6 : 0 ≤ x7_1
   rotate_left
   ·rw [if_neg c6] at H
    exact absurd H (by simp)
   rw [if_pos c6] at H
   have c6b0 : decide (0 ≤ x7_1) = true := decide_eq_true c6
   clear c6
   by_cases c7 : x7_1 < (t340.length : Int)
   rotate_left
   ·rw [if_neg c7] at H
    exact absurd H (by simp)
   rw [if_pos c7] at H
   have c7b0 : decide (x7_1 < (t340.length : Int)) = true := decide_eq_true c7
   clear c7
   obtain ⟨t344, A80, H⟩ := Option.bind_eq_some_iff.mp H
   try dsimp only at H
   have A8 := Aside0.mk A80
   clear A80
   by_cases c9 : t344 = a0
   ·rw [if_pos c9] at H
    have c9b0 : (t344 == a0) = true := beq_iff_eq.mpr c9
    have c9b1 : (t344 != a0) = false := bne_eq_false_iff_eq.mpr c9
    clear c9
    obtain rfl := Option.some.inj H
    have p343 : 0 ≤ (x7_1 : Int) := of_decide_eq_true aS
    have q343 : x7_1 < (t340.length : Int) := of_decide_eq_true aS
    obtain ⟨ad343, e343, hx343_0⟩ := at_en63 (Kd.R_reads' HO_5.out).2.2 x7_1 p343 q343
    cases e343
    replace p343 := eq_true p343
    replace q343 := eq_true q343
    go_wp2_with (first | ((with_reducible refine en_gate rfl ?_); refine en63_letter.goes (some 12) rfl rfl rfl rfl A8.out ?_; (with_reducible refine (en63_letter.calls (rd t340 x7_1) t344 _ A8.out).mono ?_); rintro e w10 ⟨rfl, hb⟩; refine ⟨_, rfl, ?_⟩; have n0_ := Q0_ (Kd.R_below (upR HO_5) hb); have n1_ := Q0_ (below_step (upB HB) hb); clear HO_5 HB; revert n0_ n1_; intro HO_5 HB; (try clear hb); (try clear hb2); (try clear hk); (try clear hi)))
    go_ret
    exact ⟨by first | rfl | (simp [errW_none, errW_some] <;> rfl) | (simp [*, errW_none, errW_some] <;> rfl), by repeat (first | (with_reducible first | exact HB.out | apply below_alloc | apply pw_below_drewN | apply below_drew1) | exact HB.out)⟩
   rw [if_neg c9] at H
   have c9b0 : (t344 == a0) = false := beq_eq_false_iff_ne.mpr c9
   have c9b1 : (t344 != a0) = true := bne_iff_ne.mpr c9
   have H' := Aside0.mk H
   clear H
   have p343 : 0 ≤ (x7_1 : Int) := of_decide_eq_true aS
   have q343 : x7_1 < (t340.length : Int) := of_decide_eq_true aS
   obtain ⟨ad343, e343, hx343_0⟩ := at_en63 (Kd.R_reads' HO_5.out).2.2 x7_1 p343 q343
   cases e343
   replace p343 := eq_true p343
   replace q343 := eq_true q343
   go_wp2_with (first | ((with_reducible refine en_gate rfl ?_); refine en63_letter.goes (some 12) rfl rfl rfl rfl A8.out ?_; (with_reducible refine (en63_letter.calls (rd t340 x7_1) t344 _ A8.out).mono ?_); rintro e w11 ⟨rfl, hb⟩; refine ⟨_, rfl, ?_⟩; have n0_ := Q0_ (Kd.R_below (upR HO_5) hb); have n1_ := Q0_ (below_step (upB HB) hb); clear HO_5 HB; revert n0_ n1_; intro HO_5 HB; (try clear hb); (try clear hb2); (try clear hk); (try clear hi)))
   go_roundg k1
   case measure => have := HK1.out; omega
   case rel => exact ⟨(wrap64 (x7_1 + 1)), eX, H', ⟨by have := HK1.out; omega⟩, ⟨by (with_reducible repeat (first | apply Kd.R_alloc | apply Kd.R_drewN | apply Kd.R_drew)); exact HO_5.out⟩, ⟨by repeat (first | (with_reducible first | exact HB.out | apply below_alloc | apply pw_below_drewN | apply below_drew1) | exact HB.out)⟩⟩
end Go.Proofs.Ythpeiboobnnfgaa.E
end
