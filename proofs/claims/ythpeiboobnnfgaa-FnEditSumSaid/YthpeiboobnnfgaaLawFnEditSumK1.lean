/- Texts of this claim, joined by a program of this session's (wip/tools/pack.py). -/
import Derived.Test.YthpeiboobnnfgaaLawFnEditSumK0
section
namespace Go.Proofs.Ythpeiboobnnfgaa.E
open Go.RowKit Go.Proofs.YthpeiboobnnfgaaW.PrintWords Go.Proofs.YthpeiboobnnfgaaW.PrintLast Go.Proofs.YthpeiboobnnfgaaW.PrintMore
attribute [local go_sem] max2_int min2_int max_two min_two max_three min_three max_four min_four
set_option linter.unusedVariables false
set_option linter.unusedSimpArgs false
attribute [local go_sem] en63_mk1 en63_mk2 en63_mk3 en63_mk4
attribute [local go_sem] str_leq_ str_gtr_ str_geq_
mutual
def impl_leastSums_costOf.l0 : Nat → List (S36) → List (S36) → List (List Int) → Int → Option ((List (List Int)))
 | 0, _, _, _, _ => none
 | k + 1, x0, x1, x7, x8 => if x8 ≥ 0 then (if 0 ≤ (wrap64 ((x1.length : Int) + 1)) then (if (wrap64 ((x1.length : Int) + 1) : Int).toNat ≤ 35184372088832 then (if 0 ≤ x8 then (if x8 < (x7.length : Int) then (impl_leastSums_costOf.l1 k x0 x1 (x7.set (x8 : Int).toNat (List.replicate (wrap64 ((x1.length : Int) + 1) : Int).toNat 0)) x8 (x1.length : Int)) else (none)) else (none)) else (none)) else (none)) else (some x7)
def impl_leastSums_costOf.l1 : Nat → List (S36) → List (S36) → List (List Int) → Int → Int → Option ((List (List Int)))
 | 0, _, _, _, _, _ => none
 | k + 1, x0, x1, x7, x8, x9 => if x9 ≥ 0 then ((impl_allEdits.f).bind fun t189 => (impl_leastSums_costOf.l2 k x0 x1 x7 x8 x9 false t189 (t189.length : Int) 0)) else (impl_leastSums_costOf.l0 k x0 x1 x7 (wrap64 (x8 - 1)))
def impl_leastSums_costOf.l2 : Nat → List (S36) → List (S36) → List (List Int) → Int → Int → Bool → List Int → Int → Int → Option ((List (List Int)))
 | 0, _, _, _, _, _, _, _, _, _ => none
 | k + 1, x0, x1, x7, x8, x9, x10, x39, x40, x41 => if x41 < x40 then (if 0 ≤ x41 then (if x41 < (x39.length : Int) then (if 0 ≤ x8 then (if x8 ≤ (x0.length : Int) then (if 0 ≤ x9 then (if x9 ≤ (x1.length : Int) then ((impl_useOf.f k (rd x39 x41) (x0.drop (x8 : Int).toNat) (x1.drop (x9 : Int).toNat)).bind fun bt201 => (if bt201.2.2.2 = true then ((impl_costOf.f (rd x39 x41) bt201.1 bt201.2.1 bt201.2.2.1).bind fun t206 => (if 0 ≤ (wrap64 (x8 + bt201.1)) then (if (wrap64 (x8 + bt201.1)) < (x7.length : Int) then (if 0 ≤ (wrap64 (x9 + bt201.2.1)) then (if (wrap64 (x9 + bt201.2.1)) < ((rd_L4 x7 (wrap64 (x8 + bt201.1))).length : Int) then (if x10 = true then (if x8 < (x7.length : Int) then (if x9 < ((rd_L4 x7 x8).length : Int) then (if (wrap64 (t206 + (rd (rd_L4 x7 (wrap64 (x8 + bt201.1))) (wrap64 (x9 + bt201.2.1))))) < (rd (rd_L4 x7 x8) x9) then (impl_leastSums_costOf.l2 k x0 x1 (x7.set (x8 : Int).toNat ((rd_L4 x7 x8).set (x9 : Int).toNat (wrap64 (t206 + (rd (rd_L4 x7 (wrap64 (x8 + bt201.1))) (wrap64 (x9 + bt201.2.1))))))) x8 x9 true x39 x40 (wrap64 (x41 + 1))) else (impl_leastSums_costOf.l2 k x0 x1 x7 x8 x9 x10 x39 x40 (wrap64 (x41 + 1)))) else (none)) else (none)) else (if x8 < (x7.length : Int) then (if x9 < ((rd_L4 x7 x8).length : Int) then (impl_leastSums_costOf.l2 k x0 x1 (x7.set (x8 : Int).toNat ((rd_L4 x7 x8).set (x9 : Int).toNat (wrap64 (t206 + (rd (rd_L4 x7 (wrap64 (x8 + bt201.1))) (wrap64 (x9 + bt201.2.1))))))) x8 x9 true x39 x40 (wrap64 (x41 + 1))) else (none)) else (none))) else (none)) else (none)) else (none)) else (none))) else (impl_leastSums_costOf.l2 k x0 x1 x7 x8 x9 x10 x39 x40 (wrap64 (x41 + 1))))) else (none)) else (none)) else (none)) else (none)) else (none)) else (none)) else (impl_leastSums_costOf.l1 k x0 x1 x7 x8 (wrap64 (x9 - 1)))
end
def impl_leastSums_costOf.f (k : Nat) (l0 : List (S36)) (l1 : List (S36))  : Option ((List (List Int))) := if 0 ≤ (wrap64 ((l0.length : Int) + 1)) then (if (wrap64 ((l0.length : Int) + 1) : Int).toNat ≤ 11728124029610 then (impl_leastSums_costOf.l0 k l0 l1 (List.replicate (wrap64 ((l0.length : Int) + 1) : Int).toNat []) (l0.length : Int)) else (none)) else (none)
def impl_leastSums_costOf.T13 : Bool × List (List Nat × List Nat) := (true, [([], []), ([], []), ([], []), ([1, 2], [1, 2]), ([], []), ([], []), ([4, 5], [4, 5]), ([0, 3, 6], [0, 3, 6]), ([7], [7]), ([8], [8]), ([8], [8]), ([], []), ([11, 9, 7, 0, 1, 2, 3, 4, 5, 6, 7, 8, 9, 11], [9, 11]), ([10, 12, 0, 1, 2, 3, 4, 5, 6, 7, 8, 9, 10, 11, 12], [10])])
def impl_leastSums_costOf.B13 : List Nat := [0, 0, 0, 6, 0, 0, 48, 127, 255, 511, 511, 0, 3071, 8191]
theorem impl_leastSums_costOf.tab13 : rtab .any (opsOf Try.f35 13) = impl_leastSums_costOf.T13 := by kernel_rfl
theorem impl_leastSums_costOf.bits13 : waitsOk impl_leastSums_costOf.T13.2 impl_leastSums_costOf.B13 = true := by kernel_rfl
def impl_leastSums_costOf.T15 : Bool × List (List Nat × List Nat) := (true, [([], []), ([], []), ([], []), ([0, 1, 2], [0, 1, 2]), ([], []), ([], []), ([], []), ([6], [6]), ([5, 7], [5, 7]), ([4, 8], [4, 8]), ([9], [9]), ([], []), ([], []), ([12], [12]), ([11, 13], [11, 13]), ([10, 14], [10, 14]), ([15], [15]), ([3, 16], [3, 16]), ([17, 3, 0, 1, 2, 3, 4, 5, 6, 7, 8, 9, 10, 11, 12, 13, 14, 15, 16, 17], [17])])
def impl_leastSums_costOf.B15 : List Nat := [0, 0, 0, 7, 0, 0, 0, 64, 224, 496, 1008, 0, 0, 4096, 14336, 32752, 65520, 131071, 262143]
theorem impl_leastSums_costOf.tab15 : rtab .any (opsOf Try.f35 15) = impl_leastSums_costOf.T15 := by kernel_rfl
theorem impl_leastSums_costOf.bits15 : waitsOk impl_leastSums_costOf.T15.2 impl_leastSums_costOf.B15 = true := by kernel_rfl
set_option maxHeartbeats 8000000 in
set_option maxRecDepth 100000 in
theorem impl_leastSums_costOf.calls (k : Nat) (A0 : Option Addr) (c0 : Nat) (l0 : List (S36)) (A1 : Option Addr) (c1 : Nat) (l1 : List (S36))  (r : List (List Int)) (w : World) (hr0 : Kd.C k36 w A0 l0.length l0) (hc0 : l0.length ≤ c0) (hr1 : Kd.C k36 w A1 l1.length l1) (hc1 : l1.length ≤ c1) (h : impl_leastSums_costOf.f k l0 l1 = some r) :
  Calls Try.prog 35 #[.slice A0 l0.length c0, .slice A1 l1.length c1, .func (.func 39) #[] #[]] w fun e w' => ∃ v0_ : Value, e = .returned (v0_) ∧ Kd.S (Kd.slice 3 (Kd.int .i64)) 46 w' w.heap.size (fun _ => True) v0_ r ∧ Below w.heap.size w w' := by
 have hu65 := Try.underlying65
 have HR0 := Aside0.mk hr0
 have HC0 := Aside0.mk hc0
 clear hr0 hc0
 have HR1 := Aside0.mk hr1
 have HC1 := Aside0.mk hc1
 clear hr1 hc1
 have HB := Q0_ (Below.refl w.heap.size w)
 have H : (if 0 ≤ (wrap64 ((l0.length : Int) + 1)) then (if (wrap64 ((l0.length : Int) + 1) : Int).toNat ≤ 11728124029610 then (impl_leastSums_costOf.l0 k l0 l1 (List.replicate (wrap64 ((l0.length : Int) + 1) : Int).toNat []) (l0.length : Int)) else (none)) else (none)) = some r := h
 clear h
 obtain ⟨ji4, hji4⟩ : ∃ j_ : Int, (wrap64 ((l0.length : Int) + 1)) = j_ := ⟨_, rfl⟩
 replace H : (if 0 ≤ (ji4) then (if (ji4 : Int).toNat ≤ 11728124029610 then (impl_leastSums_costOf.l0 k l0 l1 (List.replicate (ji4 : Int).toNat []) (l0.length : Int)) else (none)) else (none)) = some r := by first | (rw [hji4] at H; exact H) | (simp only [hji4] at H ⊢; exact H)
 have hji4w : (IntKind.i64.wrap ((l0.length : Int) + 1)) = ji4 := (i64_w _).trans hji4
 by_cases c5 : 0 ≤ (ji4)
 rotate_left
 ·rw [if_neg c5] at H
  exact absurd H (by simp)
 rw [if_pos c5] at H
 have c5b0 := eq_true c5
 have c5b1 : decide (0 ≤ (ji4)) = true := decide_eq_true c5
 clear c5
 by_cases c6 : (ji4 : Int).toNat ≤ 11728124029610
 rotate_left
 ·rw [if_neg c6] at H
  exact absurd H (by simp)
 rw [if_pos c6] at H
 have c6b0 := eq_true c6
 have c6b1 : decide ((ji4 : Int).toNat ≤ 11728124029610) = true := decide_eq_true c6
 clear c6
 obtain ⟨y182, hy182⟩ : ∃ y_ : List (List Int), y_ = (List.replicate (ji4 : Int).toNat []) := ⟨_, rfl⟩
 replace H : (impl_leastSums_costOf.l0 k l0 l1 y182 (l0.length : Int)) = some r := by first | (rw [hy182]; with_reducible exact H) | (have H2_ := (Option.bind_some _ _).symm.trans H; rw [hy182]; with_reducible exact H2_) | (have H2_ := (Option.bind_some _ _).symm.trans H; with_reducible exact H2_) | with_reducible exact H | (rw [hy182]; exact H) | exact H
 have Ny182 := Aside0.mk hy182
 clear hy182
 have H' := Aside0.mk H
 clear H
 go_enter Try.func35, Try.ntmps35
 go_wp2_with (first | ((with_reducible refine gate_dst (N := 19) rfl ?_); refine Kd.S_make (Kd.slice 3 (Kd.int .i64)) _ 46 rfl (N := 19) rfl 49 _ _ rfl ji4 rfl rfl Try.underlying49 (.slice none 0 0) 24 info46 rfl (by decide) (by omega) [] (ok := fun _ => True) (okp := fun _ => True) ⟨_, rfl, Kd.R_nil _ _ _ _ _⟩ (fun _ hk => hk) trivial (of_decide_eq_true aS) (Nat.le_trans (Nat.mul_le_mul_right _ (of_decide_eq_true aS : ji4.toNat ≤ 11728124029610)) (by omega)) (Below.refl _ _) (Nat.le_refl _) ?_; intro v183 w7 ho8 hb hg_ hnew_; clear hg_ hnew_; (first | rw [← Ny182.out] at ho8 | (simp only [Int.reduceToNat] at ho8; rw [← Ny182.out] at ho8)); have n0_ := Q0_ (Kd.S_lower ho8 (below_size (upB HB))); have n1_ := Q0_ (below_step (upB HB) hb); clear HB; revert n0_ n1_; intro HO184 HB; clear hb ho8))
 go_loopg [8] k (fun kq v8 w' => ∃ (x7_1 : List (List Int)) (x8_1 : Int), v8 = .int .i64 x8_1 ∧ Aside0 (impl_leastSums_costOf.l0 kq l0 l1 x7_1 x8_1 = some r) ∧ Aside0 (kq ≤ k) ∧ Aside0 (Kd.S (Kd.slice 3 (Kd.int .i64)) 46 w' w.heap.size (fun _ => True) v183 x7_1) ∧ Aside0 (Below w.heap.size w w'))
 case atStart => exact ⟨(y182), ((l0.length : Int)), eX, H', ⟨Nat.le_refl _⟩, ⟨by (with_reducible repeat (first | apply Kd.S_alloc | apply Kd.S_drewN | apply Kd.S_drew)); exact HO184.out⟩, ⟨by repeat (first | (with_reducible first | exact HB.out | apply below_alloc | apply pw_below_drewN | apply below_drew1) | exact HB.out)⟩⟩
 case round =>
  clear H'
  try clear c1
  try clear p2
  try clear c5
  try clear c5b0
  try clear c5b1
  try clear c6
  try clear c6b0
  try clear c6b1
  try clear p6
  obtain ⟨x7_1, x8_1, rfl, HA, HK1, HO_7, HB⟩ := hrel
  cases gk with
  | zero => exact absurd HA.out (by simp [impl_leastSums_costOf.l0])
  | succ k1 =>
   have H := HA.out
   clear HA
   simp only [impl_leastSums_costOf.l0] at H
   by_cases c9 : x8_1 ≥ 0
   rotate_left
   ·rw [if_neg c9] at H
    have c9b0 : decide (0 ≤ x8_1) = false := decide_eq_false c9
    clear c9
    obtain rfl := Option.some.inj H
    go_wp2
    go_ret
    exact ⟨_, by first | rfl | (simp [errW_none, errW_some] <;> rfl) | (simp only [← hji4]; first | rfl | (simp [errW_none, errW_some] <;> rfl)) | (simp [*, errW_none, errW_some] <;> rfl), by (with_reducible repeat (first | apply Kd.S_alloc | apply Kd.S_drewN | apply Kd.S_drew)); exact HO_7.out, by repeat (first | (with_reducible first | exact HB.out | apply below_alloc | apply pw_below_drewN | apply below_drew1) | exact HB.out)⟩
   rw [if_pos c9] at H
   have c9b0 : decide (0 ≤ x8_1) = true := decide_eq_true c9
   clear c9
   obtain ⟨ji10, hji10⟩ : ∃ j_ : Int, (wrap64 ((l1.length : Int) + 1)) = j_ := ⟨_, rfl⟩
   replace H : (if 0 ≤ (ji10) then (if (ji10 : Int).toNat ≤ 35184372088832 then (if 0 ≤ x8_1 then (if x8_1 < (x7_1.length : Int) then (impl_leastSums_costOf.l1 k1 l0 l1 (x7_1.set (x8_1 : Int).toNat (List.replicate (ji10 : Int).toNat 0)) x8_1 (l1.length : Int)) else (none)) else (none)) else (none)) else (none)) = some r := by first | (rw [hji10] at H; exact H) | (simp only [hji10] at H ⊢; exact H)
   have hji10w : (IntKind.i64.wrap ((l1.length : Int) + 1)) = ji10 := (i64_w _).trans hji10
   by_cases c11 : 0 ≤ (ji10)
   rotate_left
   ·rw [if_neg c11] at H
    exact absurd H (by simp)
   rw [if_pos c11] at H
   have c11b0 := eq_true c11
   have c11b1 : decide (0 ≤ (ji10)) = true := decide_eq_true c11
   clear c11
   by_cases c12 : (ji10 : Int).toNat ≤ 35184372088832
   rotate_left
   ·rw [if_neg c12] at H
    exact absurd H (by simp)
   rw [if_pos c12] at H
   have c12b0 := eq_true c12
   have c12b1 : decide ((ji10 : Int).toNat ≤ 35184372088832) = true := decide_eq_true c12
   clear c12
   obtain ⟨y185, hy185⟩ : ∃ y_ : List Int, y_ = (List.replicate (ji10 : Int).toNat 0) := ⟨_, rfl⟩
   replace H : (if 0 ≤ x8_1 then (if x8_1 < (x7_1.length : Int) then (impl_leastSums_costOf.l1 k1 l0 l1 (x7_1.set (x8_1 : Int).toNat y185) x8_1 (l1.length : Int)) else (none)) else (none)) = some r := by first | (rw [hy185]; with_reducible exact H) | (have H2_ := (Option.bind_some _ _).symm.trans H; rw [hy185]; with_reducible exact H2_) | (have H2_ := (Option.bind_some _ _).symm.trans H; with_reducible exact H2_) | with_reducible exact H | (rw [hy185]; exact H) | exact H
   have Ny185 := Aside0.mk hy185
   clear hy185
   by_cases c13 : 0 ≤ x8_1
   rotate_left
   ·rw [if_neg c13] at H
    exact absurd H (by simp)
   rw [if_pos c13] at H
   have c13b0 : decide (0 ≤ x8_1) = true := decide_eq_true c13
   clear c13
   by_cases c14 : x8_1 < (x7_1.length : Int)
   rotate_left
   ·rw [if_neg c14] at H
    exact absurd H (by simp)
   rw [if_pos c14] at H
   have c14b0 : decide (x8_1 < (x7_1.length : Int)) = true := decide_eq_true c14
   clear c14
   obtain ⟨y188, hy188⟩ : ∃ y_ : List (List Int), y_ = (x7_1.set (x8_1 : Int).toNat y185) := ⟨_, rfl⟩
   replace H : (impl_leastSums_costOf.l1 k1 l0 l1 y188 x8_1 (l1.length : Int)) = some r := by first | (rw [hy188]; with_reducible exact H) | (have H2_ := (Option.bind_some _ _).symm.trans H; rw [hy188]; with_reducible exact H2_) | (have H2_ := (Option.bind_some _ _).symm.trans H; with_reducible exact H2_) | with_reducible exact H | (rw [hy188]; exact H) | exact H
   have Ny188 := Aside0.mk hy188
   clear hy188
   have H' := Aside0.mk H
   clear H
   go_wp2_with (first | ((with_reducible refine gate_dst (N := 31) rfl ?_); refine Kd.R_make (Kd.int .i64) _ 3 rfl (N := 31) rfl 46 _ _ rfl ji10 rfl rfl Try.underlying46 (.int .i64 0) 8 info3 rfl (by decide) (by omega) 0 (ok := fun _ => True) (okp := fun _ => True) rfl (fun _ hk => hk) trivial (of_decide_eq_true aS) (Nat.le_trans (Nat.mul_le_mul_right _ (of_decide_eq_true aS : ji10.toNat ≤ 35184372088832)) (by omega)) (Below.refl _ _) (Nat.le_refl _) ?_; intro v186 w16 ho17 hb hg_ hnew_; clear hg_ hnew_; (first | rw [← Ny185.out] at ho17 | (simp only [Int.reduceToNat] at ho17; rw [← Ny185.out] at ho17)); have n0_ := Q0_ (Kd.S_elder' (upS HO_7) (Kd.R_base ho17) hb); have n1_ := Q0_ (Kd.R_lower ho17 (below_size (upB HB))); have n2_ := Q0_ (below_step (upB HB) hb); clear HO_7 HB; revert n0_ n1_ n2_; intro HO_7 HO187 HB; clear hb ho17; have p15 : 0 ≤ (x8_1 : Int) := of_decide_eq_true aS; have q15 : (x8_1 : Int) < ((x7_1.length : Int) : Int) := of_decide_eq_true aS; obtain ⟨go15, co15, eo15, gb15, gl15, cl15, HG15⟩ := Kd.S_form HO_7.out (by omega); (first | cases eo15 | (injection eo15 with ea_ en_ ec_; (first | subst ea_ | (injection ea_ with ea_; subst ea_)); subst ec_; clear en_)); have GB15 := Aside0.mk gb15; have GG15 := Aside0.mk HG15; clear gb15 gl15 HG15; obtain ⟨_, ce15, hcl15, hM15, hcc15, hfr15, _, _⟩ := Kd.S_elem HO_7.out [] (x8_1 : Int) p15 q15; obtain ⟨ve15_0, rfl, ge15_0⟩ := hM15; have hx15_0 := hcc15 0 _ rfl; have hf15_0 := hfr15 0; (try simp only [show ((Kd.slice 3 (Kd.int .i64))).sz = 1 from rfl, Nat.mul_one, Nat.add_zero] at hx15_0); (try simp only [show ((Kd.slice 3 (Kd.int .i64))).sz = 1 from rfl, Nat.mul_one, Nat.add_zero] at hf15_0); (try clear hM15); clear hcl15 hcc15 hfr15; replace p15 := eq_true p15; replace q15 := eq_true q15; obtain ⟨Ao18, co18, eo18⟩ := Kd.R_slice HO187.out; subst eo18; have n_ := Q0_ (Kd.S_mono (ok' := (fun k_ => nb k_ (.slice Ao18 y185.length co18))) HO_7.out (fun k_ hk => hk.2)); clear HO_7; have HO_7 := n_; clear n_; have HX19 := Q0_ (show Kd.S (Kd.slice 3 (Kd.int .i64)) 46 w16 w.heap.size (fun k_ => ((fun _ => True)) k_ ∧ ¬ ((fun k_ => some k_ = (.slice Ao18 y185.length co18 : Value).ownBlock)) k_) (.slice (some ⟨go15, 0, none⟩) x7_1.length co15) x7_1 from (upS' (Kd.S_mono HO_7.out (fun k_ hk => ⟨trivial, fun e_ => hk e_⟩)))); obtain ⟨oki19, ce19, hcl19, hM19, hcc19, hfr19, hoki19, hH19⟩ := Kd.S_elem HX19.out [] (x8_1 : Int) (of_decide_eq_true aS) (by have h_ : (x8_1 : Int) < ((x7_1.length : Int) : Int) := of_decide_eq_true aS; first | exact h_ | (have e_ := (Kd.S_reads' HO_7.out).1; omega) | simpa using h_); obtain ⟨ve19_0, rfl, ge19_0⟩ := hM19; have HP19 := Kd.S_seg hH19 (of_decide_eq_true aS) (by have h_ : (x8_1 : Int) < ((x7_1.length : Int) : Int) := of_decide_eq_true aS; first | exact h_ | (have e_ := (Kd.S_reads' HO_7.out).1; omega) | simpa using h_) (seg := [.slice Ao18 y185.length co18]) (j := 0) (show 1 ≤ 1 from by decide) (x' := y185) (Kd.M_row (Kd.R_mono (Kd.R_tight rfl (Kd.R_mono (ok' := fun k_ => ((fun _ => True)) k_ ∧ k_ ≠ go15) (Kd.R_apart' (HO187.out) (Kd.S_typed HO_7.out) (by decide)) (fun k_ hk => ⟨trivial, fun e_ => (hk.2) (by rw [e_]; rfl)⟩))) (fun _ h_ => Or.inr (h_)))) (fun _ hk => hk) (fun k_ hk_ => ((Kd.R_mono (ok' := fun k_ => ((fun _ => True)) k_ ∧ k_ ≠ go15) (Kd.R_apart' (HO187.out) (Kd.S_typed HO_7.out) (by decide)) (fun k_ hk => ⟨trivial, fun e_ => (hk.2) (by rw [e_]; rfl)⟩))).1 k_ hk_.symm); have hx19_0 := hcc19 0 _ rfl; (try simp only [show ((Kd.slice 3 (Kd.int .i64))).sz = 1 from rfl, Nat.mul_one, Nat.add_zero] at hx19_0); have hf19_0 := hfr19 0; (try simp only [show ((Kd.slice 3 (Kd.int .i64))).sz = 1 from rfl, Nat.mul_one, Nat.add_zero] at hf19_0); (try clear hM19); clear hcl19 hcc19 hfr19 hoki19 hH19; (try simp only [show ((Kd.slice 3 (Kd.int .i64))).sz = 1 from rfl, Nat.mul_one, Nat.add_zero] at HP19)) | ((with_reducible refine gate_store (t := 46) (p := 32) rfl ?_); refine store_event (t := 46) (p := 32) (v := ?vo_w20) (w1 := (w16.setCell ⟨go15, (x8_1 : Int).toNat, none⟩ (.slice Ao18 y185.length co18))) ?hg ?ho ?hn ?hr ?_; (case ho => rfl); (case hg => rfl); (case hn => rfl); (case hr => first | (go_simp; done) | (go_simp; rfl)); intro w20 hw; have hg : w16.grownBy w20 (some go15) := (by rw [hw]; exact HP19.2); have hp_ : Kd.S (Kd.slice 3 (Kd.int .i64)) 46 w20 w.heap.size (fun _ => True) (.slice (some ⟨go15, 0, none⟩) x7_1.length co15) y188 := (by rw [hw, Ny188.out]; exact HP19.1); clear HP19; have n0_ := Q0_ (hp_); have n1_ := Q0_ ((by rw [hw]; exact below_set (HB.out) GB15.out : Below w.heap.size w w20)); clear HO_7 HB HO187; revert n0_ n1_; intro HO_7 HB; clear hg hw hp_))
   go_loopg [9] k1 (fun kq v9 w' => ∃ (x7_2 : List (List Int)) (x9_2 : Int), v9 = .int .i64 x9_2 ∧ Aside0 (impl_leastSums_costOf.l1 kq l0 l1 x7_2 x8_1 x9_2 = some r) ∧ Aside0 (kq ≤ k1) ∧ Aside0 (Kd.S (Kd.slice 3 (Kd.int .i64)) 46 w' w.heap.size (fun _ => True) (.slice (some ⟨go15, 0, none⟩) x7_1.length co15) x7_2) ∧ Aside0 (Below w.heap.size w w'))
   case atStart => exact ⟨(y188), ((l1.length : Int)), eX, H', ⟨Nat.le_refl _⟩, ⟨by (with_reducible repeat (first | apply Kd.S_alloc | apply Kd.S_drewN | apply Kd.S_drew)); exact HO_7.out⟩, ⟨by repeat (first | (with_reducible first | exact HB.out | apply below_alloc | apply pw_below_drewN | apply below_drew1) | exact HB.out)⟩⟩
   case round =>
    clear H'
    try clear c1
    try clear p1
    try clear q1
    try clear hx1
    try clear p2
    try clear c5
    try clear c5b0
    try clear c5b1
    try clear c6
    try clear c6b0
    try clear c6b1
    try clear p6
    try clear c9
    try clear c9b0
    try clear c11
    try clear c11b0
    try clear c11b1
    try clear c12
    try clear c12b0
    try clear c12b1
    try clear c13
    try clear c13b0
    try clear c14
    try clear c14b0
    try clear c15
    try clear p15
    try clear q15
    try clear hx15
    try clear hf15
    try clear c19
    try clear hx19
    try clear hf19
    try clear hx15_0
    try clear hx19_0
    try clear p15
    try clear p2
    try clear p6
    try clear q15
    obtain ⟨x7_2, x9_2, rfl, HA, HK2, HO_7, HB⟩ := hrel
    have hl7_2 := (Kd.S_reads' HO_7.out).1
    rw [hl7_2] at HO_7
    (try simp only [hl7_2])
    cases gk with
    | zero => exact absurd HA.out (by simp [impl_leastSums_costOf.l1])
    | succ k2 =>
     have H := HA.out
     clear HA
     simp only [impl_leastSums_costOf.l1] at H
     by_cases c21 : x9_2 ≥ 0
     rotate_left
     ·rw [if_neg c21] at H
      have c21b0 : decide (0 ≤ x9_2) = false := decide_eq_false c21
      clear c21
      have H' := Aside0.mk H
      clear H
      go_wp2
      (try simp only [← hl7_2])
      first | go_roundg k2 | ((try simp only [← hji4] at H' ⊢); (try simp only [← hji10] at H' ⊢); go_roundg k2)
      case measure => have := HK1.out; have := HK2.out; omega
      case rel => exact ⟨(x7_2), (wrap64 (x8_1 - 1)), eX, H', ⟨by have := HK1.out; have := HK2.out; omega⟩, ⟨by (try simp only [hl7_2]); (with_reducible repeat (first | apply Kd.S_alloc | apply Kd.S_drewN | apply Kd.S_drew)); exact HO_7.out⟩, ⟨by repeat (first | (with_reducible first | exact HB.out | apply below_alloc | apply pw_below_drewN | apply below_drew1) | exact HB.out)⟩⟩
     rw [if_pos c21] at H
     have c21b0 : decide (0 ≤ x9_2) = true := decide_eq_true c21
     clear c21
     obtain ⟨t189, A220, H⟩ := Option.bind_eq_some_iff.mp H
     try dsimp only at H
     have A22 := Aside0.mk A220
     clear A220
     have H' := Aside0.mk H
     clear H
     go_wp2_with (first | ((with_reducible refine gate_callee (f := 44) rfl ?_); refine goesL_ (some 39) rfl rfl Try.func44 (by kernel_rfl) rfl #[] rfl hM ?_; (with_reducible refine (impl_allEdits.calls  t189 _ A22.out).mono ?_); rintro e w23 ⟨v190, rfl, ho0, hb⟩; refine ⟨_, rfl, ?_⟩; have n0_ := Q0_ (Kd.S_below (upS HO_7) hb); have n1_ := Q0_ (Kd.R_lower ho0 (below_size (upB HB))); have n2_ := Q0_ (below_step (upB HB) hb); clear HO_7 HB; revert n0_ n1_ n2_; intro HO_7 HO191 HB; (try clear hb); (try clear hb2); (try clear hk); (try clear hi); (try clear ho0); obtain ⟨Ao24, co24, eo24⟩ := Kd.R_slice HO191.out; subst eo24))
     go_loopg [10, 41] k2 (fun kq v10 v41 w' => ∃ (x7_3 : List (List Int)) (x10_3 : Bool) (x41_3 : Int), v10 = .bool x10_3 ∧ v41 = .int .i64 x41_3 ∧ Aside0 (impl_leastSums_costOf.l2 kq l0 l1 x7_3 x8_1 x9_2 x10_3 t189 (t189.length : Int) x41_3 = some r) ∧ Aside0 (kq ≤ k2) ∧ Aside0 (Kd.S (Kd.slice 3 (Kd.int .i64)) 46 w' w.heap.size (fun _ => True) (.slice (some ⟨go15, 0, none⟩) x7_2.length co15) x7_3) ∧ Aside0 (Kd.R (Kd.scalar en63W en63_one) 63 w' w.heap.size (fun _ => True) (.slice Ao24 t189.length co24) t189) ∧ Aside0 (Below w.heap.size w w'))
     case atStart => exact ⟨(x7_2), (false), (0), eX, eX, H', ⟨Nat.le_refl _⟩, ⟨by (try simp only [hl7_2]); (with_reducible repeat (first | apply Kd.S_alloc | apply Kd.S_drewN | apply Kd.S_drew)); exact HO_7.out⟩, ⟨by (try simp only [hl7_2]); (with_reducible repeat (first | apply Kd.R_alloc | apply Kd.R_drewN | apply Kd.R_drew)); exact HO191.out⟩, ⟨by repeat (first | (with_reducible first | exact HB.out | apply below_alloc | apply pw_below_drewN | apply below_drew1) | exact HB.out)⟩⟩
     case round =>
      clear H'
      try clear c1
      try clear p1
      try clear q1
      try clear hx1
      try clear c2
      try clear p2
      try clear c4
      try clear c5
      try clear c5b0
      try clear c5b1
      try clear c6
      try clear c6b0
      try clear c6b1
      try clear p6
      try clear c9
      try clear c9b0
      try clear c11
      try clear c11b0
      try clear c11b1
      try clear c12
      try clear c12b0
      try clear c12b1
      try clear c13
      try clear c13b0
      try clear c14
      try clear c14b0
      try clear c15
      try clear p15
      try clear q15
      try clear hx15
      try clear hf15
      try clear c19
      try clear hx19
      try clear hf19
      try clear c21
      try clear c21b0
      try clear hx15_0
      try clear hx19_0
      try clear p1
      try clear p15
      try clear p2
      try clear p6
      try clear q1
      try clear q15
      obtain ⟨x7_3, x10_3, x41_3, rfl, rfl, HA, HK3, HO_7, HO_39, HB⟩ := hrel
      have hl7_3 := (Kd.S_reads' HO_7.out).1
      rw [hl7_3] at HO_7
      (try simp only [hl7_3])
      (try simp only [hl7_3] at HO_39)
      cases gk with
      | zero => exact absurd HA.out (by simp [impl_leastSums_costOf.l2])
      | succ k3 =>
       have H := HA.out
       clear HA
       simp only [impl_leastSums_costOf.l2] at H
       by_cases c25 : x41_3 < (t189.length : Int)
       rotate_left
       ·rw [if_neg c25] at H
        have c25b0 : decide (x41_3 < (t189.length : Int)) = false := decide_eq_false c25
        clear c25
        have H' := Aside0.mk H
        clear H
        go_wp2
        (try simp only [← hl7_2, ← hl7_3])
        first | go_roundg k3 | ((try simp only [← hji4] at H' ⊢); (try simp only [← hji10] at H' ⊢); go_roundg k3)
        case measure => have := HK1.out; have := HK2.out; have := HK3.out; omega
        case rel => exact ⟨(x7_3), (wrap64 (x9_2 - 1)), eX, H', ⟨by have := HK1.out; have := HK2.out; have := HK3.out; omega⟩, ⟨by (try simp only [hl7_2]); (try simp only [hl7_3]); (with_reducible repeat (first | apply Kd.S_alloc | apply Kd.S_drewN | apply Kd.S_drew)); exact HO_7.out⟩, ⟨by repeat (first | (with_reducible first | exact HB.out | apply below_alloc | apply pw_below_drewN | apply below_drew1) | exact HB.out)⟩⟩
       rw [if_pos c25] at H
       have c25b0 : decide (x41_3 < (t189.length : Int)) = true := decide_eq_true c25
       clear c25
       by_cases c26 : 0 ≤ x41_3
       rotate_left
       ·rw [if_neg c26] at H
        exact absurd H (by simp)
       rw [if_pos c26] at H
       have c26b0 : decide (0 ≤ x41_3) = true := decide_eq_true c26
       clear c26
       by_cases c27 : x41_3 < (t189.length : Int)
       rotate_left
       ·rw [if_neg c27] at H
        exact absurd H (by simp)
       rw [if_pos c27] at H
       have c27b0 : decide (x41_3 < (t189.length : Int)) = true := decide_eq_true c27
       clear c27
       by_cases c28 : 0 ≤ x8_1
       rotate_left
       ·rw [if_neg c28] at H
        exact absurd H (by simp)
       rw [if_pos c28] at H
       have c28b0 := eq_true c28
       have c28b1 : decide (0 ≤ x8_1) = true := decide_eq_true c28
       clear c28
       by_cases c29 : x8_1 ≤ (l0.length : Int)
       rotate_left
       ·rw [if_neg c29] at H
        exact absurd H (by simp)
       rw [if_pos c29] at H
       have c29b0 := eq_true c29
       have c29b1 : decide (x8_1 ≤ (l0.length : Int)) = true := decide_eq_true c29
       clear c29
       obtain ⟨y193, hy193⟩ : ∃ y_ : List (S36), y_ = (l0.drop (x8_1 : Int).toNat) := ⟨_, rfl⟩
       replace H : (if 0 ≤ x9_2 then (if x9_2 ≤ (l1.length : Int) then ((impl_useOf.f k3 (rd t189 x41_3) y193 (l1.drop (x9_2 : Int).toNat)).bind fun bt201 => (if bt201.2.2.2 = true then ((impl_costOf.f (rd t189 x41_3) bt201.1 bt201.2.1 bt201.2.2.1).bind fun t206 => (if 0 ≤ (wrap64 (x8_1 + bt201.1)) then (if (wrap64 (x8_1 + bt201.1)) < (x7_3.length : Int) then (if 0 ≤ (wrap64 (x9_2 + bt201.2.1)) then (if (wrap64 (x9_2 + bt201.2.1)) < ((rd_L4 x7_3 (wrap64 (x8_1 + bt201.1))).length : Int) then (if x10_3 = true then (if x8_1 < (x7_3.length : Int) then (if x9_2 < ((rd_L4 x7_3 x8_1).length : Int) then (if (wrap64 (t206 + (rd (rd_L4 x7_3 (wrap64 (x8_1 + bt201.1))) (wrap64 (x9_2 + bt201.2.1))))) < (rd (rd_L4 x7_3 x8_1) x9_2) then (impl_leastSums_costOf.l2 k3 l0 l1 (x7_3.set (x8_1 : Int).toNat ((rd_L4 x7_3 x8_1).set (x9_2 : Int).toNat (wrap64 (t206 + (rd (rd_L4 x7_3 (wrap64 (x8_1 + bt201.1))) (wrap64 (x9_2 + bt201.2.1))))))) x8_1 x9_2 true t189 (t189.length : Int) (wrap64 (x41_3 + 1))) else (impl_leastSums_costOf.l2 k3 l0 l1 x7_3 x8_1 x9_2 x10_3 t189 (t189.length : Int) (wrap64 (x41_3 + 1)))) else (none)) else (none)) else (if x8_1 < (x7_3.length : Int) then (if x9_2 < ((rd_L4 x7_3 x8_1).length : Int) then (impl_leastSums_costOf.l2 k3 l0 l1 (x7_3.set (x8_1 : Int).toNat ((rd_L4 x7_3 x8_1).set (x9_2 : Int).toNat (wrap64 (t206 + (rd (rd_L4 x7_3 (wrap64 (x8_1 + bt201.1))) (wrap64 (x9_2 + bt201.2.1))))))) x8_1 x9_2 true t189 (t189.length : Int) (wrap64 (x41_3 + 1))) else (none)) else (none))) else (none)) else (none)) else (none)) else (none))) else (impl_leastSums_costOf.l2 k3 l0 l1 x7_3 x8_1 x9_2 x10_3 t189 (t189.length : Int) (wrap64 (x41_3 + 1))))) else (none)) else (none)) = some r := by first | (rw [hy193]; with_reducible exact H) | (have H2_ := (Option.bind_some _ _).symm.trans H; rw [hy193]; with_reducible exact H2_) | (have H2_ := (Option.bind_some _ _).symm.trans H; with_reducible exact H2_) | with_reducible exact H | (rw [hy193]; exact H) | exact H
       have Ny193 := Aside0.mk hy193
       clear hy193
       by_cases c30 : 0 ≤ x9_2
       rotate_left
       ·rw [if_neg c30] at H
        exact absurd H (by simp)
       rw [if_pos c30] at H
       have c30b0 := eq_true c30
       have c30b1 : decide (0 ≤ x9_2) = true := decide_eq_true c30
       clear c30
       by_cases c31 : x9_2 ≤ (l1.length : Int)
       rotate_left
       ·rw [if_neg c31] at H
        exact absurd H (by simp)
       rw [if_pos c31] at H
       have c31b0 := eq_true c31
       have c31b1 : decide (x9_2 ≤ (l1.length : Int)) = true := decide_eq_true c31
       clear c31
       obtain ⟨y197, hy197⟩ : ∃ y_ : List (S36), y_ = (l1.drop (x9_2 : Int).toNat) := ⟨_, rfl⟩
       replace H : ((impl_useOf.f k3 (rd t189 x41_3) y193 y197).bind fun bt201 => (if bt201.2.2.2 = true then ((impl_costOf.f (rd t189 x41_3) bt201.1 bt201.2.1 bt201.2.2.1).bind fun t206 => (if 0 ≤ (wrap64 (x8_1 + bt201.1)) then (if (wrap64 (x8_1 + bt201.1)) < (x7_3.length : Int) then (if 0 ≤ (wrap64 (x9_2 + bt201.2.1)) then (if (wrap64 (x9_2 + bt201.2.1)) < ((rd_L4 x7_3 (wrap64 (x8_1 + bt201.1))).length : Int) then (if x10_3 = true then (if x8_1 < (x7_3.length : Int) then (if x9_2 < ((rd_L4 x7_3 x8_1).length : Int) then (if (wrap64 (t206 + (rd (rd_L4 x7_3 (wrap64 (x8_1 + bt201.1))) (wrap64 (x9_2 + bt201.2.1))))) < (rd (rd_L4 x7_3 x8_1) x9_2) then (impl_leastSums_costOf.l2 k3 l0 l1 (x7_3.set (x8_1 : Int).toNat ((rd_L4 x7_3 x8_1).set (x9_2 : Int).toNat (wrap64 (t206 + (rd (rd_L4 x7_3 (wrap64 (x8_1 + bt201.1))) (wrap64 (x9_2 + bt201.2.1))))))) x8_1 x9_2 true t189 (t189.length : Int) (wrap64 (x41_3 + 1))) else (impl_leastSums_costOf.l2 k3 l0 l1 x7_3 x8_1 x9_2 x10_3 t189 (t189.length : Int) (wrap64 (x41_3 + 1)))) else (none)) else (none)) else (if x8_1 < (x7_3.length : Int) then (if x9_2 < ((rd_L4 x7_3 x8_1).length : Int) then (impl_leastSums_costOf.l2 k3 l0 l1 (x7_3.set (x8_1 : Int).toNat ((rd_L4 x7_3 x8_1).set (x9_2 : Int).toNat (wrap64 (t206 + (rd (rd_L4 x7_3 (wrap64 (x8_1 + bt201.1))) (wrap64 (x9_2 + bt201.2.1))))))) x8_1 x9_2 true t189 (t189.length : Int) (wrap64 (x41_3 + 1))) else (none)) else (none))) else (none)) else (none)) else (none)) else (none))) else (impl_leastSums_costOf.l2 k3 l0 l1 x7_3 x8_1 x9_2 x10_3 t189 (t189.length : Int) (wrap64 (x41_3 + 1))))) = some r := by first | (rw [hy197]; with_reducible exact H) | (have H2_ := (Option.bind_some _ _).symm.trans H; rw [hy197]; with_reducible exact H2_) | (have H2_ := (Option.bind_some _ _).symm.trans H; with_reducible exact H2_) | with_reducible exact H | (rw [hy197]; exact H) | exact H
       have Ny197 := Aside0.mk hy197
       clear hy197
       obtain ⟨⟨t201, t202, t203, t204⟩, A320, H⟩ := Option.bind_eq_some_iff.mp H
       try dsimp only at H
       have A32 := Aside0.mk A320
       clear A320
       by_cases c33 : t204 = true
       rotate_left
       ·replace c33 := Bool.eq_false_iff.mpr c33
        subst c33
        replace H := ifN ((show ¬ (false = true) by decide)) H
        have H' := Aside0.mk H
        clear H
        have p192 : 0 ≤ (x41_3 : Int) := of_decide_eq_true aS
        have q192 : x41_3 < (t189.length : Int) := of_decide_eq_true aS
        obtain ⟨ad192, e192, hx192_0⟩ := at_en63 (Kd.R_reads' HO_39.out).2.2 x41_3 p192 q192
        cases e192
        replace p192 := eq_true p192
        replace q192 := eq_true q192
        try go_wp2
        have n0_ := Q0_ (Kd.S_drew HO_7.out)
        have n1_ := Q0_ (Kd.R_drew HO_39.out)
        have n2_ := Q0_ (below_drew1 HB.out)
        clear HO_7 HO_39 HB; revert n0_ n1_ n2_; intro HO_7 HO_39 HB
        have q91 : (x8_1 : Int) ≤ ((l0.length : Int) : Int) := of_decide_eq_true aS
        obtain ⟨i091, hi091, _, hsz91, _⟩ := info_parts info36
        have hroom91 : l0.length ≤ c0 := HC0.out
        have hC91 : Kd.C k36 _ A0 l0.length l0 := HR0.out
        have q091 : (0 : Int) ≤ (x8_1 : Int) := of_decide_eq_true aS
        have hcut91 := cut_from (P := Try.prog) 25 36 .i64 Try.underlying25 hi091 2 hsz91 A0 l0.length c0 x8_1 q091 q91
        have hr91 := Kd.C_drop (m := (x8_1 : Int).toNat) (c := c0) hC91 (by omega) hroom91
        obtain ⟨A91, hA91⟩ : ∃ Az_, Az_ = (if c0 = (x8_1 : Int).toNat then A0 else (A0 : Option Addr).map (·.add ((x8_1 : Int).toNat * 2))) := ⟨_, rfl⟩
        obtain ⟨c91, hc91⟩ : ∃ cz_, cz_ = c0 - (x8_1 : Int).toNat := ⟨_, rfl⟩
        have hy91 : y193.length = l0.length - (x8_1 : Int).toNat := (by rw [Ny193.out, List.length_drop] <;> omega)
        rw [show (l0).drop (x8_1 : Int).toNat = y193 from Ny193.out.symm] at hr91
        replace hr91 : Kd.C k36 _ A91 y193.length y193 := (by rw [hA91]; exact hr91)
        rw [← hy91, ← hA91, ← hc91] at hcut91
        have HR196 := Aside0.mk hr91
        have HC196 := Q0_ (show y193.length ≤ c91 from by rw [hy91, hc91]; exact Nat.sub_le_sub_right hroom91 _)
        clear hr91 hC91 hroom91 hi091 hsz91 hc91
        have KY91 := Aside0.mk hy91
        have KA91 := Aside0.mk hA91
        clear hy91 hA91
        replace q91 := eq_true q91
        have q92 : (x9_2 : Int) ≤ ((l1.length : Int) : Int) := of_decide_eq_true aS
        obtain ⟨i092, hi092, _, hsz92, _⟩ := info_parts info36
        have hroom92 : l1.length ≤ c1 := HC1.out
        have hC92 : Kd.C k36 _ A1 l1.length l1 := HR1.out
        have q092 : (0 : Int) ≤ (x9_2 : Int) := of_decide_eq_true aS
        have hcut92 := cut_from (P := Try.prog) 25 36 .i64 Try.underlying25 hi092 2 hsz92 A1 l1.length c1 x9_2 q092 q92
        have hr92 := Kd.C_drop (m := (x9_2 : Int).toNat) (c := c1) hC92 (by omega) hroom92
        obtain ⟨A92, hA92⟩ : ∃ Az_, Az_ = (if c1 = (x9_2 : Int).toNat then A1 else (A1 : Option Addr).map (·.add ((x9_2 : Int).toNat * 2))) := ⟨_, rfl⟩
        obtain ⟨c92, hc92⟩ : ∃ cz_, cz_ = c1 - (x9_2 : Int).toNat := ⟨_, rfl⟩
        have hy92 : y197.length = l1.length - (x9_2 : Int).toNat := (by rw [Ny197.out, List.length_drop] <;> omega)
        rw [show (l1).drop (x9_2 : Int).toNat = y197 from Ny197.out.symm] at hr92
        replace hr92 : Kd.C k36 _ A92 y197.length y197 := (by rw [hA92]; exact hr92)
        rw [← hy92, ← hA92, ← hc92] at hcut92
        have HR200 := Aside0.mk hr92
        have HC200 := Q0_ (show y197.length ≤ c92 from by rw [hy92, hc92]; exact Nat.sub_le_sub_right hroom92 _)
        clear hr92 hC92 hroom92 hi092 hsz92 hc92
        have KY92 := Aside0.mk hy92
        have KA92 := Aside0.mk hA92
        clear hy92 hA92
        replace q92 := eq_true q92
        refine start_ (n := 14) (S := fun w' => True) (ds := []) #[ff,ff,ff,ff,ff,ff,ff,ff,ff,ff,ff,ff,ff,ff] (by kernel_rfl) rfl rfl trivial (fun hHeld => ?_); refine with_tabW impl_leastSums_costOf.tab13 impl_leastSums_costOf.bits13 (fun HT_ HW_ => ?_)
        generalize wr.drew = w90 at HO_7 HO_39 HB HR196 HR200 hHeld ⊢
        refine pQ HT_ 0 (some 46) #[tt,ff,ff,ff,ff,ff,ff,ff,ff,ff,ff,ff,ff,ff] rfl rfl ?_
        refine pQ HT_ 1 (some 47) #[tt,tt,ff,ff,ff,ff,ff,ff,ff,ff,ff,ff,ff,ff] rfl rfl ?_
        refine pQ HT_ 2 (some 48) #[tt,tt,tt,ff,ff,ff,ff,ff,ff,ff,ff,ff,ff,ff] rfl rfl ?_
        refine pQ HT_ 3 (some 49) #[tt,tt,tt,tt,ff,ff,ff,ff,ff,ff,ff,ff,ff,ff] rfl rfl ?_
        refine pQ HT_ 4 (some 50) #[tt,tt,tt,tt,tt,ff,ff,ff,ff,ff,ff,ff,ff,ff] rfl rfl ?_
        refine pQ HT_ 5 (some 51) #[tt,tt,tt,tt,tt,tt,ff,ff,ff,ff,ff,ff,ff,ff] rfl rfl ?_
        refine pQ HT_ 6 (some 52) #[tt,tt,tt,tt,tt,tt,tt,ff,ff,ff,ff,ff,ff,ff] rfl rfl ?_
        refine join_ (σ := Nat) 2 #[tt,tt,tt,tt,tt,tt,tt,tt,tt,tt,tt,tt,ff,ff] (fun s_ => [(53, .tuple #[.agg #[.int .i64 t201, .int .i64 t202, .int .i64 t203], .bool false]), (13, .pointer (some ⟨s_, 0, none⟩)), (45, .tuple #[.agg #[.int .i64 t201, .int .i64 t202, .int .i64 t203], .bool false]), (54, .agg #[.int .i64 t201, .int .i64 t202, .int .i64 t203]), (55, .bool false)]) (fun s_ w' => (Kd.R (Kd.scalar en63W en63_one) 63 w' w.heap.size (fun _ => True) (.slice (some ad192) t189.length co24) t189) ∧ (Kd.S (Kd.slice 3 (Kd.int .i64)) 46 w' w.heap.size (fun _ => True) (.slice (some ⟨go15, 0, none⟩) x7_3.length co15) x7_3) ∧ (w'.heap[s_]? = some (.cells #[.int .i64 0, .int .i64 0, .int .i64 0] 65 (0, 0))) ∧ (w.heap.size ≤ s_) ∧ (w.heap.size ≤ s_) ∧ (Below w.heap.size w w')) ?_ ?_
        rotate_left
        ·intro hCont
         refine two_ (i := 7) (j := 11) (Ni := some 53) (Nj := some 13) #[tt,tt,tt,tt,tt,tt,tt,tt,ff,ff,ff,ff,ff,ff] #[tt,tt,tt,tt,tt,tt,tt,ff,ff,ff,ff,tt,ff,ff] rfl rfl rfl rfl (two_of HT_.out (by kernel_rfl)) (by decide) (by decide) (fun K hK => ?_) (fun K hK => ?_)
         ·skip
          refine goes_ Try.func45 (by kernel_rfl) rfl #[en63W (rd t189 x41_3), .slice A91 y193.length c91, .slice A92 y197.length c92] (by rfl) rfl rfl hM ?_
          with_reducible refine (impl_useOf.calls k3 (rd t189 x41_3) _ _ y193 _ _ y197 t201 t202 t203 false _ ?side1 ?side2 ?side3 ?side4 A32.out).mono ?_
          (case side1 => repeat (first | exact (Kd.C_below HR196.out HB.out) | (with_reducible refine Kd.C_alloc ?_ _) | (with_reducible refine Kd.C_drewN ?_ _) | (with_reducible refine Kd.C_drew ?_)))
          (case side2 => exact HC196.out)
          (case side3 => repeat (first | exact (Kd.C_below HR200.out HB.out) | (with_reducible refine Kd.C_alloc ?_ _) | (with_reducible refine Kd.C_drewN ?_ _) | (with_reducible refine Kd.C_drew ?_)))
          (case side4 => exact HC200.out)
          rintro e w93 ⟨rfl, hb⟩
          refine ⟨_, rfl, ?_⟩
          have n0_ := Q0_ (Kd.S_below (upS HO_7) hb)
          have n1_ := Q0_ (Kd.R_below (upR HO_39) hb)
          have n2_ := Q0_ (below_step (upB HB) hb)
          clear HO_7 HO_39 HB; revert n0_ n1_ n2_; intro HO_7 HO_39 HB
          (try clear hb)
          (try clear hb2)
          (try clear hk)
          (try clear hi)
          refine hK.out _ _ trivial (fun hHeld => ?_)
          clear hK K
          refine norm_ (a' := ?_) ?_ ?_
          rotate_left
          ·show Act.put _ (some 53) _ = _
           simp only [Act.put, sI, s0, sS, i64_w, i32_w]
           rfl
          refine pQ HT_ 8 (some 45) #[tt,tt,tt,tt,tt,tt,tt,tt,tt,ff,ff,ff,ff,ff] rfl rfl ?_
          refine pQ HT_ 9 (some 54) #[tt,tt,tt,tt,tt,tt,tt,tt,tt,tt,ff,ff,ff,ff] rfl rfl ?_
          refine pQ HT_ 10 (some 55) #[tt,tt,tt,tt,tt,tt,tt,tt,tt,tt,tt,ff,ff,ff] rfl rfl ?_
          refine one_ (i := 11) (N := some 13) #[tt,tt,tt,tt,tt,tt,tt,tt,tt,tt,tt,tt,ff,ff] rfl rfl (one_of HT_.out (by kernel_rfl)) (by decide) (fun K hK => ?_)
          refine box_step ?hg (N := 13) ?hd (cs := #[.int .i64 0, .int .i64 0, .int .i64 0]) (t := 65) ?hr ?_; (case hd => rfl); (case hg => rfl); (case hr => first | (go_simp; done) | (go_simp; rfl))
          intro gb205 hg w94 hbox hb
          have n0_ := Q0_ (Kd.S_below (upS HO_7) hb)
          have n1_ := Q0_ (Kd.R_below (upR HO_39) hb)
          have n2_ := Q0_ (below_step (upB HB) hb)
          have n3_ := Q0_ (hbox)
          have n4_ := Q0_ ((by rw [hg]; exact (below_size (upB HB)) : w.heap.size ≤ gb205))
          have n5_ := Q0_ ((by rw [hg]; exact (below_size (upB HB)) : w.heap.size ≤ gb205))
          clear HO_7 HO_39 HB; revert n0_ n1_ n2_ n3_ n4_ n5_; intro HO_7 HO_39 HB BK205 GW205 GE205
          clear hb hbox hg
          refine hK.out _ _ trivial (fun hHeld => ?_)
          clear hK K
          refine norm_ (a' := ?_) ?_ ?_
          rotate_left
          ·show Act.put _ (some 13) _ = _
           simp only [Act.put, sI, s0, sS, i64_w, i32_w]
           rfl
          exact norm_ (by simp only [putAll, Act.put, sI, s0, sS]) (hCont (gb205) _ ⟨(upR HO_39), (upS HO_7), (upK BK205), GW205.out, GE205.out, upH⟩)
         ·skip
          refine box_step ?hg (N := 13) ?hd (cs := #[.int .i64 0, .int .i64 0, .int .i64 0]) (t := 65) ?hr ?_; (case hd => rfl); (case hg => rfl); (case hr => first | (go_simp; done) | (go_simp; rfl))
          intro gb205 hg w93 hbox hb
          have n0_ := Q0_ (Kd.S_below (upS HO_7) hb)
          have n1_ := Q0_ (Kd.R_below (upR HO_39) hb)
          have n2_ := Q0_ (below_step (upB HB) hb)
          have n3_ := Q0_ (hbox)
          have n4_ := Q0_ ((by rw [hg]; exact (below_size (upB HB)) : w.heap.size ≤ gb205))
          have n5_ := Q0_ ((by rw [hg]; exact (below_size (upB HB)) : w.heap.size ≤ gb205))
          clear HO_7 HO_39 HB; revert n0_ n1_ n2_ n3_ n4_ n5_; intro HO_7 HO_39 HB BK205 GW205 GE205
          clear hb hbox hg
          refine hK.out _ _ trivial (fun hHeld => ?_)
          clear hK K
          refine norm_ (a' := ?_) ?_ ?_
          rotate_left
          ·show Act.put _ (some 13) _ = _
           simp only [Act.put, sI, s0, sS, i64_w, i32_w]
           rfl
          refine one_ (i := 7) (N := some 53) #[tt,tt,tt,tt,tt,tt,tt,tt,ff,ff,ff,tt,ff,ff] rfl rfl (one_of HT_.out (by kernel_rfl)) (by decide) (fun K hK => ?_)
          refine goes_ Try.func45 (by kernel_rfl) rfl #[en63W (rd t189 x41_3), .slice A91 y193.length c91, .slice A92 y197.length c92] (by rfl) rfl rfl hM ?_
          with_reducible refine (impl_useOf.calls k3 (rd t189 x41_3) _ _ y193 _ _ y197 t201 t202 t203 false _ ?side1 ?side2 ?side3 ?side4 A32.out).mono ?_
          (case side1 => repeat (first | exact (Kd.C_below HR196.out HB.out) | (with_reducible refine Kd.C_alloc ?_ _) | (with_reducible refine Kd.C_drewN ?_ _) | (with_reducible refine Kd.C_drew ?_)))
          (case side2 => exact HC196.out)
          (case side3 => repeat (first | exact (Kd.C_below HR200.out HB.out) | (with_reducible refine Kd.C_alloc ?_ _) | (with_reducible refine Kd.C_drewN ?_ _) | (with_reducible refine Kd.C_drew ?_)))
          (case side4 => exact HC200.out)
          rintro e w94 ⟨rfl, hb⟩
          refine ⟨_, rfl, ?_⟩
          have n0_ := Q0_ (Kd.S_below (upS HO_7) hb)
          have n1_ := Q0_ (Kd.R_below (upR HO_39) hb)
          have n2_ := Q0_ (blk_below (upK BK205) hb)
          have n3_ := Q0_ (below_step upH hb)
          clear HO_7 HO_39 BK205 HB; revert n0_ n1_ n2_ n3_; intro HO_7 HO_39 BK205 HB
          (try clear hb)
          (try clear hb2)
          (try clear hk)
          (try clear hi)
          refine hK.out _ _ trivial (fun hHeld => ?_)
          clear hK K
          refine norm_ (a' := ?_) ?_ ?_
          rotate_left
          ·show Act.put _ (some 53) _ = _
           simp only [Act.put, sI, s0, sS, i64_w, i32_w]
           rfl
          refine pQ HT_ 8 (some 45) #[tt,tt,tt,tt,tt,tt,tt,tt,tt,ff,ff,tt,ff,ff] rfl rfl ?_
          refine pQ HT_ 9 (some 54) #[tt,tt,tt,tt,tt,tt,tt,tt,tt,tt,ff,tt,ff,ff] rfl rfl ?_
          refine pQ HT_ 10 (some 55) #[tt,tt,tt,tt,tt,tt,tt,tt,tt,tt,tt,tt,ff,ff] rfl rfl ?_
          exact norm_ (by simp only [putAll, Act.put, sI, s0, sS]) (hCont (gb205) _ ⟨(upR HO_39), (upS HO_7), (upK BK205), GW205.out, GE205.out, upH⟩)
        rintro gb205 w95 ⟨h0_, h1_, h2_, h3_, h4_, h5_⟩
        try dsimp only at h0_ h1_ h2_ h3_ h4_ h5_
        have n0_ := Q0_ h0_
        have n1_ := Q0_ h1_
        have n2_ := Q0_ h2_
        have n3_ := Q0_ h3_
        have n4_ := Q0_ h4_
        have n5_ := Q0_ h5_
        clear HO_7
        clear HO_39
        clear HB
        clear h0_ h1_ h2_ h3_ h4_ h5_
        have HO_39 := n0_
        have HO_7 := n1_
        have BK205 := n2_
        have GW205 := n3_
        have GE205 := n4_
        have HB := n5_
        clear n0_ n1_ n2_ n3_ n4_ n5_
        have hHeld := trivial
        refine norm_ (a' := ?_) ?_ ?_
        rotate_left
        ·simp only [putAll, Act.put, sI, s0, sS]
         rfl
        refine one_ (i := 12) (N := none) #[tt,tt,tt,tt,tt,tt,tt,tt,tt,tt,tt,tt,tt,ff] rfl rfl (one_of HT_.out (by kernel_rfl)) (by decide) (fun K hK => ?_)
        have hs96 : w95.cell? ⟨gb205, 0, none⟩ = some (.int .i64 0) := (blk_cell BK205.out 0).trans rfl
        have hfs96 := blk_frozen BK205.out 0
        have hs97 : w95.cell? ⟨gb205, 1, none⟩ = some (.int .i64 0) := (blk_cell BK205.out 1).trans rfl
        have hfs97 := blk_frozen BK205.out 1
        have hs98 : w95.cell? ⟨gb205, 2, none⟩ = some (.int .i64 0) := (blk_cell BK205.out 2).trans rfl
        have hfs98 := blk_frozen BK205.out 2
        refine skip_ (w1 := ?_) (by rfl) rfl ?_ ?_
        rotate_left
        ·go_simp
         rfl
        refine hK.out _ _ trivial (fun hHeld => ?_)
        clear hK K
        refine pQ HT_ 13 (some 14) #[tt,tt,tt,tt,tt,tt,tt,tt,tt,tt,tt,tt,tt,tt] rfl rfl ?_
        refine done_ (done_of HT_.out (by kernel_rfl)) ?_
        try go_wp2
        (try simp only [← hl7_3])
        first | go_roundg k3 | ((try simp only [← hji4] at H' ⊢); (try simp only [← hji10] at H' ⊢); go_roundg k3)
        case measure => have := HK1.out; have := HK2.out; have := HK3.out; omega
        case rel => exact ⟨(x7_3), (x10_3), (wrap64 (x41_3 + 1)), eX, eX, H', ⟨by have := HK1.out; have := HK2.out; have := HK3.out; omega⟩, ⟨by (try simp only [hl7_2]); (try simp only [hl7_3]); (with_reducible repeat (first | apply Kd.S_alloc | apply Kd.S_drewN | apply Kd.S_drew)); exact Kd.S_mono (Kd.S_far (p := ⟨gb205, 2, none⟩) (Kd.S_far (p := ⟨gb205, 1, none⟩) (Kd.S_far (p := ⟨gb205, 0, none⟩) (Kd.S_types HO_7.out BK205.out (by decide)) (fun _ hk => hk.2) (.int .i64 t201)) (fun _ hk => hk.2) (.int .i64 t202)) (fun _ hk => hk.2) (.int .i64 t203)) (fun _ hk => trivial)⟩, ⟨by (try simp only [hl7_2]); (try simp only [hl7_3]); (with_reducible repeat (first | apply Kd.R_alloc | apply Kd.R_drewN | apply Kd.R_drew)); exact Kd.R_mono (Kd.R_far (p := ⟨gb205, 2, none⟩) (Kd.R_far (p := ⟨gb205, 1, none⟩) (Kd.R_far (p := ⟨gb205, 0, none⟩) (Kd.R_types HO_39.out BK205.out (by decide)) (fun _ hk => hk.2) (.int .i64 t201)) (fun _ hk => hk.2) (.int .i64 t202)) (fun _ hk => hk.2) (.int .i64 t203)) (fun _ hk => trivial)⟩, ⟨by repeat (first | (with_reducible first | exact HB.out | apply below_alloc | apply pw_below_drewN | apply below_drew1 | refine below_set ?_ GE205.out) | exact HB.out)⟩⟩
       subst c33
       replace H := ifP (rfl) H
       obtain ⟨t206, A340, H⟩ := Option.bind_eq_some_iff.mp H
       try dsimp only at H
       have A34 := Aside0.mk A340
       clear A340
       obtain ⟨ji35, hji35⟩ : ∃ j_ : Int, (wrap64 (x8_1 + t201)) = j_ := ⟨_, rfl⟩
       replace H : (if 0 ≤ (ji35) then (if (ji35) < (x7_3.length : Int) then (if 0 ≤ (wrap64 (x9_2 + t202)) then (if (wrap64 (x9_2 + t202)) < ((rd_L4 x7_3 (ji35)).length : Int) then (if x10_3 = true then (if x8_1 < (x7_3.length : Int) then (if x9_2 < ((rd_L4 x7_3 x8_1).length : Int) then (if (wrap64 (t206 + (rd (rd_L4 x7_3 (ji35)) (wrap64 (x9_2 + t202))))) < (rd (rd_L4 x7_3 x8_1) x9_2) then (impl_leastSums_costOf.l2 k3 l0 l1 (x7_3.set (x8_1 : Int).toNat ((rd_L4 x7_3 x8_1).set (x9_2 : Int).toNat (wrap64 (t206 + (rd (rd_L4 x7_3 (ji35)) (wrap64 (x9_2 + t202))))))) x8_1 x9_2 true t189 (t189.length : Int) (wrap64 (x41_3 + 1))) else (impl_leastSums_costOf.l2 k3 l0 l1 x7_3 x8_1 x9_2 x10_3 t189 (t189.length : Int) (wrap64 (x41_3 + 1)))) else (none)) else (none)) else (if x8_1 < (x7_3.length : Int) then (if x9_2 < ((rd_L4 x7_3 x8_1).length : Int) then (impl_leastSums_costOf.l2 k3 l0 l1 (x7_3.set (x8_1 : Int).toNat ((rd_L4 x7_3 x8_1).set (x9_2 : Int).toNat (wrap64 (t206 + (rd (rd_L4 x7_3 (ji35)) (wrap64 (x9_2 + t202))))))) x8_1 x9_2 true t189 (t189.length : Int) (wrap64 (x41_3 + 1))) else (none)) else (none))) else (none)) else (none)) else (none)) else (none)) = some r := by first | (rw [hji35] at H; exact H) | (simp only [hji35] at H ⊢; exact H)
       (try rw [hji35] at A32)
       (try rw [hji35] at A34)
       have hji35w : (IntKind.i64.wrap (x8_1 + t201)) = ji35 := (i64_w _).trans hji35
       by_cases c36 : 0 ≤ (ji35)
       rotate_left
       ·rw [if_neg c36] at H
        exact absurd H (by simp)
       rw [if_pos c36] at H
       have c36b0 : decide (0 ≤ (ji35)) = true := decide_eq_true c36
       clear c36
       by_cases c37 : (ji35) < (x7_3.length : Int)
       rotate_left
       ·rw [if_neg c37] at H
        exact absurd H (by simp)
       rw [if_pos c37] at H
       have c37b0 : decide ((ji35) < (x7_3.length : Int)) = true := decide_eq_true c37
       clear c37
       obtain ⟨ji38, hji38⟩ : ∃ j_ : Int, (wrap64 (x9_2 + t202)) = j_ := ⟨_, rfl⟩
       replace H : (if 0 ≤ (ji38) then (if (ji38) < ((rd_L4 x7_3 (ji35)).length : Int) then (if x10_3 = true then (if x8_1 < (x7_3.length : Int) then (if x9_2 < ((rd_L4 x7_3 x8_1).length : Int) then (if (wrap64 (t206 + (rd (rd_L4 x7_3 (ji35)) (ji38)))) < (rd (rd_L4 x7_3 x8_1) x9_2) then (impl_leastSums_costOf.l2 k3 l0 l1 (x7_3.set (x8_1 : Int).toNat ((rd_L4 x7_3 x8_1).set (x9_2 : Int).toNat (wrap64 (t206 + (rd (rd_L4 x7_3 (ji35)) (ji38)))))) x8_1 x9_2 true t189 (t189.length : Int) (wrap64 (x41_3 + 1))) else (impl_leastSums_costOf.l2 k3 l0 l1 x7_3 x8_1 x9_2 x10_3 t189 (t189.length : Int) (wrap64 (x41_3 + 1)))) else (none)) else (none)) else (if x8_1 < (x7_3.length : Int) then (if x9_2 < ((rd_L4 x7_3 x8_1).length : Int) then (impl_leastSums_costOf.l2 k3 l0 l1 (x7_3.set (x8_1 : Int).toNat ((rd_L4 x7_3 x8_1).set (x9_2 : Int).toNat (wrap64 (t206 + (rd (rd_L4 x7_3 (ji35)) (ji38)))))) x8_1 x9_2 true t189 (t189.length : Int) (wrap64 (x41_3 + 1))) else (none)) else (none))) else (none)) else (none)) = some r := by first | (rw [hji38] at H; exact H) | (simp only [hji38] at H ⊢; exact H)
       (try rw [hji38] at A32)
       (try rw [hji38] at A34)
       have hji38w : (IntKind.i64.wrap (x9_2 + t202)) = ji38 := (i64_w _).trans hji38
       by_cases c39 : 0 ≤ (ji38)
       rotate_left
       ·rw [if_neg c39] at H
        exact absurd H (by simp)
       rw [if_pos c39] at H
       have c39b0 : decide (0 ≤ (ji38)) = true := decide_eq_true c39
       clear c39
       by_cases c40 : (ji38) < ((rd_L4 x7_3 (ji35)).length : Int)
       rotate_left
       ·rw [if_neg c40] at H
        exact absurd H (by simp)
       rw [if_pos c40] at H
       have c40b0 : decide ((ji38) < ((rd_L4 x7_3 (ji35)).length : Int)) = true := decide_eq_true c40
       clear c40
       by_cases c41 : x10_3 = true
       rotate_left
       ·replace c41 := Bool.eq_false_iff.mpr c41
        subst c41
        replace H := ifN ((show ¬ (false = true) by decide)) H
        by_cases c73 : x8_1 < (x7_3.length : Int)
        rotate_left
        ·rw [if_neg c73] at H
         exact absurd H (by simp)
        rw [if_pos c73] at H
        have c73b0 : decide (x8_1 < (x7_3.length : Int)) = true := decide_eq_true c73
        clear c73
        by_cases c74 : x9_2 < ((rd_L4 x7_3 x8_1).length : Int)
        rotate_left
        ·rw [if_neg c74] at H
         exact absurd H (by simp)
        rw [if_pos c74] at H
        have c74b0 : decide (x9_2 < ((rd_L4 x7_3 x8_1).length : Int)) = true := decide_eq_true c74
        clear c74
        obtain ⟨y215, hy215⟩ : ∃ y_ : List Int, y_ = ((rd_L4 x7_3 x8_1).set (x9_2 : Int).toNat (wrap64 (t206 + (rd (rd_L4 x7_3 (ji35)) (ji38))))) := ⟨_, rfl⟩
        replace H : (impl_leastSums_costOf.l2 k3 l0 l1 (x7_3.set (x8_1 : Int).toNat y215) x8_1 x9_2 true t189 (t189.length : Int) (wrap64 (x41_3 + 1))) = some r := by first | (rw [hy215]; with_reducible exact H) | (have H2_ := (Option.bind_some _ _).symm.trans H; rw [hy215]; with_reducible exact H2_) | (have H2_ := (Option.bind_some _ _).symm.trans H; with_reducible exact H2_) | with_reducible exact H | (rw [hy215]; exact H) | exact H
        have Ny215 := Aside0.mk hy215
        clear hy215
        obtain ⟨y217, hy217⟩ : ∃ y_ : List (List Int), y_ = (x7_3.set (x8_1 : Int).toNat y215) := ⟨_, rfl⟩
        replace H : (impl_leastSums_costOf.l2 k3 l0 l1 y217 x8_1 x9_2 true t189 (t189.length : Int) (wrap64 (x41_3 + 1))) = some r := by first | (rw [hy217]; with_reducible exact H) | (have H2_ := (Option.bind_some _ _).symm.trans H; rw [hy217]; with_reducible exact H2_) | (have H2_ := (Option.bind_some _ _).symm.trans H; with_reducible exact H2_) | with_reducible exact H | (rw [hy217]; exact H) | exact H
        have Ny217 := Aside0.mk hy217
        clear hy217
        have H' := Aside0.mk H
        clear H
        have p192 : 0 ≤ (x41_3 : Int) := of_decide_eq_true aS
        have q192 : x41_3 < (t189.length : Int) := of_decide_eq_true aS
        obtain ⟨ad192, e192, hx192_0⟩ := at_en63 (Kd.R_reads' HO_39.out).2.2 x41_3 p192 q192
        cases e192
        replace p192 := eq_true p192
        replace q192 := eq_true q192
        try go_wp2
        have n0_ := Q0_ (Kd.S_drew HO_7.out)
        have n1_ := Q0_ (Kd.R_drew HO_39.out)
        have n2_ := Q0_ (below_drew1 HB.out)
        clear HO_7 HO_39 HB; revert n0_ n1_ n2_; intro HO_7 HO_39 HB
        have q77 : (x8_1 : Int) ≤ ((l0.length : Int) : Int) := of_decide_eq_true aS
        obtain ⟨i077, hi077, _, hsz77, _⟩ := info_parts info36
        have hroom77 : l0.length ≤ c0 := HC0.out
        have hC77 : Kd.C k36 _ A0 l0.length l0 := HR0.out
        have q077 : (0 : Int) ≤ (x8_1 : Int) := of_decide_eq_true aS
        have hcut77 := cut_from (P := Try.prog) 25 36 .i64 Try.underlying25 hi077 2 hsz77 A0 l0.length c0 x8_1 q077 q77
        have hr77 := Kd.C_drop (m := (x8_1 : Int).toNat) (c := c0) hC77 (by omega) hroom77
        obtain ⟨A77, hA77⟩ : ∃ Az_, Az_ = (if c0 = (x8_1 : Int).toNat then A0 else (A0 : Option Addr).map (·.add ((x8_1 : Int).toNat * 2))) := ⟨_, rfl⟩
        obtain ⟨c77, hc77⟩ : ∃ cz_, cz_ = c0 - (x8_1 : Int).toNat := ⟨_, rfl⟩
        have hy77 : y193.length = l0.length - (x8_1 : Int).toNat := (by rw [Ny193.out, List.length_drop] <;> omega)
        rw [show (l0).drop (x8_1 : Int).toNat = y193 from Ny193.out.symm] at hr77
        replace hr77 : Kd.C k36 _ A77 y193.length y193 := (by rw [hA77]; exact hr77)
        rw [← hy77, ← hA77, ← hc77] at hcut77
        have HR196 := Aside0.mk hr77
        have HC196 := Q0_ (show y193.length ≤ c77 from by rw [hy77, hc77]; exact Nat.sub_le_sub_right hroom77 _)
        clear hr77 hC77 hroom77 hi077 hsz77 hc77
        have KY77 := Aside0.mk hy77
        have KA77 := Aside0.mk hA77
        clear hy77 hA77
        replace q77 := eq_true q77
        have q78 : (x9_2 : Int) ≤ ((l1.length : Int) : Int) := of_decide_eq_true aS
        obtain ⟨i078, hi078, _, hsz78, _⟩ := info_parts info36
        have hroom78 : l1.length ≤ c1 := HC1.out
        have hC78 : Kd.C k36 _ A1 l1.length l1 := HR1.out
        have q078 : (0 : Int) ≤ (x9_2 : Int) := of_decide_eq_true aS
        have hcut78 := cut_from (P := Try.prog) 25 36 .i64 Try.underlying25 hi078 2 hsz78 A1 l1.length c1 x9_2 q078 q78
        have hr78 := Kd.C_drop (m := (x9_2 : Int).toNat) (c := c1) hC78 (by omega) hroom78
        obtain ⟨A78, hA78⟩ : ∃ Az_, Az_ = (if c1 = (x9_2 : Int).toNat then A1 else (A1 : Option Addr).map (·.add ((x9_2 : Int).toNat * 2))) := ⟨_, rfl⟩
        obtain ⟨c78, hc78⟩ : ∃ cz_, cz_ = c1 - (x9_2 : Int).toNat := ⟨_, rfl⟩
        have hy78 : y197.length = l1.length - (x9_2 : Int).toNat := (by rw [Ny197.out, List.length_drop] <;> omega)
        rw [show (l1).drop (x9_2 : Int).toNat = y197 from Ny197.out.symm] at hr78
        replace hr78 : Kd.C k36 _ A78 y197.length y197 := (by rw [hA78]; exact hr78)
        rw [← hy78, ← hA78, ← hc78] at hcut78
        have HR200 := Aside0.mk hr78
        have HC200 := Q0_ (show y197.length ≤ c78 from by rw [hy78, hc78]; exact Nat.sub_le_sub_right hroom78 _)
        clear hr78 hC78 hroom78 hi078 hsz78 hc78
        have KY78 := Aside0.mk hy78
        have KA78 := Aside0.mk hA78
        clear hy78 hA78
        replace q78 := eq_true q78
        refine start_ (n := 14) (S := fun w' => True) (ds := []) #[ff,ff,ff,ff,ff,ff,ff,ff,ff,ff,ff,ff,ff,ff] (by kernel_rfl) rfl rfl trivial (fun hHeld => ?_); refine with_tabW impl_leastSums_costOf.tab13 impl_leastSums_costOf.bits13 (fun HT_ HW_ => ?_)
        generalize wr.drew = w76 at HO_7 HO_39 HB HR196 HR200 hHeld ⊢
        refine pQ HT_ 0 (some 46) #[tt,ff,ff,ff,ff,ff,ff,ff,ff,ff,ff,ff,ff,ff] rfl rfl ?_
        refine pQ HT_ 1 (some 47) #[tt,tt,ff,ff,ff,ff,ff,ff,ff,ff,ff,ff,ff,ff] rfl rfl ?_
        refine pQ HT_ 2 (some 48) #[tt,tt,tt,ff,ff,ff,ff,ff,ff,ff,ff,ff,ff,ff] rfl rfl ?_
        refine pQ HT_ 3 (some 49) #[tt,tt,tt,tt,ff,ff,ff,ff,ff,ff,ff,ff,ff,ff] rfl rfl ?_
        refine pQ HT_ 4 (some 50) #[tt,tt,tt,tt,tt,ff,ff,ff,ff,ff,ff,ff,ff,ff] rfl rfl ?_
        refine pQ HT_ 5 (some 51) #[tt,tt,tt,tt,tt,tt,ff,ff,ff,ff,ff,ff,ff,ff] rfl rfl ?_
        refine pQ HT_ 6 (some 52) #[tt,tt,tt,tt,tt,tt,tt,ff,ff,ff,ff,ff,ff,ff] rfl rfl ?_
        refine join_ (σ := Nat) 2 #[tt,tt,tt,tt,tt,tt,tt,tt,tt,tt,tt,tt,ff,ff] (fun s_ => [(53, .tuple #[.agg #[.int .i64 t201, .int .i64 t202, .int .i64 t203], .bool true]), (13, .pointer (some ⟨s_, 0, none⟩)), (45, .tuple #[.agg #[.int .i64 t201, .int .i64 t202, .int .i64 t203], .bool true]), (54, .agg #[.int .i64 t201, .int .i64 t202, .int .i64 t203]), (55, .bool true)]) (fun s_ w' => (Kd.R (Kd.scalar en63W en63_one) 63 w' w.heap.size (fun _ => True) (.slice (some ad192) t189.length co24) t189) ∧ (Kd.S (Kd.slice 3 (Kd.int .i64)) 46 w' w.heap.size (fun _ => True) (.slice (some ⟨go15, 0, none⟩) x7_3.length co15) x7_3) ∧ (w'.heap[s_]? = some (.cells #[.int .i64 0, .int .i64 0, .int .i64 0] 65 (0, 0))) ∧ (w.heap.size ≤ s_) ∧ (w.heap.size ≤ s_) ∧ (Below w.heap.size w w')) ?_ ?_
        rotate_left
        ·intro hCont
         refine two_ (i := 7) (j := 11) (Ni := some 53) (Nj := some 13) #[tt,tt,tt,tt,tt,tt,tt,tt,ff,ff,ff,ff,ff,ff] #[tt,tt,tt,tt,tt,tt,tt,ff,ff,ff,ff,tt,ff,ff] rfl rfl rfl rfl (two_of HT_.out (by kernel_rfl)) (by decide) (by decide) (fun K hK => ?_) (fun K hK => ?_)
         ·skip
          refine goes_ Try.func45 (by kernel_rfl) rfl #[en63W (rd t189 x41_3), .slice A77 y193.length c77, .slice A78 y197.length c78] (by rfl) rfl rfl hM ?_
          with_reducible refine (impl_useOf.calls k3 (rd t189 x41_3) _ _ y193 _ _ y197 t201 t202 t203 true _ ?side1 ?side2 ?side3 ?side4 A32.out).mono ?_
          (case side1 => repeat (first | exact (Kd.C_below HR196.out HB.out) | (with_reducible refine Kd.C_alloc ?_ _) | (with_reducible refine Kd.C_drewN ?_ _) | (with_reducible refine Kd.C_drew ?_)))
          (case side2 => exact HC196.out)
          (case side3 => repeat (first | exact (Kd.C_below HR200.out HB.out) | (with_reducible refine Kd.C_alloc ?_ _) | (with_reducible refine Kd.C_drewN ?_ _) | (with_reducible refine Kd.C_drew ?_)))
          (case side4 => exact HC200.out)
          rintro e w79 ⟨rfl, hb⟩
          refine ⟨_, rfl, ?_⟩
          have n0_ := Q0_ (Kd.S_below (upS HO_7) hb)
          have n1_ := Q0_ (Kd.R_below (upR HO_39) hb)
          have n2_ := Q0_ (below_step (upB HB) hb)
          clear HO_7 HO_39 HB; revert n0_ n1_ n2_; intro HO_7 HO_39 HB
          (try clear hb)
          (try clear hb2)
          (try clear hk)
          (try clear hi)
          refine hK.out _ _ trivial (fun hHeld => ?_)
          clear hK K
          refine norm_ (a' := ?_) ?_ ?_
          rotate_left
          ·show Act.put _ (some 53) _ = _
           simp only [Act.put, sI, s0, sS, i64_w, i32_w]
           rfl
          refine pQ HT_ 8 (some 45) #[tt,tt,tt,tt,tt,tt,tt,tt,tt,ff,ff,ff,ff,ff] rfl rfl ?_
          refine pQ HT_ 9 (some 54) #[tt,tt,tt,tt,tt,tt,tt,tt,tt,tt,ff,ff,ff,ff] rfl rfl ?_
          refine pQ HT_ 10 (some 55) #[tt,tt,tt,tt,tt,tt,tt,tt,tt,tt,tt,ff,ff,ff] rfl rfl ?_
          refine one_ (i := 11) (N := some 13) #[tt,tt,tt,tt,tt,tt,tt,tt,tt,tt,tt,tt,ff,ff] rfl rfl (one_of HT_.out (by kernel_rfl)) (by decide) (fun K hK => ?_)
          refine box_step ?hg (N := 13) ?hd (cs := #[.int .i64 0, .int .i64 0, .int .i64 0]) (t := 65) ?hr ?_; (case hd => rfl); (case hg => rfl); (case hr => first | (go_simp; done) | (go_simp; rfl))
          intro gb205 hg w80 hbox hb
          have n0_ := Q0_ (Kd.S_below (upS HO_7) hb)
          have n1_ := Q0_ (Kd.R_below (upR HO_39) hb)
          have n2_ := Q0_ (below_step (upB HB) hb)
          have n3_ := Q0_ (hbox)
          have n4_ := Q0_ ((by rw [hg]; exact (below_size (upB HB)) : w.heap.size ≤ gb205))
          have n5_ := Q0_ ((by rw [hg]; exact (below_size (upB HB)) : w.heap.size ≤ gb205))
          clear HO_7 HO_39 HB; revert n0_ n1_ n2_ n3_ n4_ n5_; intro HO_7 HO_39 HB BK205 GW205 GE205
          clear hb hbox hg
          refine hK.out _ _ trivial (fun hHeld => ?_)
          clear hK K
          refine norm_ (a' := ?_) ?_ ?_
          rotate_left
          ·show Act.put _ (some 13) _ = _
           simp only [Act.put, sI, s0, sS, i64_w, i32_w]
           rfl
          exact norm_ (by simp only [putAll, Act.put, sI, s0, sS]) (hCont (gb205) _ ⟨(upR HO_39), (upS HO_7), (upK BK205), GW205.out, GE205.out, upH⟩)
         ·skip
          refine box_step ?hg (N := 13) ?hd (cs := #[.int .i64 0, .int .i64 0, .int .i64 0]) (t := 65) ?hr ?_; (case hd => rfl); (case hg => rfl); (case hr => first | (go_simp; done) | (go_simp; rfl))
          intro gb205 hg w79 hbox hb
          have n0_ := Q0_ (Kd.S_below (upS HO_7) hb)
          have n1_ := Q0_ (Kd.R_below (upR HO_39) hb)
          have n2_ := Q0_ (below_step (upB HB) hb)
          have n3_ := Q0_ (hbox)
          have n4_ := Q0_ ((by rw [hg]; exact (below_size (upB HB)) : w.heap.size ≤ gb205))
          have n5_ := Q0_ ((by rw [hg]; exact (below_size (upB HB)) : w.heap.size ≤ gb205))
          clear HO_7 HO_39 HB; revert n0_ n1_ n2_ n3_ n4_ n5_; intro HO_7 HO_39 HB BK205 GW205 GE205
          clear hb hbox hg
          refine hK.out _ _ trivial (fun hHeld => ?_)
          clear hK K
          refine norm_ (a' := ?_) ?_ ?_
          rotate_left
          ·show Act.put _ (some 13) _ = _
           simp only [Act.put, sI, s0, sS, i64_w, i32_w]
           rfl
          refine one_ (i := 7) (N := some 53) #[tt,tt,tt,tt,tt,tt,tt,tt,ff,ff,ff,tt,ff,ff] rfl rfl (one_of HT_.out (by kernel_rfl)) (by decide) (fun K hK => ?_)
          refine goes_ Try.func45 (by kernel_rfl) rfl #[en63W (rd t189 x41_3), .slice A77 y193.length c77, .slice A78 y197.length c78] (by rfl) rfl rfl hM ?_
          with_reducible refine (impl_useOf.calls k3 (rd t189 x41_3) _ _ y193 _ _ y197 t201 t202 t203 true _ ?side1 ?side2 ?side3 ?side4 A32.out).mono ?_
          (case side1 => repeat (first | exact (Kd.C_below HR196.out HB.out) | (with_reducible refine Kd.C_alloc ?_ _) | (with_reducible refine Kd.C_drewN ?_ _) | (with_reducible refine Kd.C_drew ?_)))
          (case side2 => exact HC196.out)
          (case side3 => repeat (first | exact (Kd.C_below HR200.out HB.out) | (with_reducible refine Kd.C_alloc ?_ _) | (with_reducible refine Kd.C_drewN ?_ _) | (with_reducible refine Kd.C_drew ?_)))
          (case side4 => exact HC200.out)
          rintro e w80 ⟨rfl, hb⟩
          refine ⟨_, rfl, ?_⟩
          have n0_ := Q0_ (Kd.S_below (upS HO_7) hb)
          have n1_ := Q0_ (Kd.R_below (upR HO_39) hb)
          have n2_ := Q0_ (blk_below (upK BK205) hb)
          have n3_ := Q0_ (below_step upH hb)
          clear HO_7 HO_39 BK205 HB; revert n0_ n1_ n2_ n3_; intro HO_7 HO_39 BK205 HB
          (try clear hb)
          (try clear hb2)
          (try clear hk)
          (try clear hi)
          refine hK.out _ _ trivial (fun hHeld => ?_)
          clear hK K
          refine norm_ (a' := ?_) ?_ ?_
          rotate_left
          ·show Act.put _ (some 53) _ = _
           simp only [Act.put, sI, s0, sS, i64_w, i32_w]
           rfl
          refine pQ HT_ 8 (some 45) #[tt,tt,tt,tt,tt,tt,tt,tt,tt,ff,ff,tt,ff,ff] rfl rfl ?_
          refine pQ HT_ 9 (some 54) #[tt,tt,tt,tt,tt,tt,tt,tt,tt,tt,ff,tt,ff,ff] rfl rfl ?_
          refine pQ HT_ 10 (some 55) #[tt,tt,tt,tt,tt,tt,tt,tt,tt,tt,tt,tt,ff,ff] rfl rfl ?_
          exact norm_ (by simp only [putAll, Act.put, sI, s0, sS]) (hCont (gb205) _ ⟨(upR HO_39), (upS HO_7), (upK BK205), GW205.out, GE205.out, upH⟩)
        rintro gb205 w81 ⟨h0_, h1_, h2_, h3_, h4_, h5_⟩
        try dsimp only at h0_ h1_ h2_ h3_ h4_ h5_
        have n0_ := Q0_ h0_
        have n1_ := Q0_ h1_
        have n2_ := Q0_ h2_
        have n3_ := Q0_ h3_
        have n4_ := Q0_ h4_
        have n5_ := Q0_ h5_
        clear HO_7
        clear HO_39
        clear HB
        clear h0_ h1_ h2_ h3_ h4_ h5_
        have HO_39 := n0_
        have HO_7 := n1_
        have BK205 := n2_
        have GW205 := n3_
        have GE205 := n4_
        have HB := n5_
        clear n0_ n1_ n2_ n3_ n4_ n5_
        have hHeld := trivial
        refine norm_ (a' := ?_) ?_ ?_
        rotate_left
        ·simp only [putAll, Act.put, sI, s0, sS]
         rfl
        refine one_ (i := 12) (N := none) #[tt,tt,tt,tt,tt,tt,tt,tt,tt,tt,tt,tt,tt,ff] rfl rfl (one_of HT_.out (by kernel_rfl)) (by decide) (fun K hK => ?_)
        have hs82 : w81.cell? ⟨gb205, 0, none⟩ = some (.int .i64 0) := (blk_cell BK205.out 0).trans rfl
        have hfs82 := blk_frozen BK205.out 0
        have hs83 : w81.cell? ⟨gb205, 1, none⟩ = some (.int .i64 0) := (blk_cell BK205.out 1).trans rfl
        have hfs83 := blk_frozen BK205.out 1
        have hs84 : w81.cell? ⟨gb205, 2, none⟩ = some (.int .i64 0) := (blk_cell BK205.out 2).trans rfl
        have hfs84 := blk_frozen BK205.out 2
        refine skip_ (w1 := ?_) (by rfl) rfl ?_ ?_
        rotate_left
        ·go_simp
         rfl
        refine hK.out _ _ trivial (fun hHeld => ?_)
        clear hK K
        refine pQ HT_ 13 (some 14) #[tt,tt,tt,tt,tt,tt,tt,tt,tt,tt,tt,tt,tt,tt] rfl rfl ?_
        refine done_ (done_of HT_.out (by kernel_rfl)) ?_
        try go_wp2
        have n0_ : Aside0 (Kd.S (Kd.slice 3 (Kd.int .i64)) 46 (((w81.setCell ⟨gb205, 0, none⟩ (.int .i64 t201)).setCell ⟨gb205, 1, none⟩ (.int .i64 t202)).setCell ⟨gb205, 2, none⟩ (.int .i64 t203)) w.heap.size (fun _ => True) (.slice (some ⟨go15, 0, none⟩) x7_3.length co15) x7_3) := ⟨by (with_reducible repeat (first | apply Kd.S_alloc | apply Kd.S_drewN | apply Kd.S_drew)); exact Kd.S_mono (Kd.S_far (p := ⟨gb205, 2, none⟩) (Kd.S_far (p := ⟨gb205, 1, none⟩) (Kd.S_far (p := ⟨gb205, 0, none⟩) (Kd.S_types HO_7.out BK205.out (by decide)) (fun _ hk => hk.2) (.int .i64 t201)) (fun _ hk => hk.2) (.int .i64 t202)) (fun _ hk => hk.2) (.int .i64 t203)) (fun _ hk => trivial)⟩
        have n1_ : Aside0 (Kd.R (Kd.scalar en63W en63_one) 63 (((w81.setCell ⟨gb205, 0, none⟩ (.int .i64 t201)).setCell ⟨gb205, 1, none⟩ (.int .i64 t202)).setCell ⟨gb205, 2, none⟩ (.int .i64 t203)) w.heap.size (fun _ => True) (.slice (some ad192) t189.length co24) t189) := ⟨by (with_reducible repeat (first | apply Kd.R_alloc | apply Kd.R_drewN | apply Kd.R_drew)); exact Kd.R_mono (Kd.R_far (p := ⟨gb205, 2, none⟩) (Kd.R_far (p := ⟨gb205, 1, none⟩) (Kd.R_far (p := ⟨gb205, 0, none⟩) (Kd.R_types HO_39.out BK205.out (by decide)) (fun _ hk => hk.2) (.int .i64 t201)) (fun _ hk => hk.2) (.int .i64 t202)) (fun _ hk => hk.2) (.int .i64 t203)) (fun _ hk => trivial)⟩
        have n2_ : Aside0 ((((w81.setCell ⟨gb205, 0, none⟩ (.int .i64 t201)).setCell ⟨gb205, 1, none⟩ (.int .i64 t202)).setCell ⟨gb205, 2, none⟩ (.int .i64 t203)).heap[gb205]? = some (.cells #[.int .i64 t201, .int .i64 t202, .int .i64 t203] 65 (0, 0))) := ⟨by (with_reducible repeat (first | refine blk_drewN ?_ _ | refine blk_drew ?_ | refine blk_alloc ?_ _)); refine blk_put (cs := #[.int .i64 t201, .int .i64 t202, .int .i64 0]) ?_ 2 _ rfl; (with_reducible repeat (first | refine blk_drewN ?_ _ | refine blk_drew ?_ | refine blk_alloc ?_ _)); refine blk_put (cs := #[.int .i64 t201, .int .i64 0, .int .i64 0]) ?_ 1 _ rfl; (with_reducible repeat (first | refine blk_drewN ?_ _ | refine blk_drew ?_ | refine blk_alloc ?_ _)); refine blk_put (cs := #[.int .i64 0, .int .i64 0, .int .i64 0]) ?_ 0 _ rfl; (with_reducible repeat (first | refine blk_drewN ?_ _ | refine blk_drew ?_ | refine blk_alloc ?_ _)); exact BK205.out⟩
        have n3_ : Aside0 (Below w.heap.size w (((w81.setCell ⟨gb205, 0, none⟩ (.int .i64 t201)).setCell ⟨gb205, 1, none⟩ (.int .i64 t202)).setCell ⟨gb205, 2, none⟩ (.int .i64 t203))) := ⟨by repeat (first | (with_reducible first | exact HB.out | apply below_alloc | apply pw_below_drewN | apply below_drew1 | refine below_set ?_ GE205.out) | exact HB.out)⟩
        (try clear HO_7)
        (try clear HO_39)
        (try clear BK205)
        (try clear HB)
        generalize (((w81.setCell ⟨gb205, 0, none⟩ (.int .i64 t201)).setCell ⟨gb205, 1, none⟩ (.int .i64 t202)).setCell ⟨gb205, 2, none⟩ (.int .i64 t203)) = w85 at n0_ n1_ n2_ n3_ ⊢
        have HO_7 := n0_
        have HO_39 := n1_
        have BK205 := n2_
        have HB := n3_
        clear n0_ n1_ n2_ n3_
        have n0_ := Q0_ (Kd.S_drew HO_7.out)
        have n1_ := Q0_ (Kd.R_drew HO_39.out)
        have n2_ := Q0_ (blk_drew BK205.out)
        have n3_ := Q0_ (below_drew1 HB.out)
        clear HO_7 HO_39 BK205 HB; revert n0_ n1_ n2_ n3_; intro HO_7 HO_39 BK205 HB
        have p207 : 0 ≤ ((ji35) : Int) := of_decide_eq_true aS
        have q207 : (ji35) < (x7_3.length : Int) := of_decide_eq_true aS
        obtain ⟨ad207, A207_0, c207_0, e207, hx207_0, hl207_0, hi207_0⟩ := at_L4 (Kd.S_reads' HO_7.out).2.2 (ji35) p207 q207
        obtain rfl : (⟨go15, 0, none⟩ : Addr) = ad207 := (by injection e207)
        obtain ⟨ce207, hce207, hMe207, hcc207⟩ := Kd.S_get HO_7.out [] (ji35) p207 (by first | exact q207 | exact of_decide_eq_true aS | (have e_ := (Kd.S_reads' HO_7.out).1; omega))
        obtain ⟨ve207_0, rfl, ge207_0⟩ := hMe207
        have hv207_0 := hcc207 0 _ rfl
        rw [Nat.add_zero, show ((Kd.slice 3 (Kd.int .i64))).sz = 1 from rfl, Nat.mul_one] at hv207_0
        replace hv207_0 := Option.some.inj (hv207_0.symm.trans hx207_0)
        rw [hv207_0] at ge207_0
        have HL207_0 := Q0_ (show Kd.R (Kd.int .i64) 3 _ _ _ _ (rd_L4 x7_3 (ji35)) from ge207_0)
        clear hv207_0 ge207_0
        have HX207_0 := Aside0.mk hx207_0
        clear hcc207 hce207
        (first | simp only [add_plain] at hx207_0 | simp only [add_at] at hx207_0 | simp only [Addr.add, Nat.zero_add] at hx207_0 | skip)
        have HR207_0 := Aside0.mk hi207_0
        have HC207_0 := Aside0.mk hl207_0
        clear hi207_0 hl207_0
        replace p207 := eq_true p207
        replace q207 := eq_true q207
        have p208 : 0 ≤ ((ji38) : Int) := of_decide_eq_true aS
        have q208 : (ji38) < ((rd_L4 x7_3 (ji35)).length : Int) := of_decide_eq_true aS
        obtain ⟨ad208, e208, hx208_0⟩ := Kd.at_int HR207_0.out (ji38) p208 q208
        cases e208
        replace p208 := eq_true p208
        replace q208 := eq_true q208
        refine start_ (n := 19) (S := fun w' => w'.cell? ⟨gb205, 0, none⟩ = some (.int .i64 t201) ∧ w'.cell? ⟨gb205, 1, none⟩ = some (.int .i64 t202) ∧ w'.cell? ⟨gb205, 2, none⟩ = some (.int .i64 t203) ∧ w'.cell? ⟨go15, ((ji35)).toNat, none⟩ = some (.slice (some ad208) (rd_L4 x7_3 (ji35)).length c207_0) ∧ w'.cell? (ad208.add ((ji38)).toNat) = some (.int .i64 (rd (rd_L4 x7_3 (ji35)) (ji38)))) (ds := []) #[ff,ff,ff,ff,ff,ff,ff,ff,ff,ff,ff,ff,ff,ff,ff,ff,ff,ff,ff] (by kernel_rfl) rfl rfl ⟨(blk_cell BK205.out 0).trans rfl, (blk_cell BK205.out 1).trans rfl, (blk_cell BK205.out 2).trans rfl, hx207_0, hx208_0⟩ (fun hHeld => ?_); refine with_tabW impl_leastSums_costOf.tab15 impl_leastSums_costOf.bits15 (fun HT_ HW_ => ?_)
        generalize w85.drew = w86 at HO_7 HO_39 BK205 HB HL207_0 HR207_0 HX207_0 hx207_0 hx208_0 hHeld ⊢
        refine pQ HT_ 0 (some 58) #[tt,ff,ff,ff,ff,ff,ff,ff,ff,ff,ff,ff,ff,ff,ff,ff,ff,ff,ff] rfl rfl ?_
        refine pQ HT_ 1 (some 59) #[tt,tt,ff,ff,ff,ff,ff,ff,ff,ff,ff,ff,ff,ff,ff,ff,ff,ff,ff] rfl rfl ?_
        refine pQ HT_ 4 (some 62) #[tt,tt,ff,ff,tt,ff,ff,ff,ff,ff,ff,ff,ff,ff,ff,ff,ff,ff,ff] rfl rfl ?_
        refine pQ HT_ 5 (some 63) #[tt,tt,ff,ff,tt,tt,ff,ff,ff,ff,ff,ff,ff,ff,ff,ff,ff,ff,ff] rfl rfl ?_
        refine pQ HT_ 6 (some 64) #[tt,tt,ff,ff,tt,tt,tt,ff,ff,ff,ff,ff,ff,ff,ff,ff,ff,ff,ff] rfl rfl ?_
        refine pQ HT_ 11 (some 69) #[tt,tt,ff,ff,tt,tt,tt,ff,ff,ff,ff,tt,ff,ff,ff,ff,ff,ff,ff] rfl rfl ?_
        refine pQ HT_ 12 (some 70) #[tt,tt,ff,ff,tt,tt,tt,ff,ff,ff,ff,tt,tt,ff,ff,ff,ff,ff,ff] rfl rfl ?_
        refine tQ HT_ HW_ 2 (some 60) #[tt,tt,tt,ff,tt,tt,tt,ff,ff,ff,ff,tt,tt,ff,ff,ff,ff,ff,ff] rfl rfl hHeld (by rintro w' ⟨s0, s1, s2, s3, s4⟩; go_simp; with_reducible rfl) ?_
        refine tQ HT_ HW_ 7 (some 65) #[tt,tt,tt,ff,tt,tt,tt,tt,ff,ff,ff,tt,tt,ff,ff,ff,ff,ff,ff] rfl rfl hHeld (by rintro w' ⟨s0, s1, s2, s3, s4⟩; go_simp; with_reducible rfl) ?_
        refine pQ HT_ 8 (some 66) #[tt,tt,tt,ff,tt,tt,tt,tt,tt,ff,ff,tt,tt,ff,ff,ff,ff,ff,ff] rfl rfl ?_
        refine pQ HT_ 9 (some 67) #[tt,tt,tt,ff,tt,tt,tt,tt,tt,tt,ff,tt,tt,ff,ff,ff,ff,ff,ff] rfl rfl ?_
        refine tQ HT_ HW_ 10 (some 68) #[tt,tt,tt,ff,tt,tt,tt,tt,tt,tt,tt,tt,tt,ff,ff,ff,ff,ff,ff] rfl rfl hHeld (by rintro w' ⟨s0, s1, s2, s3, s4⟩; go_simp; with_reducible rfl) ?_
        refine tQ HT_ HW_ 13 (some 71) #[tt,tt,tt,ff,tt,tt,tt,tt,tt,tt,tt,tt,tt,tt,ff,ff,ff,ff,ff] rfl rfl hHeld (by rintro w' ⟨s0, s1, s2, s3, s4⟩; go_simp; with_reducible rfl) ?_
        refine pQ HT_ 14 (some 72) #[tt,tt,tt,ff,tt,tt,tt,tt,tt,tt,tt,tt,tt,tt,tt,ff,ff,ff,ff] rfl rfl ?_
        refine pQ HT_ 15 (some 73) #[tt,tt,tt,ff,tt,tt,tt,tt,tt,tt,tt,tt,tt,tt,tt,tt,ff,ff,ff] rfl rfl ?_
        refine tQ HT_ HW_ 16 (some 74) #[tt,tt,tt,ff,tt,tt,tt,tt,tt,tt,tt,tt,tt,tt,tt,tt,tt,ff,ff] rfl rfl hHeld (by rintro w' ⟨s0, s1, s2, s3, s4⟩; go_simp; with_reducible rfl) ?_
        refine one_ (i := 3) (N := some 61) #[tt,tt,tt,tt,tt,tt,tt,tt,tt,tt,tt,tt,tt,tt,tt,tt,tt,ff,ff] rfl rfl (one_of HT_.out (by kernel_rfl)) (by decide) (fun K hK => ?_)
        refine goesF_ Try.func39 (by kernel_rfl) rfl #[en63W (rd t189 x41_3), .agg #[.int .i64 t201, .int .i64 t202, .int .i64 t203]] (by rfl) rfl rfl rfl hM ?_
        with_reducible refine (impl_costOf.calls (rd t189 x41_3) t201 t202 t203 t206 _ A34.out).mono ?_
        rintro e w87 ⟨rfl, hb⟩
        have HS3_ := (hb.cell (World.block_lt_of_cell? _ _ (hHeld.2.2.2.1))).trans (hHeld.2.2.2.1)
        have HS4_ := (hb.cell (World.block_lt_of_cell? _ _ (hHeld.2.2.2.2))).trans (hHeld.2.2.2.2)
        refine ⟨_, rfl, ?_⟩
        have n0_ := Q0_ (Kd.S_below (upS HO_7) hb)
        have n1_ := Q0_ (Kd.R_below (upR HO_39) hb)
        have n2_ := Q0_ (Kd.R_below (upR HL207_0) hb)
        have n3_ := Q0_ (blk_below (upK BK205) hb)
        have n4_ := Q0_ (Kd.C_below (upC HR207_0) hb)
        have n5_ := Q0_ (pw_cell_below hb HX207_0.out)
        have n6_ := Q0_ (below_step upH hb)
        clear HO_7 HO_39 HL207_0 BK205 HR207_0 HX207_0 HB; revert n0_ n1_ n2_ n3_ n4_ n5_ n6_; intro HO_7 HO_39 HL207_0 BK205 HR207_0 HX207_0 HB
        (try clear hb)
        (try clear hb2)
        (try clear hk)
        (try clear hi)
        refine hK.out _ _ ⟨(blk_cell BK205.out 0).trans rfl, (blk_cell BK205.out 1).trans rfl, (blk_cell BK205.out 2).trans rfl, HS3_, HS4_⟩ (fun hHeld => ?_)
        clear hK K
        refine norm_ (a' := ?_) ?_ ?_
        rotate_left
        ·show Act.put _ (some 61) _ = _
         simp only [Act.put, sI, s0, sS, i64_w, i32_w]
         rfl
        refine pQ HT_ 17 (some 75) #[tt,tt,tt,tt,tt,tt,tt,tt,tt,tt,tt,tt,tt,tt,tt,tt,tt,tt,ff] rfl rfl ?_
        refine pQ HT_ 18 (some 15) #[tt,tt,tt,tt,tt,tt,tt,tt,tt,tt,tt,tt,tt,tt,tt,tt,tt,tt,tt] rfl rfl ?_
        refine done_ (done_of HT_.out (by kernel_rfl)) ?_
        have p214 : 0 ≤ (x8_1 : Int) := of_decide_eq_true aS
        have q214 : x8_1 < (x7_3.length : Int) := of_decide_eq_true aS
        obtain ⟨ad214, A214_0, c214_0, e214, hx214_0, hl214_0, hi214_0⟩ := at_L4 (Kd.S_reads' HO_7.out).2.2 x8_1 p214 q214
        obtain rfl : (⟨go15, 0, none⟩ : Addr) = ad214 := (by injection e214)
        obtain ⟨ce214, hce214, hMe214, hcc214⟩ := Kd.S_get HO_7.out [] x8_1 p214 (by first | exact q214 | exact of_decide_eq_true aS | (have e_ := (Kd.S_reads' HO_7.out).1; omega))
        obtain ⟨ve214_0, rfl, ge214_0⟩ := hMe214
        have hv214_0 := hcc214 0 _ rfl
        rw [Nat.add_zero, show ((Kd.slice 3 (Kd.int .i64))).sz = 1 from rfl, Nat.mul_one] at hv214_0
        replace hv214_0 := Option.some.inj (hv214_0.symm.trans hx214_0)
        rw [hv214_0] at ge214_0
        have HL214_0 := Q0_ (show Kd.R (Kd.int .i64) 3 _ _ _ _ (rd_L4 x7_3 x8_1) from ge214_0)
        clear hv214_0 ge214_0
        have HX214_0 := Aside0.mk hx214_0
        clear hcc214 hce214
        (first | simp only [add_plain] at hx214_0 | simp only [add_at] at hx214_0 | simp only [Addr.add, Nat.zero_add] at hx214_0 | skip)
        have HR214_0 := Aside0.mk hi214_0
        have HC214_0 := Aside0.mk hl214_0
        clear hi214_0 hl214_0
        replace p214 := eq_true p214
        replace q214 := eq_true q214
        have p75 : 0 ≤ (x9_2 : Int) := of_decide_eq_true aS
        have q75 : (x9_2 : Int) < (((rd_L4 x7_3 x8_1).length : Int) : Int) := of_decide_eq_true aS
        obtain ⟨go75, co75, eo75, gb75, gl75, cl75, HG75⟩ := Kd.R_form HL214_0.out (by omega)
        (first | cases eo75 | (injection eo75 with ea_ en_ ec_; (first | subst ea_ | (injection ea_ with ea_; subst ea_)); subst ec_; clear en_))
        have GB75 := Aside0.mk gb75
        have GG75 := Aside0.mk HG75
        clear gb75 gl75 HG75
        obtain ⟨hx75_0, hf75_0⟩ := Kd.R_celln 0 HL214_0.out (x9_2 : Int) p75 q75
        replace p75 := eq_true p75
        replace q75 := eq_true q75
        have hq88 : (x8_1 : Int) < (x7_3.length : Int) := (by have h_ : (x8_1 : Int) < ((x7_3.length : Int) : Int) := of_decide_eq_true aS; first | exact h_ | (have e_ := (Kd.S_reads' HO_7.out).1; omega) | simpa only [List.length_set, List.length_set] using h_)
        obtain ⟨oki88, ce88, hcl88, hM88, hcc88, hok88, hbk88⟩ := Kd.S_borrow HO_7.out [] (x8_1 : Int) (of_decide_eq_true aS) hq88
        obtain ⟨ve88_0, rfl, ge88_0⟩ := hM88
        have hv88 := hcc88 0 _ rfl
        rw [Nat.add_zero, show ((Kd.slice 3 (Kd.int .i64))).sz = 1 from rfl, Nat.mul_one] at hv88
        replace hv88 := Option.some.inj (hv88.symm.trans HX214_0.out)
        subst hv88
        clear hcc88 hcl88
        replace ge88_0 := (show Kd.R (Kd.int .i64) 3 _ _ _ _ (rd_L4 x7_3 x8_1) from ge88_0)
        have HP88 := Kd.R_putg ge88_0 (x9_2 : Int) (wrap64 (t206 + (rd (rd_L4 x7_3 (ji35)) (ji38))))
        try go_wp2_with (first | ((with_reducible refine gate_store (t := 3) (p := 95) rfl ?_); refine store_event (t := 3) (p := 95) (v := ?vo_w89) (w1 := (w87.setCell ⟨go75, (x9_2 : Int).toNat, none⟩ (.int .i64 (wrap64 (t206 + (rd (rd_L4 x7_3 (ji35)) (ji38))))))) ?hg ?ho ?hn ?hr ?_; (case ho => rfl); (case hg => rfl); (case hn => rfl); (case hr => first | (go_simp; done) | (go_simp; rfl)); intro w89 hw; have hg : w87.grownBy w89 (some go75) := (by rw [hw]; exact HP88.2); have hz_ : Kd.R (Kd.int .i64) 3 w89 w.heap.size oki88 (.slice (some ⟨go75, 0, none⟩) (rd_L4 x7_3 x8_1).length c214_0) y215 := (by rw [hw, Ny215.out]; exact HP88.1); have hp_ : Kd.S (Kd.slice 3 (Kd.int .i64)) 46 w89 w.heap.size (fun _ => True) (.slice (some ⟨go15, 0, none⟩) x7_3.length co15) y217 := (by rw [Ny217.out]; exact hbk88 hg (fun k_ e_ => by injection e_ with e_; subst e_; exact ge88_0.1 _ rfl) (Kd.M_row hz_)); have hm_ := Kd.R_mono hz_ hok88; clear HP88 hbk88; have n0_ := Q0_ (hp_); have n1_ := Q0_ (Kd.R_over' (v := (.slice (some ⟨go75, 0, none⟩) (rd_L4 x7_3 x8_1).length c214_0)) (upR HO_39) (Kd.R_typed HL214_0.out) (by decide) hg); have n2_ := Q0_ (blk_grown (g := gb205) (o := .cells #[.int .i64 t201, .int .i64 t202, .int .i64 t203] 65 (0, 0)) (upK BK205) hg (Kd.R_ne HL214_0.out BK205.out (by decide))); have n3_ := Q0_ ((by rw [hw]; exact below_set (HB.out) GB75.out : Below w.heap.size w w89)); have n4_ := Q0_ (hm_); have n5_ := Q0_ ((Kd.R_reads' hm_).2.1); clear HO_7 HO_39 BK205 HB HL207_0 HL214_0; revert n0_ n1_ n2_ n3_ n4_ n5_; intro HO_7 HO_39 BK205 HB HL219 HC216; clear hg hw hp_ hz_ hm_ hok88))
        (try simp only [← hl7_3])
        first | go_roundg k3 | ((try simp only [← hji4] at H' ⊢); (try simp only [← hji10] at H' ⊢); (try simp only [← hji35] at H' ⊢); (try simp only [← hji38] at H' ⊢); go_roundg k3)
        case measure => have := HK1.out; have := HK2.out; have := HK3.out; omega
        case rel => exact ⟨(y217), (true), (wrap64 (x41_3 + 1)), eX, eX, H', ⟨by have := HK1.out; have := HK2.out; have := HK3.out; omega⟩, ⟨by (try simp only [hl7_2]); (try simp only [hl7_3]); (with_reducible repeat (first | apply Kd.S_alloc | apply Kd.S_drewN | apply Kd.S_drew)); exact HO_7.out⟩, ⟨by (try simp only [hl7_2]); (try simp only [hl7_3]); (with_reducible repeat (first | apply Kd.R_alloc | apply Kd.R_drewN | apply Kd.R_drew)); exact HO_39.out⟩, ⟨by repeat (first | (with_reducible first | exact HB.out | apply below_alloc | apply pw_below_drewN | apply below_drew1 | refine below_set ?_ GE205.out) | exact HB.out)⟩⟩
       subst c41
       replace H := ifP (rfl) H
       by_cases c42 : x8_1 < (x7_3.length : Int)
       rotate_left
       ·rw [if_neg c42] at H
        exact absurd H (by simp)
       rw [if_pos c42] at H
       have c42b0 : decide (x8_1 < (x7_3.length : Int)) = true := decide_eq_true c42
       clear c42
       by_cases c43 : x9_2 < ((rd_L4 x7_3 x8_1).length : Int)
       rotate_left
       ·rw [if_neg c43] at H
        exact absurd H (by simp)
       rw [if_pos c43] at H
       have c43b0 : decide (x9_2 < ((rd_L4 x7_3 x8_1).length : Int)) = true := decide_eq_true c43
       clear c43
       by_cases c44 : (wrap64 (t206 + (rd (rd_L4 x7_3 (ji35)) (ji38)))) < (rd (rd_L4 x7_3 x8_1) x9_2)
       rotate_left
       ·rw [if_neg c44] at H
        have c44b0 : decide ((wrap64 (t206 + (rd (rd_L4 x7_3 (ji35)) (ji38)))) < (rd (rd_L4 x7_3 x8_1) x9_2)) = false := decide_eq_false c44
        clear c44
        have H' := Aside0.mk H
        clear H
        have p192 : 0 ≤ (x41_3 : Int) := of_decide_eq_true aS
        have q192 : x41_3 < (t189.length : Int) := of_decide_eq_true aS
        obtain ⟨ad192, e192, hx192_0⟩ := at_en63 (Kd.R_reads' HO_39.out).2.2 x41_3 p192 q192
        cases e192
        replace p192 := eq_true p192
        replace q192 := eq_true q192
        try go_wp2
        have n0_ := Q0_ (Kd.S_drew HO_7.out)
        have n1_ := Q0_ (Kd.R_drew HO_39.out)
        have n2_ := Q0_ (below_drew1 HB.out)
        clear HO_7 HO_39 HB; revert n0_ n1_ n2_; intro HO_7 HO_39 HB
        have q62 : (x8_1 : Int) ≤ ((l0.length : Int) : Int) := of_decide_eq_true aS
        obtain ⟨i062, hi062, _, hsz62, _⟩ := info_parts info36
        have hroom62 : l0.length ≤ c0 := HC0.out
        have hC62 : Kd.C k36 _ A0 l0.length l0 := HR0.out
        have q062 : (0 : Int) ≤ (x8_1 : Int) := of_decide_eq_true aS
        have hcut62 := cut_from (P := Try.prog) 25 36 .i64 Try.underlying25 hi062 2 hsz62 A0 l0.length c0 x8_1 q062 q62
        have hr62 := Kd.C_drop (m := (x8_1 : Int).toNat) (c := c0) hC62 (by omega) hroom62
        obtain ⟨A62, hA62⟩ : ∃ Az_, Az_ = (if c0 = (x8_1 : Int).toNat then A0 else (A0 : Option Addr).map (·.add ((x8_1 : Int).toNat * 2))) := ⟨_, rfl⟩
        obtain ⟨c62, hc62⟩ : ∃ cz_, cz_ = c0 - (x8_1 : Int).toNat := ⟨_, rfl⟩
        have hy62 : y193.length = l0.length - (x8_1 : Int).toNat := (by rw [Ny193.out, List.length_drop] <;> omega)
        rw [show (l0).drop (x8_1 : Int).toNat = y193 from Ny193.out.symm] at hr62
        replace hr62 : Kd.C k36 _ A62 y193.length y193 := (by rw [hA62]; exact hr62)
        rw [← hy62, ← hA62, ← hc62] at hcut62
        have HR196 := Aside0.mk hr62
        have HC196 := Q0_ (show y193.length ≤ c62 from by rw [hy62, hc62]; exact Nat.sub_le_sub_right hroom62 _)
        clear hr62 hC62 hroom62 hi062 hsz62 hc62
        have KY62 := Aside0.mk hy62
        have KA62 := Aside0.mk hA62
        clear hy62 hA62
        replace q62 := eq_true q62
        have q63 : (x9_2 : Int) ≤ ((l1.length : Int) : Int) := of_decide_eq_true aS
        obtain ⟨i063, hi063, _, hsz63, _⟩ := info_parts info36
        have hroom63 : l1.length ≤ c1 := HC1.out
        have hC63 : Kd.C k36 _ A1 l1.length l1 := HR1.out
        have q063 : (0 : Int) ≤ (x9_2 : Int) := of_decide_eq_true aS
        have hcut63 := cut_from (P := Try.prog) 25 36 .i64 Try.underlying25 hi063 2 hsz63 A1 l1.length c1 x9_2 q063 q63
        have hr63 := Kd.C_drop (m := (x9_2 : Int).toNat) (c := c1) hC63 (by omega) hroom63
        obtain ⟨A63, hA63⟩ : ∃ Az_, Az_ = (if c1 = (x9_2 : Int).toNat then A1 else (A1 : Option Addr).map (·.add ((x9_2 : Int).toNat * 2))) := ⟨_, rfl⟩
        obtain ⟨c63, hc63⟩ : ∃ cz_, cz_ = c1 - (x9_2 : Int).toNat := ⟨_, rfl⟩
        have hy63 : y197.length = l1.length - (x9_2 : Int).toNat := (by rw [Ny197.out, List.length_drop] <;> omega)
        rw [show (l1).drop (x9_2 : Int).toNat = y197 from Ny197.out.symm] at hr63
        replace hr63 : Kd.C k36 _ A63 y197.length y197 := (by rw [hA63]; exact hr63)
        rw [← hy63, ← hA63, ← hc63] at hcut63
        have HR200 := Aside0.mk hr63
        have HC200 := Q0_ (show y197.length ≤ c63 from by rw [hy63, hc63]; exact Nat.sub_le_sub_right hroom63 _)
        clear hr63 hC63 hroom63 hi063 hsz63 hc63
        have KY63 := Aside0.mk hy63
        have KA63 := Aside0.mk hA63
        clear hy63 hA63
        replace q63 := eq_true q63
        refine start_ (n := 14) (S := fun w' => True) (ds := []) #[ff,ff,ff,ff,ff,ff,ff,ff,ff,ff,ff,ff,ff,ff] (by kernel_rfl) rfl rfl trivial (fun hHeld => ?_); refine with_tabW impl_leastSums_costOf.tab13 impl_leastSums_costOf.bits13 (fun HT_ HW_ => ?_)
        generalize wr.drew = w61 at HO_7 HO_39 HB HR196 HR200 hHeld ⊢
        refine pQ HT_ 0 (some 46) #[tt,ff,ff,ff,ff,ff,ff,ff,ff,ff,ff,ff,ff,ff] rfl rfl ?_
        refine pQ HT_ 1 (some 47) #[tt,tt,ff,ff,ff,ff,ff,ff,ff,ff,ff,ff,ff,ff] rfl rfl ?_
        refine pQ HT_ 2 (some 48) #[tt,tt,tt,ff,ff,ff,ff,ff,ff,ff,ff,ff,ff,ff] rfl rfl ?_
        refine pQ HT_ 3 (some 49) #[tt,tt,tt,tt,ff,ff,ff,ff,ff,ff,ff,ff,ff,ff] rfl rfl ?_
        refine pQ HT_ 4 (some 50) #[tt,tt,tt,tt,tt,ff,ff,ff,ff,ff,ff,ff,ff,ff] rfl rfl ?_
        refine pQ HT_ 5 (some 51) #[tt,tt,tt,tt,tt,tt,ff,ff,ff,ff,ff,ff,ff,ff] rfl rfl ?_
        refine pQ HT_ 6 (some 52) #[tt,tt,tt,tt,tt,tt,tt,ff,ff,ff,ff,ff,ff,ff] rfl rfl ?_
        refine join_ (σ := Nat) 2 #[tt,tt,tt,tt,tt,tt,tt,tt,tt,tt,tt,tt,ff,ff] (fun s_ => [(53, .tuple #[.agg #[.int .i64 t201, .int .i64 t202, .int .i64 t203], .bool true]), (13, .pointer (some ⟨s_, 0, none⟩)), (45, .tuple #[.agg #[.int .i64 t201, .int .i64 t202, .int .i64 t203], .bool true]), (54, .agg #[.int .i64 t201, .int .i64 t202, .int .i64 t203]), (55, .bool true)]) (fun s_ w' => (Kd.R (Kd.scalar en63W en63_one) 63 w' w.heap.size (fun _ => True) (.slice (some ad192) t189.length co24) t189) ∧ (Kd.S (Kd.slice 3 (Kd.int .i64)) 46 w' w.heap.size (fun _ => True) (.slice (some ⟨go15, 0, none⟩) x7_3.length co15) x7_3) ∧ (w'.heap[s_]? = some (.cells #[.int .i64 0, .int .i64 0, .int .i64 0] 65 (0, 0))) ∧ (w.heap.size ≤ s_) ∧ (w.heap.size ≤ s_) ∧ (Below w.heap.size w w')) ?_ ?_
        rotate_left
        ·intro hCont
         refine two_ (i := 7) (j := 11) (Ni := some 53) (Nj := some 13) #[tt,tt,tt,tt,tt,tt,tt,tt,ff,ff,ff,ff,ff,ff] #[tt,tt,tt,tt,tt,tt,tt,ff,ff,ff,ff,tt,ff,ff] rfl rfl rfl rfl (two_of HT_.out (by kernel_rfl)) (by decide) (by decide) (fun K hK => ?_) (fun K hK => ?_)
         ·skip
          refine goes_ Try.func45 (by kernel_rfl) rfl #[en63W (rd t189 x41_3), .slice A62 y193.length c62, .slice A63 y197.length c63] (by rfl) rfl rfl hM ?_
          with_reducible refine (impl_useOf.calls k3 (rd t189 x41_3) _ _ y193 _ _ y197 t201 t202 t203 true _ ?side1 ?side2 ?side3 ?side4 A32.out).mono ?_
          (case side1 => repeat (first | exact (Kd.C_below HR196.out HB.out) | (with_reducible refine Kd.C_alloc ?_ _) | (with_reducible refine Kd.C_drewN ?_ _) | (with_reducible refine Kd.C_drew ?_)))
          (case side2 => exact HC196.out)
          (case side3 => repeat (first | exact (Kd.C_below HR200.out HB.out) | (with_reducible refine Kd.C_alloc ?_ _) | (with_reducible refine Kd.C_drewN ?_ _) | (with_reducible refine Kd.C_drew ?_)))
          (case side4 => exact HC200.out)
          rintro e w64 ⟨rfl, hb⟩
          refine ⟨_, rfl, ?_⟩
          have n0_ := Q0_ (Kd.S_below (upS HO_7) hb)
          have n1_ := Q0_ (Kd.R_below (upR HO_39) hb)
          have n2_ := Q0_ (below_step (upB HB) hb)
          clear HO_7 HO_39 HB; revert n0_ n1_ n2_; intro HO_7 HO_39 HB
          (try clear hb)
          (try clear hb2)
          (try clear hk)
          (try clear hi)
          refine hK.out _ _ trivial (fun hHeld => ?_)
          clear hK K
          refine norm_ (a' := ?_) ?_ ?_
          rotate_left
          ·show Act.put _ (some 53) _ = _
           simp only [Act.put, sI, s0, sS, i64_w, i32_w]
           rfl
          refine pQ HT_ 8 (some 45) #[tt,tt,tt,tt,tt,tt,tt,tt,tt,ff,ff,ff,ff,ff] rfl rfl ?_
          refine pQ HT_ 9 (some 54) #[tt,tt,tt,tt,tt,tt,tt,tt,tt,tt,ff,ff,ff,ff] rfl rfl ?_
          refine pQ HT_ 10 (some 55) #[tt,tt,tt,tt,tt,tt,tt,tt,tt,tt,tt,ff,ff,ff] rfl rfl ?_
          refine one_ (i := 11) (N := some 13) #[tt,tt,tt,tt,tt,tt,tt,tt,tt,tt,tt,tt,ff,ff] rfl rfl (one_of HT_.out (by kernel_rfl)) (by decide) (fun K hK => ?_)
          refine box_step ?hg (N := 13) ?hd (cs := #[.int .i64 0, .int .i64 0, .int .i64 0]) (t := 65) ?hr ?_; (case hd => rfl); (case hg => rfl); (case hr => first | (go_simp; done) | (go_simp; rfl))
          intro gb205 hg w65 hbox hb
          have n0_ := Q0_ (Kd.S_below (upS HO_7) hb)
          have n1_ := Q0_ (Kd.R_below (upR HO_39) hb)
          have n2_ := Q0_ (below_step (upB HB) hb)
          have n3_ := Q0_ (hbox)
          have n4_ := Q0_ ((by rw [hg]; exact (below_size (upB HB)) : w.heap.size ≤ gb205))
          have n5_ := Q0_ ((by rw [hg]; exact (below_size (upB HB)) : w.heap.size ≤ gb205))
          clear HO_7 HO_39 HB; revert n0_ n1_ n2_ n3_ n4_ n5_; intro HO_7 HO_39 HB BK205 GW205 GE205
          clear hb hbox hg
          refine hK.out _ _ trivial (fun hHeld => ?_)
          clear hK K
          refine norm_ (a' := ?_) ?_ ?_
          rotate_left
          ·show Act.put _ (some 13) _ = _
           simp only [Act.put, sI, s0, sS, i64_w, i32_w]
           rfl
          exact norm_ (by simp only [putAll, Act.put, sI, s0, sS]) (hCont (gb205) _ ⟨(upR HO_39), (upS HO_7), (upK BK205), GW205.out, GE205.out, upH⟩)
         ·skip
          refine box_step ?hg (N := 13) ?hd (cs := #[.int .i64 0, .int .i64 0, .int .i64 0]) (t := 65) ?hr ?_; (case hd => rfl); (case hg => rfl); (case hr => first | (go_simp; done) | (go_simp; rfl))
          intro gb205 hg w64 hbox hb
          have n0_ := Q0_ (Kd.S_below (upS HO_7) hb)
          have n1_ := Q0_ (Kd.R_below (upR HO_39) hb)
          have n2_ := Q0_ (below_step (upB HB) hb)
          have n3_ := Q0_ (hbox)
          have n4_ := Q0_ ((by rw [hg]; exact (below_size (upB HB)) : w.heap.size ≤ gb205))
          have n5_ := Q0_ ((by rw [hg]; exact (below_size (upB HB)) : w.heap.size ≤ gb205))
          clear HO_7 HO_39 HB; revert n0_ n1_ n2_ n3_ n4_ n5_; intro HO_7 HO_39 HB BK205 GW205 GE205
          clear hb hbox hg
          refine hK.out _ _ trivial (fun hHeld => ?_)
          clear hK K
          refine norm_ (a' := ?_) ?_ ?_
          rotate_left
          ·show Act.put _ (some 13) _ = _
           simp only [Act.put, sI, s0, sS, i64_w, i32_w]
           rfl
          refine one_ (i := 7) (N := some 53) #[tt,tt,tt,tt,tt,tt,tt,tt,ff,ff,ff,tt,ff,ff] rfl rfl (one_of HT_.out (by kernel_rfl)) (by decide) (fun K hK => ?_)
          refine goes_ Try.func45 (by kernel_rfl) rfl #[en63W (rd t189 x41_3), .slice A62 y193.length c62, .slice A63 y197.length c63] (by rfl) rfl rfl hM ?_
          with_reducible refine (impl_useOf.calls k3 (rd t189 x41_3) _ _ y193 _ _ y197 t201 t202 t203 true _ ?side1 ?side2 ?side3 ?side4 A32.out).mono ?_
          (case side1 => repeat (first | exact (Kd.C_below HR196.out HB.out) | (with_reducible refine Kd.C_alloc ?_ _) | (with_reducible refine Kd.C_drewN ?_ _) | (with_reducible refine Kd.C_drew ?_)))
          (case side2 => exact HC196.out)
          (case side3 => repeat (first | exact (Kd.C_below HR200.out HB.out) | (with_reducible refine Kd.C_alloc ?_ _) | (with_reducible refine Kd.C_drewN ?_ _) | (with_reducible refine Kd.C_drew ?_)))
          (case side4 => exact HC200.out)
          rintro e w65 ⟨rfl, hb⟩
          refine ⟨_, rfl, ?_⟩
          have n0_ := Q0_ (Kd.S_below (upS HO_7) hb)
          have n1_ := Q0_ (Kd.R_below (upR HO_39) hb)
          have n2_ := Q0_ (blk_below (upK BK205) hb)
          have n3_ := Q0_ (below_step upH hb)
          clear HO_7 HO_39 BK205 HB; revert n0_ n1_ n2_ n3_; intro HO_7 HO_39 BK205 HB
          (try clear hb)
          (try clear hb2)
          (try clear hk)
          (try clear hi)
          refine hK.out _ _ trivial (fun hHeld => ?_)
          clear hK K
          refine norm_ (a' := ?_) ?_ ?_
          rotate_left
          ·show Act.put _ (some 53) _ = _
           simp only [Act.put, sI, s0, sS, i64_w, i32_w]
           rfl
          refine pQ HT_ 8 (some 45) #[tt,tt,tt,tt,tt,tt,tt,tt,tt,ff,ff,tt,ff,ff] rfl rfl ?_
          refine pQ HT_ 9 (some 54) #[tt,tt,tt,tt,tt,tt,tt,tt,tt,tt,ff,tt,ff,ff] rfl rfl ?_
          refine pQ HT_ 10 (some 55) #[tt,tt,tt,tt,tt,tt,tt,tt,tt,tt,tt,tt,ff,ff] rfl rfl ?_
          exact norm_ (by simp only [putAll, Act.put, sI, s0, sS]) (hCont (gb205) _ ⟨(upR HO_39), (upS HO_7), (upK BK205), GW205.out, GE205.out, upH⟩)
        rintro gb205 w66 ⟨h0_, h1_, h2_, h3_, h4_, h5_⟩
        try dsimp only at h0_ h1_ h2_ h3_ h4_ h5_
        have n0_ := Q0_ h0_
        have n1_ := Q0_ h1_
        have n2_ := Q0_ h2_
        have n3_ := Q0_ h3_
        have n4_ := Q0_ h4_
        have n5_ := Q0_ h5_
        clear HO_7
        clear HO_39
        clear HB
        clear h0_ h1_ h2_ h3_ h4_ h5_
        have HO_39 := n0_
        have HO_7 := n1_
        have BK205 := n2_
        have GW205 := n3_
        have GE205 := n4_
        have HB := n5_
        clear n0_ n1_ n2_ n3_ n4_ n5_
        have hHeld := trivial
        refine norm_ (a' := ?_) ?_ ?_
        rotate_left
        ·simp only [putAll, Act.put, sI, s0, sS]
         rfl
        refine one_ (i := 12) (N := none) #[tt,tt,tt,tt,tt,tt,tt,tt,tt,tt,tt,tt,tt,ff] rfl rfl (one_of HT_.out (by kernel_rfl)) (by decide) (fun K hK => ?_)
        have hs67 : w66.cell? ⟨gb205, 0, none⟩ = some (.int .i64 0) := (blk_cell BK205.out 0).trans rfl
        have hfs67 := blk_frozen BK205.out 0
        have hs68 : w66.cell? ⟨gb205, 1, none⟩ = some (.int .i64 0) := (blk_cell BK205.out 1).trans rfl
        have hfs68 := blk_frozen BK205.out 1
        have hs69 : w66.cell? ⟨gb205, 2, none⟩ = some (.int .i64 0) := (blk_cell BK205.out 2).trans rfl
        have hfs69 := blk_frozen BK205.out 2
        refine skip_ (w1 := ?_) (by rfl) rfl ?_ ?_
        rotate_left
        ·go_simp
         rfl
        refine hK.out _ _ trivial (fun hHeld => ?_)
        clear hK K
        refine pQ HT_ 13 (some 14) #[tt,tt,tt,tt,tt,tt,tt,tt,tt,tt,tt,tt,tt,tt] rfl rfl ?_
        refine done_ (done_of HT_.out (by kernel_rfl)) ?_
        try go_wp2
        have n0_ : Aside0 (Kd.S (Kd.slice 3 (Kd.int .i64)) 46 (((w66.setCell ⟨gb205, 0, none⟩ (.int .i64 t201)).setCell ⟨gb205, 1, none⟩ (.int .i64 t202)).setCell ⟨gb205, 2, none⟩ (.int .i64 t203)) w.heap.size (fun _ => True) (.slice (some ⟨go15, 0, none⟩) x7_3.length co15) x7_3) := ⟨by (with_reducible repeat (first | apply Kd.S_alloc | apply Kd.S_drewN | apply Kd.S_drew)); exact Kd.S_mono (Kd.S_far (p := ⟨gb205, 2, none⟩) (Kd.S_far (p := ⟨gb205, 1, none⟩) (Kd.S_far (p := ⟨gb205, 0, none⟩) (Kd.S_types HO_7.out BK205.out (by decide)) (fun _ hk => hk.2) (.int .i64 t201)) (fun _ hk => hk.2) (.int .i64 t202)) (fun _ hk => hk.2) (.int .i64 t203)) (fun _ hk => trivial)⟩
        have n1_ : Aside0 (Kd.R (Kd.scalar en63W en63_one) 63 (((w66.setCell ⟨gb205, 0, none⟩ (.int .i64 t201)).setCell ⟨gb205, 1, none⟩ (.int .i64 t202)).setCell ⟨gb205, 2, none⟩ (.int .i64 t203)) w.heap.size (fun _ => True) (.slice (some ad192) t189.length co24) t189) := ⟨by (with_reducible repeat (first | apply Kd.R_alloc | apply Kd.R_drewN | apply Kd.R_drew)); exact Kd.R_mono (Kd.R_far (p := ⟨gb205, 2, none⟩) (Kd.R_far (p := ⟨gb205, 1, none⟩) (Kd.R_far (p := ⟨gb205, 0, none⟩) (Kd.R_types HO_39.out BK205.out (by decide)) (fun _ hk => hk.2) (.int .i64 t201)) (fun _ hk => hk.2) (.int .i64 t202)) (fun _ hk => hk.2) (.int .i64 t203)) (fun _ hk => trivial)⟩
        have n2_ : Aside0 ((((w66.setCell ⟨gb205, 0, none⟩ (.int .i64 t201)).setCell ⟨gb205, 1, none⟩ (.int .i64 t202)).setCell ⟨gb205, 2, none⟩ (.int .i64 t203)).heap[gb205]? = some (.cells #[.int .i64 t201, .int .i64 t202, .int .i64 t203] 65 (0, 0))) := ⟨by (with_reducible repeat (first | refine blk_drewN ?_ _ | refine blk_drew ?_ | refine blk_alloc ?_ _)); refine blk_put (cs := #[.int .i64 t201, .int .i64 t202, .int .i64 0]) ?_ 2 _ rfl; (with_reducible repeat (first | refine blk_drewN ?_ _ | refine blk_drew ?_ | refine blk_alloc ?_ _)); refine blk_put (cs := #[.int .i64 t201, .int .i64 0, .int .i64 0]) ?_ 1 _ rfl; (with_reducible repeat (first | refine blk_drewN ?_ _ | refine blk_drew ?_ | refine blk_alloc ?_ _)); refine blk_put (cs := #[.int .i64 0, .int .i64 0, .int .i64 0]) ?_ 0 _ rfl; (with_reducible repeat (first | refine blk_drewN ?_ _ | refine blk_drew ?_ | refine blk_alloc ?_ _)); exact BK205.out⟩
        have n3_ : Aside0 (Below w.heap.size w (((w66.setCell ⟨gb205, 0, none⟩ (.int .i64 t201)).setCell ⟨gb205, 1, none⟩ (.int .i64 t202)).setCell ⟨gb205, 2, none⟩ (.int .i64 t203))) := ⟨by repeat (first | (with_reducible first | exact HB.out | apply below_alloc | apply pw_below_drewN | apply below_drew1 | refine below_set ?_ GE205.out) | exact HB.out)⟩
        (try clear HO_7)
        (try clear HO_39)
        (try clear BK205)
        (try clear HB)
        generalize (((w66.setCell ⟨gb205, 0, none⟩ (.int .i64 t201)).setCell ⟨gb205, 1, none⟩ (.int .i64 t202)).setCell ⟨gb205, 2, none⟩ (.int .i64 t203)) = w70 at n0_ n1_ n2_ n3_ ⊢
        have HO_7 := n0_
        have HO_39 := n1_
        have BK205 := n2_
        have HB := n3_
        clear n0_ n1_ n2_ n3_
        have n0_ := Q0_ (Kd.S_drew HO_7.out)
        have n1_ := Q0_ (Kd.R_drew HO_39.out)
        have n2_ := Q0_ (blk_drew BK205.out)
        have n3_ := Q0_ (below_drew1 HB.out)
        clear HO_7 HO_39 BK205 HB; revert n0_ n1_ n2_ n3_; intro HO_7 HO_39 BK205 HB
        have p207 : 0 ≤ ((ji35) : Int) := of_decide_eq_true aS
        have q207 : (ji35) < (x7_3.length : Int) := of_decide_eq_true aS
        obtain ⟨ad207, A207_0, c207_0, e207, hx207_0, hl207_0, hi207_0⟩ := at_L4 (Kd.S_reads' HO_7.out).2.2 (ji35) p207 q207
        obtain rfl : (⟨go15, 0, none⟩ : Addr) = ad207 := (by injection e207)
        obtain ⟨ce207, hce207, hMe207, hcc207⟩ := Kd.S_get HO_7.out [] (ji35) p207 (by first | exact q207 | exact of_decide_eq_true aS | (have e_ := (Kd.S_reads' HO_7.out).1; omega))
        obtain ⟨ve207_0, rfl, ge207_0⟩ := hMe207
        have hv207_0 := hcc207 0 _ rfl
        rw [Nat.add_zero, show ((Kd.slice 3 (Kd.int .i64))).sz = 1 from rfl, Nat.mul_one] at hv207_0
        replace hv207_0 := Option.some.inj (hv207_0.symm.trans hx207_0)
        rw [hv207_0] at ge207_0
        have HL207_0 := Q0_ (show Kd.R (Kd.int .i64) 3 _ _ _ _ (rd_L4 x7_3 (ji35)) from ge207_0)
        clear hv207_0 ge207_0
        have HX207_0 := Aside0.mk hx207_0
        clear hcc207 hce207
        (first | simp only [add_plain] at hx207_0 | simp only [add_at] at hx207_0 | simp only [Addr.add, Nat.zero_add] at hx207_0 | skip)
        have HR207_0 := Aside0.mk hi207_0
        have HC207_0 := Aside0.mk hl207_0
        clear hi207_0 hl207_0
        replace p207 := eq_true p207
        replace q207 := eq_true q207
        have p208 : 0 ≤ ((ji38) : Int) := of_decide_eq_true aS
        have q208 : (ji38) < ((rd_L4 x7_3 (ji35)).length : Int) := of_decide_eq_true aS
        obtain ⟨ad208, e208, hx208_0⟩ := Kd.at_int HR207_0.out (ji38) p208 q208
        cases e208
        replace p208 := eq_true p208
        replace q208 := eq_true q208
        refine start_ (n := 19) (S := fun w' => w'.cell? ⟨gb205, 0, none⟩ = some (.int .i64 t201) ∧ w'.cell? ⟨gb205, 1, none⟩ = some (.int .i64 t202) ∧ w'.cell? ⟨gb205, 2, none⟩ = some (.int .i64 t203) ∧ w'.cell? ⟨go15, ((ji35)).toNat, none⟩ = some (.slice (some ad208) (rd_L4 x7_3 (ji35)).length c207_0) ∧ w'.cell? (ad208.add ((ji38)).toNat) = some (.int .i64 (rd (rd_L4 x7_3 (ji35)) (ji38)))) (ds := []) #[ff,ff,ff,ff,ff,ff,ff,ff,ff,ff,ff,ff,ff,ff,ff,ff,ff,ff,ff] (by kernel_rfl) rfl rfl ⟨(blk_cell BK205.out 0).trans rfl, (blk_cell BK205.out 1).trans rfl, (blk_cell BK205.out 2).trans rfl, hx207_0, hx208_0⟩ (fun hHeld => ?_); refine with_tabW impl_leastSums_costOf.tab15 impl_leastSums_costOf.bits15 (fun HT_ HW_ => ?_)
        generalize w70.drew = w71 at HO_7 HO_39 BK205 HB HL207_0 HR207_0 HX207_0 hx207_0 hx208_0 hHeld ⊢
        refine pQ HT_ 0 (some 58) #[tt,ff,ff,ff,ff,ff,ff,ff,ff,ff,ff,ff,ff,ff,ff,ff,ff,ff,ff] rfl rfl ?_
        refine pQ HT_ 1 (some 59) #[tt,tt,ff,ff,ff,ff,ff,ff,ff,ff,ff,ff,ff,ff,ff,ff,ff,ff,ff] rfl rfl ?_
        refine pQ HT_ 4 (some 62) #[tt,tt,ff,ff,tt,ff,ff,ff,ff,ff,ff,ff,ff,ff,ff,ff,ff,ff,ff] rfl rfl ?_
        refine pQ HT_ 5 (some 63) #[tt,tt,ff,ff,tt,tt,ff,ff,ff,ff,ff,ff,ff,ff,ff,ff,ff,ff,ff] rfl rfl ?_
        refine pQ HT_ 6 (some 64) #[tt,tt,ff,ff,tt,tt,tt,ff,ff,ff,ff,ff,ff,ff,ff,ff,ff,ff,ff] rfl rfl ?_
        refine pQ HT_ 11 (some 69) #[tt,tt,ff,ff,tt,tt,tt,ff,ff,ff,ff,tt,ff,ff,ff,ff,ff,ff,ff] rfl rfl ?_
        refine pQ HT_ 12 (some 70) #[tt,tt,ff,ff,tt,tt,tt,ff,ff,ff,ff,tt,tt,ff,ff,ff,ff,ff,ff] rfl rfl ?_
        refine tQ HT_ HW_ 2 (some 60) #[tt,tt,tt,ff,tt,tt,tt,ff,ff,ff,ff,tt,tt,ff,ff,ff,ff,ff,ff] rfl rfl hHeld (by rintro w' ⟨s0, s1, s2, s3, s4⟩; go_simp; with_reducible rfl) ?_
        refine tQ HT_ HW_ 7 (some 65) #[tt,tt,tt,ff,tt,tt,tt,tt,ff,ff,ff,tt,tt,ff,ff,ff,ff,ff,ff] rfl rfl hHeld (by rintro w' ⟨s0, s1, s2, s3, s4⟩; go_simp; with_reducible rfl) ?_
        refine pQ HT_ 8 (some 66) #[tt,tt,tt,ff,tt,tt,tt,tt,tt,ff,ff,tt,tt,ff,ff,ff,ff,ff,ff] rfl rfl ?_
        refine pQ HT_ 9 (some 67) #[tt,tt,tt,ff,tt,tt,tt,tt,tt,tt,ff,tt,tt,ff,ff,ff,ff,ff,ff] rfl rfl ?_
        refine tQ HT_ HW_ 10 (some 68) #[tt,tt,tt,ff,tt,tt,tt,tt,tt,tt,tt,tt,tt,ff,ff,ff,ff,ff,ff] rfl rfl hHeld (by rintro w' ⟨s0, s1, s2, s3, s4⟩; go_simp; with_reducible rfl) ?_
        refine tQ HT_ HW_ 13 (some 71) #[tt,tt,tt,ff,tt,tt,tt,tt,tt,tt,tt,tt,tt,tt,ff,ff,ff,ff,ff] rfl rfl hHeld (by rintro w' ⟨s0, s1, s2, s3, s4⟩; go_simp; with_reducible rfl) ?_
        refine pQ HT_ 14 (some 72) #[tt,tt,tt,ff,tt,tt,tt,tt,tt,tt,tt,tt,tt,tt,tt,ff,ff,ff,ff] rfl rfl ?_
        refine pQ HT_ 15 (some 73) #[tt,tt,tt,ff,tt,tt,tt,tt,tt,tt,tt,tt,tt,tt,tt,tt,ff,ff,ff] rfl rfl ?_
        refine tQ HT_ HW_ 16 (some 74) #[tt,tt,tt,ff,tt,tt,tt,tt,tt,tt,tt,tt,tt,tt,tt,tt,tt,ff,ff] rfl rfl hHeld (by rintro w' ⟨s0, s1, s2, s3, s4⟩; go_simp; with_reducible rfl) ?_
        refine one_ (i := 3) (N := some 61) #[tt,tt,tt,tt,tt,tt,tt,tt,tt,tt,tt,tt,tt,tt,tt,tt,tt,ff,ff] rfl rfl (one_of HT_.out (by kernel_rfl)) (by decide) (fun K hK => ?_)
        refine goesF_ Try.func39 (by kernel_rfl) rfl #[en63W (rd t189 x41_3), .agg #[.int .i64 t201, .int .i64 t202, .int .i64 t203]] (by rfl) rfl rfl rfl hM ?_
        with_reducible refine (impl_costOf.calls (rd t189 x41_3) t201 t202 t203 t206 _ A34.out).mono ?_
        rintro e w72 ⟨rfl, hb⟩
        have HS3_ := (hb.cell (World.block_lt_of_cell? _ _ (hHeld.2.2.2.1))).trans (hHeld.2.2.2.1)
        have HS4_ := (hb.cell (World.block_lt_of_cell? _ _ (hHeld.2.2.2.2))).trans (hHeld.2.2.2.2)
        refine ⟨_, rfl, ?_⟩
        have n0_ := Q0_ (Kd.S_below (upS HO_7) hb)
        have n1_ := Q0_ (Kd.R_below (upR HO_39) hb)
        have n2_ := Q0_ (Kd.R_below (upR HL207_0) hb)
        have n3_ := Q0_ (blk_below (upK BK205) hb)
        have n4_ := Q0_ (Kd.C_below (upC HR207_0) hb)
        have n5_ := Q0_ (pw_cell_below hb HX207_0.out)
        have n6_ := Q0_ (below_step upH hb)
        clear HO_7 HO_39 HL207_0 BK205 HR207_0 HX207_0 HB; revert n0_ n1_ n2_ n3_ n4_ n5_ n6_; intro HO_7 HO_39 HL207_0 BK205 HR207_0 HX207_0 HB
        (try clear hb)
        (try clear hb2)
        (try clear hk)
        (try clear hi)
        refine hK.out _ _ ⟨(blk_cell BK205.out 0).trans rfl, (blk_cell BK205.out 1).trans rfl, (blk_cell BK205.out 2).trans rfl, HS3_, HS4_⟩ (fun hHeld => ?_)
        clear hK K
        refine norm_ (a' := ?_) ?_ ?_
        rotate_left
        ·show Act.put _ (some 61) _ = _
         simp only [Act.put, sI, s0, sS, i64_w, i32_w]
         rfl
        refine pQ HT_ 17 (some 75) #[tt,tt,tt,tt,tt,tt,tt,tt,tt,tt,tt,tt,tt,tt,tt,tt,tt,tt,ff] rfl rfl ?_
        refine pQ HT_ 18 (some 15) #[tt,tt,tt,tt,tt,tt,tt,tt,tt,tt,tt,tt,tt,tt,tt,tt,tt,tt,tt] rfl rfl ?_
        refine done_ (done_of HT_.out (by kernel_rfl)) ?_
        have p209 : 0 ≤ (x8_1 : Int) := of_decide_eq_true aS
        have q209 : x8_1 < (x7_3.length : Int) := of_decide_eq_true aS
        obtain ⟨ad209, A209_0, c209_0, e209, hx209_0, hl209_0, hi209_0⟩ := at_L4 (Kd.S_reads' HO_7.out).2.2 x8_1 p209 q209
        obtain rfl : (⟨go15, 0, none⟩ : Addr) = ad209 := (by injection e209)
        obtain ⟨ce209, hce209, hMe209, hcc209⟩ := Kd.S_get HO_7.out [] x8_1 p209 (by first | exact q209 | exact of_decide_eq_true aS | (have e_ := (Kd.S_reads' HO_7.out).1; omega))
        obtain ⟨ve209_0, rfl, ge209_0⟩ := hMe209
        have hv209_0 := hcc209 0 _ rfl
        rw [Nat.add_zero, show ((Kd.slice 3 (Kd.int .i64))).sz = 1 from rfl, Nat.mul_one] at hv209_0
        replace hv209_0 := Option.some.inj (hv209_0.symm.trans hx209_0)
        rw [hv209_0] at ge209_0
        have HL209_0 := Q0_ (show Kd.R (Kd.int .i64) 3 _ _ _ _ (rd_L4 x7_3 x8_1) from ge209_0)
        clear hv209_0 ge209_0
        have HX209_0 := Aside0.mk hx209_0
        clear hcc209 hce209
        (first | simp only [add_plain] at hx209_0 | simp only [add_at] at hx209_0 | simp only [Addr.add, Nat.zero_add] at hx209_0 | skip)
        have HR209_0 := Aside0.mk hi209_0
        have HC209_0 := Aside0.mk hl209_0
        clear hi209_0 hl209_0
        replace p209 := eq_true p209
        replace q209 := eq_true q209
        have p210 : 0 ≤ (x9_2 : Int) := of_decide_eq_true aS
        have q210 : x9_2 < ((rd_L4 x7_3 x8_1).length : Int) := of_decide_eq_true aS
        obtain ⟨ad210, e210, hx210_0⟩ := Kd.at_int HR209_0.out x9_2 p210 q210
        cases e210
        replace p210 := eq_true p210
        replace q210 := eq_true q210
        try go_wp2
        (try simp only [← hl7_3])
        first | go_roundg k3 | ((try simp only [← hji4] at H' ⊢); (try simp only [← hji10] at H' ⊢); (try simp only [← hji35] at H' ⊢); (try simp only [← hji38] at H' ⊢); go_roundg k3)
        case measure => have := HK1.out; have := HK2.out; have := HK3.out; omega
        case rel => exact ⟨(x7_3), (true), (wrap64 (x41_3 + 1)), eX, eX, H', ⟨by have := HK1.out; have := HK2.out; have := HK3.out; omega⟩, ⟨by (try simp only [hl7_2]); (try simp only [hl7_3]); (with_reducible repeat (first | apply Kd.S_alloc | apply Kd.S_drewN | apply Kd.S_drew)); exact HO_7.out⟩, ⟨by (try simp only [hl7_2]); (try simp only [hl7_3]); (with_reducible repeat (first | apply Kd.R_alloc | apply Kd.R_drewN | apply Kd.R_drew)); exact HO_39.out⟩, ⟨by repeat (first | (with_reducible first | exact HB.out | apply below_alloc | apply pw_below_drewN | apply below_drew1 | refine below_set ?_ GE205.out) | exact HB.out)⟩⟩
       rw [if_pos c44] at H
       have c44b0 : decide ((wrap64 (t206 + (rd (rd_L4 x7_3 (ji35)) (ji38)))) < (rd (rd_L4 x7_3 x8_1) x9_2)) = true := decide_eq_true c44
       clear c44
       obtain ⟨y211, hy211⟩ : ∃ y_ : List Int, y_ = ((rd_L4 x7_3 x8_1).set (x9_2 : Int).toNat (wrap64 (t206 + (rd (rd_L4 x7_3 (ji35)) (ji38))))) := ⟨_, rfl⟩
       replace H : (impl_leastSums_costOf.l2 k3 l0 l1 (x7_3.set (x8_1 : Int).toNat y211) x8_1 x9_2 true t189 (t189.length : Int) (wrap64 (x41_3 + 1))) = some r := by first | (rw [hy211]; with_reducible exact H) | (have H2_ := (Option.bind_some _ _).symm.trans H; rw [hy211]; with_reducible exact H2_) | (have H2_ := (Option.bind_some _ _).symm.trans H; with_reducible exact H2_) | with_reducible exact H | (rw [hy211]; exact H) | exact H
       have Ny211 := Aside0.mk hy211
       clear hy211
       obtain ⟨y213, hy213⟩ : ∃ y_ : List (List Int), y_ = (x7_3.set (x8_1 : Int).toNat y211) := ⟨_, rfl⟩
       replace H : (impl_leastSums_costOf.l2 k3 l0 l1 y213 x8_1 x9_2 true t189 (t189.length : Int) (wrap64 (x41_3 + 1))) = some r := by first | (rw [hy213]; with_reducible exact H) | (have H2_ := (Option.bind_some _ _).symm.trans H; rw [hy213]; with_reducible exact H2_) | (have H2_ := (Option.bind_some _ _).symm.trans H; with_reducible exact H2_) | with_reducible exact H | (rw [hy213]; exact H) | exact H
       have Ny213 := Aside0.mk hy213
       clear hy213
       have H' := Aside0.mk H
       clear H
       have p192 : 0 ≤ (x41_3 : Int) := of_decide_eq_true aS
       have q192 : x41_3 < (t189.length : Int) := of_decide_eq_true aS
       obtain ⟨ad192, e192, hx192_0⟩ := at_en63 (Kd.R_reads' HO_39.out).2.2 x41_3 p192 q192
       cases e192
       replace p192 := eq_true p192
       replace q192 := eq_true q192
       try go_wp2
       have n0_ := Q0_ (Kd.S_drew HO_7.out)
       have n1_ := Q0_ (Kd.R_drew HO_39.out)
       have n2_ := Q0_ (below_drew1 HB.out)
       clear HO_7 HO_39 HB; revert n0_ n1_ n2_; intro HO_7 HO_39 HB
       have q48 : (x8_1 : Int) ≤ ((l0.length : Int) : Int) := of_decide_eq_true aS
       obtain ⟨i048, hi048, _, hsz48, _⟩ := info_parts info36
       have hroom48 : l0.length ≤ c0 := HC0.out
       have hC48 : Kd.C k36 _ A0 l0.length l0 := HR0.out
       have q048 : (0 : Int) ≤ (x8_1 : Int) := of_decide_eq_true aS
       have hcut48 := cut_from (P := Try.prog) 25 36 .i64 Try.underlying25 hi048 2 hsz48 A0 l0.length c0 x8_1 q048 q48
       have hr48 := Kd.C_drop (m := (x8_1 : Int).toNat) (c := c0) hC48 (by omega) hroom48
       obtain ⟨A48, hA48⟩ : ∃ Az_, Az_ = (if c0 = (x8_1 : Int).toNat then A0 else (A0 : Option Addr).map (·.add ((x8_1 : Int).toNat * 2))) := ⟨_, rfl⟩
       obtain ⟨c48, hc48⟩ : ∃ cz_, cz_ = c0 - (x8_1 : Int).toNat := ⟨_, rfl⟩
       have hy48 : y193.length = l0.length - (x8_1 : Int).toNat := (by rw [Ny193.out, List.length_drop] <;> omega)
       rw [show (l0).drop (x8_1 : Int).toNat = y193 from Ny193.out.symm] at hr48
       replace hr48 : Kd.C k36 _ A48 y193.length y193 := (by rw [hA48]; exact hr48)
       rw [← hy48, ← hA48, ← hc48] at hcut48
       have HR196 := Aside0.mk hr48
       have HC196 := Q0_ (show y193.length ≤ c48 from by rw [hy48, hc48]; exact Nat.sub_le_sub_right hroom48 _)
       clear hr48 hC48 hroom48 hi048 hsz48 hc48
       have KY48 := Aside0.mk hy48
       have KA48 := Aside0.mk hA48
       clear hy48 hA48
       replace q48 := eq_true q48
       have q49 : (x9_2 : Int) ≤ ((l1.length : Int) : Int) := of_decide_eq_true aS
       obtain ⟨i049, hi049, _, hsz49, _⟩ := info_parts info36
       have hroom49 : l1.length ≤ c1 := HC1.out
       have hC49 : Kd.C k36 _ A1 l1.length l1 := HR1.out
       have q049 : (0 : Int) ≤ (x9_2 : Int) := of_decide_eq_true aS
       have hcut49 := cut_from (P := Try.prog) 25 36 .i64 Try.underlying25 hi049 2 hsz49 A1 l1.length c1 x9_2 q049 q49
       have hr49 := Kd.C_drop (m := (x9_2 : Int).toNat) (c := c1) hC49 (by omega) hroom49
       obtain ⟨A49, hA49⟩ : ∃ Az_, Az_ = (if c1 = (x9_2 : Int).toNat then A1 else (A1 : Option Addr).map (·.add ((x9_2 : Int).toNat * 2))) := ⟨_, rfl⟩
       obtain ⟨c49, hc49⟩ : ∃ cz_, cz_ = c1 - (x9_2 : Int).toNat := ⟨_, rfl⟩
       have hy49 : y197.length = l1.length - (x9_2 : Int).toNat := (by rw [Ny197.out, List.length_drop] <;> omega)
       rw [show (l1).drop (x9_2 : Int).toNat = y197 from Ny197.out.symm] at hr49
       replace hr49 : Kd.C k36 _ A49 y197.length y197 := (by rw [hA49]; exact hr49)
       rw [← hy49, ← hA49, ← hc49] at hcut49
       have HR200 := Aside0.mk hr49
       have HC200 := Q0_ (show y197.length ≤ c49 from by rw [hy49, hc49]; exact Nat.sub_le_sub_right hroom49 _)
       clear hr49 hC49 hroom49 hi049 hsz49 hc49
       have KY49 := Aside0.mk hy49
       have KA49 := Aside0.mk hA49
       clear hy49 hA49
       replace q49 := eq_true q49
       refine start_ (n := 14) (S := fun w' => True) (ds := []) #[ff,ff,ff,ff,ff,ff,ff,ff,ff,ff,ff,ff,ff,ff] (by kernel_rfl) rfl rfl trivial (fun hHeld => ?_); refine with_tabW impl_leastSums_costOf.tab13 impl_leastSums_costOf.bits13 (fun HT_ HW_ => ?_)
       generalize wr.drew = w47 at HO_7 HO_39 HB HR196 HR200 hHeld ⊢
       refine pQ HT_ 0 (some 46) #[tt,ff,ff,ff,ff,ff,ff,ff,ff,ff,ff,ff,ff,ff] rfl rfl ?_
       refine pQ HT_ 1 (some 47) #[tt,tt,ff,ff,ff,ff,ff,ff,ff,ff,ff,ff,ff,ff] rfl rfl ?_
       refine pQ HT_ 2 (some 48) #[tt,tt,tt,ff,ff,ff,ff,ff,ff,ff,ff,ff,ff,ff] rfl rfl ?_
       refine pQ HT_ 3 (some 49) #[tt,tt,tt,tt,ff,ff,ff,ff,ff,ff,ff,ff,ff,ff] rfl rfl ?_
       refine pQ HT_ 4 (some 50) #[tt,tt,tt,tt,tt,ff,ff,ff,ff,ff,ff,ff,ff,ff] rfl rfl ?_
       refine pQ HT_ 5 (some 51) #[tt,tt,tt,tt,tt,tt,ff,ff,ff,ff,ff,ff,ff,ff] rfl rfl ?_
       refine pQ HT_ 6 (some 52) #[tt,tt,tt,tt,tt,tt,tt,ff,ff,ff,ff,ff,ff,ff] rfl rfl ?_
       refine join_ (σ := Nat) 2 #[tt,tt,tt,tt,tt,tt,tt,tt,tt,tt,tt,tt,ff,ff] (fun s_ => [(53, .tuple #[.agg #[.int .i64 t201, .int .i64 t202, .int .i64 t203], .bool true]), (13, .pointer (some ⟨s_, 0, none⟩)), (45, .tuple #[.agg #[.int .i64 t201, .int .i64 t202, .int .i64 t203], .bool true]), (54, .agg #[.int .i64 t201, .int .i64 t202, .int .i64 t203]), (55, .bool true)]) (fun s_ w' => (Kd.R (Kd.scalar en63W en63_one) 63 w' w.heap.size (fun _ => True) (.slice (some ad192) t189.length co24) t189) ∧ (Kd.S (Kd.slice 3 (Kd.int .i64)) 46 w' w.heap.size (fun _ => True) (.slice (some ⟨go15, 0, none⟩) x7_3.length co15) x7_3) ∧ (w'.heap[s_]? = some (.cells #[.int .i64 0, .int .i64 0, .int .i64 0] 65 (0, 0))) ∧ (w.heap.size ≤ s_) ∧ (w.heap.size ≤ s_) ∧ (Below w.heap.size w w')) ?_ ?_
       rotate_left
       ·intro hCont
        refine two_ (i := 7) (j := 11) (Ni := some 53) (Nj := some 13) #[tt,tt,tt,tt,tt,tt,tt,tt,ff,ff,ff,ff,ff,ff] #[tt,tt,tt,tt,tt,tt,tt,ff,ff,ff,ff,tt,ff,ff] rfl rfl rfl rfl (two_of HT_.out (by kernel_rfl)) (by decide) (by decide) (fun K hK => ?_) (fun K hK => ?_)
        ·skip
         refine goes_ Try.func45 (by kernel_rfl) rfl #[en63W (rd t189 x41_3), .slice A48 y193.length c48, .slice A49 y197.length c49] (by rfl) rfl rfl hM ?_
         with_reducible refine (impl_useOf.calls k3 (rd t189 x41_3) _ _ y193 _ _ y197 t201 t202 t203 true _ ?side1 ?side2 ?side3 ?side4 A32.out).mono ?_
         (case side1 => repeat (first | exact (Kd.C_below HR196.out HB.out) | (with_reducible refine Kd.C_alloc ?_ _) | (with_reducible refine Kd.C_drewN ?_ _) | (with_reducible refine Kd.C_drew ?_)))
         (case side2 => exact HC196.out)
         (case side3 => repeat (first | exact (Kd.C_below HR200.out HB.out) | (with_reducible refine Kd.C_alloc ?_ _) | (with_reducible refine Kd.C_drewN ?_ _) | (with_reducible refine Kd.C_drew ?_)))
         (case side4 => exact HC200.out)
         rintro e w50 ⟨rfl, hb⟩
         refine ⟨_, rfl, ?_⟩
         have n0_ := Q0_ (Kd.S_below (upS HO_7) hb)
         have n1_ := Q0_ (Kd.R_below (upR HO_39) hb)
         have n2_ := Q0_ (below_step (upB HB) hb)
         clear HO_7 HO_39 HB; revert n0_ n1_ n2_; intro HO_7 HO_39 HB
         (try clear hb)
         (try clear hb2)
         (try clear hk)
         (try clear hi)
         refine hK.out _ _ trivial (fun hHeld => ?_)
         clear hK K
         refine norm_ (a' := ?_) ?_ ?_
         rotate_left
         ·show Act.put _ (some 53) _ = _
          simp only [Act.put, sI, s0, sS, i64_w, i32_w]
          rfl
         refine pQ HT_ 8 (some 45) #[tt,tt,tt,tt,tt,tt,tt,tt,tt,ff,ff,ff,ff,ff] rfl rfl ?_
         refine pQ HT_ 9 (some 54) #[tt,tt,tt,tt,tt,tt,tt,tt,tt,tt,ff,ff,ff,ff] rfl rfl ?_
         refine pQ HT_ 10 (some 55) #[tt,tt,tt,tt,tt,tt,tt,tt,tt,tt,tt,ff,ff,ff] rfl rfl ?_
         refine one_ (i := 11) (N := some 13) #[tt,tt,tt,tt,tt,tt,tt,tt,tt,tt,tt,tt,ff,ff] rfl rfl (one_of HT_.out (by kernel_rfl)) (by decide) (fun K hK => ?_)
         refine box_step ?hg (N := 13) ?hd (cs := #[.int .i64 0, .int .i64 0, .int .i64 0]) (t := 65) ?hr ?_; (case hd => rfl); (case hg => rfl); (case hr => first | (go_simp; done) | (go_simp; rfl))
         intro gb205 hg w51 hbox hb
         have n0_ := Q0_ (Kd.S_below (upS HO_7) hb)
         have n1_ := Q0_ (Kd.R_below (upR HO_39) hb)
         have n2_ := Q0_ (below_step (upB HB) hb)
         have n3_ := Q0_ (hbox)
         have n4_ := Q0_ ((by rw [hg]; exact (below_size (upB HB)) : w.heap.size ≤ gb205))
         have n5_ := Q0_ ((by rw [hg]; exact (below_size (upB HB)) : w.heap.size ≤ gb205))
         clear HO_7 HO_39 HB; revert n0_ n1_ n2_ n3_ n4_ n5_; intro HO_7 HO_39 HB BK205 GW205 GE205
         clear hb hbox hg
         refine hK.out _ _ trivial (fun hHeld => ?_)
         clear hK K
         refine norm_ (a' := ?_) ?_ ?_
         rotate_left
         ·show Act.put _ (some 13) _ = _
          simp only [Act.put, sI, s0, sS, i64_w, i32_w]
          rfl
         exact norm_ (by simp only [putAll, Act.put, sI, s0, sS]) (hCont (gb205) _ ⟨(upR HO_39), (upS HO_7), (upK BK205), GW205.out, GE205.out, upH⟩)
        ·skip
         refine box_step ?hg (N := 13) ?hd (cs := #[.int .i64 0, .int .i64 0, .int .i64 0]) (t := 65) ?hr ?_; (case hd => rfl); (case hg => rfl); (case hr => first | (go_simp; done) | (go_simp; rfl))
         intro gb205 hg w50 hbox hb
         have n0_ := Q0_ (Kd.S_below (upS HO_7) hb)
         have n1_ := Q0_ (Kd.R_below (upR HO_39) hb)
         have n2_ := Q0_ (below_step (upB HB) hb)
         have n3_ := Q0_ (hbox)
         have n4_ := Q0_ ((by rw [hg]; exact (below_size (upB HB)) : w.heap.size ≤ gb205))
         have n5_ := Q0_ ((by rw [hg]; exact (below_size (upB HB)) : w.heap.size ≤ gb205))
         clear HO_7 HO_39 HB; revert n0_ n1_ n2_ n3_ n4_ n5_; intro HO_7 HO_39 HB BK205 GW205 GE205
         clear hb hbox hg
         refine hK.out _ _ trivial (fun hHeld => ?_)
         clear hK K
         refine norm_ (a' := ?_) ?_ ?_
         rotate_left
         ·show Act.put _ (some 13) _ = _
          simp only [Act.put, sI, s0, sS, i64_w, i32_w]
          rfl
         refine one_ (i := 7) (N := some 53) #[tt,tt,tt,tt,tt,tt,tt,tt,ff,ff,ff,tt,ff,ff] rfl rfl (one_of HT_.out (by kernel_rfl)) (by decide) (fun K hK => ?_)
         refine goes_ Try.func45 (by kernel_rfl) rfl #[en63W (rd t189 x41_3), .slice A48 y193.length c48, .slice A49 y197.length c49] (by rfl) rfl rfl hM ?_
         with_reducible refine (impl_useOf.calls k3 (rd t189 x41_3) _ _ y193 _ _ y197 t201 t202 t203 true _ ?side1 ?side2 ?side3 ?side4 A32.out).mono ?_
         (case side1 => repeat (first | exact (Kd.C_below HR196.out HB.out) | (with_reducible refine Kd.C_alloc ?_ _) | (with_reducible refine Kd.C_drewN ?_ _) | (with_reducible refine Kd.C_drew ?_)))
         (case side2 => exact HC196.out)
         (case side3 => repeat (first | exact (Kd.C_below HR200.out HB.out) | (with_reducible refine Kd.C_alloc ?_ _) | (with_reducible refine Kd.C_drewN ?_ _) | (with_reducible refine Kd.C_drew ?_)))
         (case side4 => exact HC200.out)
         rintro e w51 ⟨rfl, hb⟩
         refine ⟨_, rfl, ?_⟩
         have n0_ := Q0_ (Kd.S_below (upS HO_7) hb)
         have n1_ := Q0_ (Kd.R_below (upR HO_39) hb)
         have n2_ := Q0_ (blk_below (upK BK205) hb)
         have n3_ := Q0_ (below_step upH hb)
         clear HO_7 HO_39 BK205 HB; revert n0_ n1_ n2_ n3_; intro HO_7 HO_39 BK205 HB
         (try clear hb)
         (try clear hb2)
         (try clear hk)
         (try clear hi)
         refine hK.out _ _ trivial (fun hHeld => ?_)
         clear hK K
         refine norm_ (a' := ?_) ?_ ?_
         rotate_left
         ·show Act.put _ (some 53) _ = _
          simp only [Act.put, sI, s0, sS, i64_w, i32_w]
          rfl
         refine pQ HT_ 8 (some 45) #[tt,tt,tt,tt,tt,tt,tt,tt,tt,ff,ff,tt,ff,ff] rfl rfl ?_
         refine pQ HT_ 9 (some 54) #[tt,tt,tt,tt,tt,tt,tt,tt,tt,tt,ff,tt,ff,ff] rfl rfl ?_
         refine pQ HT_ 10 (some 55) #[tt,tt,tt,tt,tt,tt,tt,tt,tt,tt,tt,tt,ff,ff] rfl rfl ?_
         exact norm_ (by simp only [putAll, Act.put, sI, s0, sS]) (hCont (gb205) _ ⟨(upR HO_39), (upS HO_7), (upK BK205), GW205.out, GE205.out, upH⟩)
       rintro gb205 w52 ⟨h0_, h1_, h2_, h3_, h4_, h5_⟩
       try dsimp only at h0_ h1_ h2_ h3_ h4_ h5_
       have n0_ := Q0_ h0_
       have n1_ := Q0_ h1_
       have n2_ := Q0_ h2_
       have n3_ := Q0_ h3_
       have n4_ := Q0_ h4_
       have n5_ := Q0_ h5_
       clear HO_7
       clear HO_39
       clear HB
       clear h0_ h1_ h2_ h3_ h4_ h5_
       have HO_39 := n0_
       have HO_7 := n1_
       have BK205 := n2_
       have GW205 := n3_
       have GE205 := n4_
       have HB := n5_
       clear n0_ n1_ n2_ n3_ n4_ n5_
       have hHeld := trivial
       refine norm_ (a' := ?_) ?_ ?_
       rotate_left
       ·simp only [putAll, Act.put, sI, s0, sS]
        rfl
       refine one_ (i := 12) (N := none) #[tt,tt,tt,tt,tt,tt,tt,tt,tt,tt,tt,tt,tt,ff] rfl rfl (one_of HT_.out (by kernel_rfl)) (by decide) (fun K hK => ?_)
       have hs53 : w52.cell? ⟨gb205, 0, none⟩ = some (.int .i64 0) := (blk_cell BK205.out 0).trans rfl
       have hfs53 := blk_frozen BK205.out 0
       have hs54 : w52.cell? ⟨gb205, 1, none⟩ = some (.int .i64 0) := (blk_cell BK205.out 1).trans rfl
       have hfs54 := blk_frozen BK205.out 1
       have hs55 : w52.cell? ⟨gb205, 2, none⟩ = some (.int .i64 0) := (blk_cell BK205.out 2).trans rfl
       have hfs55 := blk_frozen BK205.out 2
       refine skip_ (w1 := ?_) (by rfl) rfl ?_ ?_
       rotate_left
       ·go_simp
        rfl
       refine hK.out _ _ trivial (fun hHeld => ?_)
       clear hK K
       refine pQ HT_ 13 (some 14) #[tt,tt,tt,tt,tt,tt,tt,tt,tt,tt,tt,tt,tt,tt] rfl rfl ?_
       refine done_ (done_of HT_.out (by kernel_rfl)) ?_
       try go_wp2
       have n0_ : Aside0 (Kd.S (Kd.slice 3 (Kd.int .i64)) 46 (((w52.setCell ⟨gb205, 0, none⟩ (.int .i64 t201)).setCell ⟨gb205, 1, none⟩ (.int .i64 t202)).setCell ⟨gb205, 2, none⟩ (.int .i64 t203)) w.heap.size (fun _ => True) (.slice (some ⟨go15, 0, none⟩) x7_3.length co15) x7_3) := ⟨by (with_reducible repeat (first | apply Kd.S_alloc | apply Kd.S_drewN | apply Kd.S_drew)); exact Kd.S_mono (Kd.S_far (p := ⟨gb205, 2, none⟩) (Kd.S_far (p := ⟨gb205, 1, none⟩) (Kd.S_far (p := ⟨gb205, 0, none⟩) (Kd.S_types HO_7.out BK205.out (by decide)) (fun _ hk => hk.2) (.int .i64 t201)) (fun _ hk => hk.2) (.int .i64 t202)) (fun _ hk => hk.2) (.int .i64 t203)) (fun _ hk => trivial)⟩
       have n1_ : Aside0 (Kd.R (Kd.scalar en63W en63_one) 63 (((w52.setCell ⟨gb205, 0, none⟩ (.int .i64 t201)).setCell ⟨gb205, 1, none⟩ (.int .i64 t202)).setCell ⟨gb205, 2, none⟩ (.int .i64 t203)) w.heap.size (fun _ => True) (.slice (some ad192) t189.length co24) t189) := ⟨by (with_reducible repeat (first | apply Kd.R_alloc | apply Kd.R_drewN | apply Kd.R_drew)); exact Kd.R_mono (Kd.R_far (p := ⟨gb205, 2, none⟩) (Kd.R_far (p := ⟨gb205, 1, none⟩) (Kd.R_far (p := ⟨gb205, 0, none⟩) (Kd.R_types HO_39.out BK205.out (by decide)) (fun _ hk => hk.2) (.int .i64 t201)) (fun _ hk => hk.2) (.int .i64 t202)) (fun _ hk => hk.2) (.int .i64 t203)) (fun _ hk => trivial)⟩
       have n2_ : Aside0 ((((w52.setCell ⟨gb205, 0, none⟩ (.int .i64 t201)).setCell ⟨gb205, 1, none⟩ (.int .i64 t202)).setCell ⟨gb205, 2, none⟩ (.int .i64 t203)).heap[gb205]? = some (.cells #[.int .i64 t201, .int .i64 t202, .int .i64 t203] 65 (0, 0))) := ⟨by (with_reducible repeat (first | refine blk_drewN ?_ _ | refine blk_drew ?_ | refine blk_alloc ?_ _)); refine blk_put (cs := #[.int .i64 t201, .int .i64 t202, .int .i64 0]) ?_ 2 _ rfl; (with_reducible repeat (first | refine blk_drewN ?_ _ | refine blk_drew ?_ | refine blk_alloc ?_ _)); refine blk_put (cs := #[.int .i64 t201, .int .i64 0, .int .i64 0]) ?_ 1 _ rfl; (with_reducible repeat (first | refine blk_drewN ?_ _ | refine blk_drew ?_ | refine blk_alloc ?_ _)); refine blk_put (cs := #[.int .i64 0, .int .i64 0, .int .i64 0]) ?_ 0 _ rfl; (with_reducible repeat (first | refine blk_drewN ?_ _ | refine blk_drew ?_ | refine blk_alloc ?_ _)); exact BK205.out⟩
       have n3_ : Aside0 (Below w.heap.size w (((w52.setCell ⟨gb205, 0, none⟩ (.int .i64 t201)).setCell ⟨gb205, 1, none⟩ (.int .i64 t202)).setCell ⟨gb205, 2, none⟩ (.int .i64 t203))) := ⟨by repeat (first | (with_reducible first | exact HB.out | apply below_alloc | apply pw_below_drewN | apply below_drew1 | refine below_set ?_ GE205.out) | exact HB.out)⟩
       (try clear HO_7)
       (try clear HO_39)
       (try clear BK205)
       (try clear HB)
       generalize (((w52.setCell ⟨gb205, 0, none⟩ (.int .i64 t201)).setCell ⟨gb205, 1, none⟩ (.int .i64 t202)).setCell ⟨gb205, 2, none⟩ (.int .i64 t203)) = w56 at n0_ n1_ n2_ n3_ ⊢
       have HO_7 := n0_
       have HO_39 := n1_
       have BK205 := n2_
       have HB := n3_
       clear n0_ n1_ n2_ n3_
       have n0_ := Q0_ (Kd.S_drew HO_7.out)
       have n1_ := Q0_ (Kd.R_drew HO_39.out)
       have n2_ := Q0_ (blk_drew BK205.out)
       have n3_ := Q0_ (below_drew1 HB.out)
       clear HO_7 HO_39 BK205 HB; revert n0_ n1_ n2_ n3_; intro HO_7 HO_39 BK205 HB
       have p207 : 0 ≤ ((ji35) : Int) := of_decide_eq_true aS
       have q207 : (ji35) < (x7_3.length : Int) := of_decide_eq_true aS
       obtain ⟨ad207, A207_0, c207_0, e207, hx207_0, hl207_0, hi207_0⟩ := at_L4 (Kd.S_reads' HO_7.out).2.2 (ji35) p207 q207
       obtain rfl : (⟨go15, 0, none⟩ : Addr) = ad207 := (by injection e207)
       obtain ⟨ce207, hce207, hMe207, hcc207⟩ := Kd.S_get HO_7.out [] (ji35) p207 (by first | exact q207 | exact of_decide_eq_true aS | (have e_ := (Kd.S_reads' HO_7.out).1; omega))
       obtain ⟨ve207_0, rfl, ge207_0⟩ := hMe207
       have hv207_0 := hcc207 0 _ rfl
       rw [Nat.add_zero, show ((Kd.slice 3 (Kd.int .i64))).sz = 1 from rfl, Nat.mul_one] at hv207_0
       replace hv207_0 := Option.some.inj (hv207_0.symm.trans hx207_0)
       rw [hv207_0] at ge207_0
       have HL207_0 := Q0_ (show Kd.R (Kd.int .i64) 3 _ _ _ _ (rd_L4 x7_3 (ji35)) from ge207_0)
       clear hv207_0 ge207_0
       have HX207_0 := Aside0.mk hx207_0
       clear hcc207 hce207
       (first | simp only [add_plain] at hx207_0 | simp only [add_at] at hx207_0 | simp only [Addr.add, Nat.zero_add] at hx207_0 | skip)
       have HR207_0 := Aside0.mk hi207_0
       have HC207_0 := Aside0.mk hl207_0
       clear hi207_0 hl207_0
       replace p207 := eq_true p207
       replace q207 := eq_true q207
       have p208 : 0 ≤ ((ji38) : Int) := of_decide_eq_true aS
       have q208 : (ji38) < ((rd_L4 x7_3 (ji35)).length : Int) := of_decide_eq_true aS
       obtain ⟨ad208, e208, hx208_0⟩ := Kd.at_int HR207_0.out (ji38) p208 q208
       cases e208
       replace p208 := eq_true p208
       replace q208 := eq_true q208
       refine start_ (n := 19) (S := fun w' => w'.cell? ⟨gb205, 0, none⟩ = some (.int .i64 t201) ∧ w'.cell? ⟨gb205, 1, none⟩ = some (.int .i64 t202) ∧ w'.cell? ⟨gb205, 2, none⟩ = some (.int .i64 t203) ∧ w'.cell? ⟨go15, ((ji35)).toNat, none⟩ = some (.slice (some ad208) (rd_L4 x7_3 (ji35)).length c207_0) ∧ w'.cell? (ad208.add ((ji38)).toNat) = some (.int .i64 (rd (rd_L4 x7_3 (ji35)) (ji38)))) (ds := []) #[ff,ff,ff,ff,ff,ff,ff,ff,ff,ff,ff,ff,ff,ff,ff,ff,ff,ff,ff] (by kernel_rfl) rfl rfl ⟨(blk_cell BK205.out 0).trans rfl, (blk_cell BK205.out 1).trans rfl, (blk_cell BK205.out 2).trans rfl, hx207_0, hx208_0⟩ (fun hHeld => ?_); refine with_tabW impl_leastSums_costOf.tab15 impl_leastSums_costOf.bits15 (fun HT_ HW_ => ?_)
       generalize w56.drew = w57 at HO_7 HO_39 BK205 HB HL207_0 HR207_0 HX207_0 hx207_0 hx208_0 hHeld ⊢
       refine pQ HT_ 0 (some 58) #[tt,ff,ff,ff,ff,ff,ff,ff,ff,ff,ff,ff,ff,ff,ff,ff,ff,ff,ff] rfl rfl ?_
       refine pQ HT_ 1 (some 59) #[tt,tt,ff,ff,ff,ff,ff,ff,ff,ff,ff,ff,ff,ff,ff,ff,ff,ff,ff] rfl rfl ?_
       refine pQ HT_ 4 (some 62) #[tt,tt,ff,ff,tt,ff,ff,ff,ff,ff,ff,ff,ff,ff,ff,ff,ff,ff,ff] rfl rfl ?_
       refine pQ HT_ 5 (some 63) #[tt,tt,ff,ff,tt,tt,ff,ff,ff,ff,ff,ff,ff,ff,ff,ff,ff,ff,ff] rfl rfl ?_
       refine pQ HT_ 6 (some 64) #[tt,tt,ff,ff,tt,tt,tt,ff,ff,ff,ff,ff,ff,ff,ff,ff,ff,ff,ff] rfl rfl ?_
       refine pQ HT_ 11 (some 69) #[tt,tt,ff,ff,tt,tt,tt,ff,ff,ff,ff,tt,ff,ff,ff,ff,ff,ff,ff] rfl rfl ?_
       refine pQ HT_ 12 (some 70) #[tt,tt,ff,ff,tt,tt,tt,ff,ff,ff,ff,tt,tt,ff,ff,ff,ff,ff,ff] rfl rfl ?_
       refine tQ HT_ HW_ 2 (some 60) #[tt,tt,tt,ff,tt,tt,tt,ff,ff,ff,ff,tt,tt,ff,ff,ff,ff,ff,ff] rfl rfl hHeld (by rintro w' ⟨s0, s1, s2, s3, s4⟩; go_simp; with_reducible rfl) ?_
       refine tQ HT_ HW_ 7 (some 65) #[tt,tt,tt,ff,tt,tt,tt,tt,ff,ff,ff,tt,tt,ff,ff,ff,ff,ff,ff] rfl rfl hHeld (by rintro w' ⟨s0, s1, s2, s3, s4⟩; go_simp; with_reducible rfl) ?_
       refine pQ HT_ 8 (some 66) #[tt,tt,tt,ff,tt,tt,tt,tt,tt,ff,ff,tt,tt,ff,ff,ff,ff,ff,ff] rfl rfl ?_
       refine pQ HT_ 9 (some 67) #[tt,tt,tt,ff,tt,tt,tt,tt,tt,tt,ff,tt,tt,ff,ff,ff,ff,ff,ff] rfl rfl ?_
       refine tQ HT_ HW_ 10 (some 68) #[tt,tt,tt,ff,tt,tt,tt,tt,tt,tt,tt,tt,tt,ff,ff,ff,ff,ff,ff] rfl rfl hHeld (by rintro w' ⟨s0, s1, s2, s3, s4⟩; go_simp; with_reducible rfl) ?_
       refine tQ HT_ HW_ 13 (some 71) #[tt,tt,tt,ff,tt,tt,tt,tt,tt,tt,tt,tt,tt,tt,ff,ff,ff,ff,ff] rfl rfl hHeld (by rintro w' ⟨s0, s1, s2, s3, s4⟩; go_simp; with_reducible rfl) ?_
       refine pQ HT_ 14 (some 72) #[tt,tt,tt,ff,tt,tt,tt,tt,tt,tt,tt,tt,tt,tt,tt,ff,ff,ff,ff] rfl rfl ?_
       refine pQ HT_ 15 (some 73) #[tt,tt,tt,ff,tt,tt,tt,tt,tt,tt,tt,tt,tt,tt,tt,tt,ff,ff,ff] rfl rfl ?_
       refine tQ HT_ HW_ 16 (some 74) #[tt,tt,tt,ff,tt,tt,tt,tt,tt,tt,tt,tt,tt,tt,tt,tt,tt,ff,ff] rfl rfl hHeld (by rintro w' ⟨s0, s1, s2, s3, s4⟩; go_simp; with_reducible rfl) ?_
       refine one_ (i := 3) (N := some 61) #[tt,tt,tt,tt,tt,tt,tt,tt,tt,tt,tt,tt,tt,tt,tt,tt,tt,ff,ff] rfl rfl (one_of HT_.out (by kernel_rfl)) (by decide) (fun K hK => ?_)
       refine goesF_ Try.func39 (by kernel_rfl) rfl #[en63W (rd t189 x41_3), .agg #[.int .i64 t201, .int .i64 t202, .int .i64 t203]] (by rfl) rfl rfl rfl hM ?_
       with_reducible refine (impl_costOf.calls (rd t189 x41_3) t201 t202 t203 t206 _ A34.out).mono ?_
       rintro e w58 ⟨rfl, hb⟩
       have HS3_ := (hb.cell (World.block_lt_of_cell? _ _ (hHeld.2.2.2.1))).trans (hHeld.2.2.2.1)
       have HS4_ := (hb.cell (World.block_lt_of_cell? _ _ (hHeld.2.2.2.2))).trans (hHeld.2.2.2.2)
       refine ⟨_, rfl, ?_⟩
       have n0_ := Q0_ (Kd.S_below (upS HO_7) hb)
       have n1_ := Q0_ (Kd.R_below (upR HO_39) hb)
       have n2_ := Q0_ (Kd.R_below (upR HL207_0) hb)
       have n3_ := Q0_ (blk_below (upK BK205) hb)
       have n4_ := Q0_ (Kd.C_below (upC HR207_0) hb)
       have n5_ := Q0_ (pw_cell_below hb HX207_0.out)
       have n6_ := Q0_ (below_step upH hb)
       clear HO_7 HO_39 HL207_0 BK205 HR207_0 HX207_0 HB; revert n0_ n1_ n2_ n3_ n4_ n5_ n6_; intro HO_7 HO_39 HL207_0 BK205 HR207_0 HX207_0 HB
       (try clear hb)
       (try clear hb2)
       (try clear hk)
       (try clear hi)
       refine hK.out _ _ ⟨(blk_cell BK205.out 0).trans rfl, (blk_cell BK205.out 1).trans rfl, (blk_cell BK205.out 2).trans rfl, HS3_, HS4_⟩ (fun hHeld => ?_)
       clear hK K
       refine norm_ (a' := ?_) ?_ ?_
       rotate_left
       ·show Act.put _ (some 61) _ = _
        simp only [Act.put, sI, s0, sS, i64_w, i32_w]
        rfl
       refine pQ HT_ 17 (some 75) #[tt,tt,tt,tt,tt,tt,tt,tt,tt,tt,tt,tt,tt,tt,tt,tt,tt,tt,ff] rfl rfl ?_
       refine pQ HT_ 18 (some 15) #[tt,tt,tt,tt,tt,tt,tt,tt,tt,tt,tt,tt,tt,tt,tt,tt,tt,tt,tt] rfl rfl ?_
       refine done_ (done_of HT_.out (by kernel_rfl)) ?_
       have p209 : 0 ≤ (x8_1 : Int) := of_decide_eq_true aS
       have q209 : x8_1 < (x7_3.length : Int) := of_decide_eq_true aS
       obtain ⟨ad209, A209_0, c209_0, e209, hx209_0, hl209_0, hi209_0⟩ := at_L4 (Kd.S_reads' HO_7.out).2.2 x8_1 p209 q209
       obtain rfl : (⟨go15, 0, none⟩ : Addr) = ad209 := (by injection e209)
       obtain ⟨ce209, hce209, hMe209, hcc209⟩ := Kd.S_get HO_7.out [] x8_1 p209 (by first | exact q209 | exact of_decide_eq_true aS | (have e_ := (Kd.S_reads' HO_7.out).1; omega))
       obtain ⟨ve209_0, rfl, ge209_0⟩ := hMe209
       have hv209_0 := hcc209 0 _ rfl
       rw [Nat.add_zero, show ((Kd.slice 3 (Kd.int .i64))).sz = 1 from rfl, Nat.mul_one] at hv209_0
       replace hv209_0 := Option.some.inj (hv209_0.symm.trans hx209_0)
       rw [hv209_0] at ge209_0
       have HL209_0 := Q0_ (show Kd.R (Kd.int .i64) 3 _ _ _ _ (rd_L4 x7_3 x8_1) from ge209_0)
       clear hv209_0 ge209_0
       have HX209_0 := Aside0.mk hx209_0
       clear hcc209 hce209
       (first | simp only [add_plain] at hx209_0 | simp only [add_at] at hx209_0 | simp only [Addr.add, Nat.zero_add] at hx209_0 | skip)
       have HR209_0 := Aside0.mk hi209_0
       have HC209_0 := Aside0.mk hl209_0
       clear hi209_0 hl209_0
       replace p209 := eq_true p209
       replace q209 := eq_true q209
       have p210 : 0 ≤ (x9_2 : Int) := of_decide_eq_true aS
       have q210 : x9_2 < ((rd_L4 x7_3 x8_1).length : Int) := of_decide_eq_true aS
       obtain ⟨ad210, e210, hx210_0⟩ := Kd.at_int HR209_0.out x9_2 p210 q210
       cases e210
       replace p210 := eq_true p210
       replace q210 := eq_true q210
       have p45 : 0 ≤ (x8_1 : Int) := of_decide_eq_true aS
       have q45 : (x8_1 : Int) < ((x7_3.length : Int) : Int) := of_decide_eq_true aS
       replace p45 := eq_true p45
       replace q45 := eq_true q45
       have p46 : 0 ≤ (x9_2 : Int) := of_decide_eq_true aS
       have q46 : (x9_2 : Int) < (((rd_L4 x7_3 x8_1).length : Int) : Int) := of_decide_eq_true aS
       obtain ⟨go46, co46, eo46, gb46, gl46, cl46, HG46⟩ := Kd.R_form HL209_0.out (by omega)
       (first | cases eo46 | (injection eo46 with ea_ en_ ec_; (first | subst ea_ | (injection ea_ with ea_; subst ea_)); subst ec_; clear en_))
       have GB46 := Aside0.mk gb46
       have GG46 := Aside0.mk HG46
       clear gb46 gl46 HG46
       (first | simp only [add_plain] at hx210_0 | skip)
       obtain ⟨hx46_0, hf46_0⟩ := Kd.R_celln 0 HL209_0.out (x9_2 : Int) p46 q46
       replace p46 := eq_true p46
       replace q46 := eq_true q46
       have hq59 : (x8_1 : Int) < (x7_3.length : Int) := (by have h_ : (x8_1 : Int) < ((x7_3.length : Int) : Int) := of_decide_eq_true aS; first | exact h_ | (have e_ := (Kd.S_reads' HO_7.out).1; omega) | simpa only [List.length_set, List.length_set] using h_)
       obtain ⟨oki59, ce59, hcl59, hM59, hcc59, hok59, hbk59⟩ := Kd.S_borrow HO_7.out [] (x8_1 : Int) (of_decide_eq_true aS) hq59
       obtain ⟨ve59_0, rfl, ge59_0⟩ := hM59
       have hv59 := hcc59 0 _ rfl
       rw [Nat.add_zero, show ((Kd.slice 3 (Kd.int .i64))).sz = 1 from rfl, Nat.mul_one] at hv59
       replace hv59 := Option.some.inj (hv59.symm.trans HX209_0.out)
       subst hv59
       clear hcc59 hcl59
       replace ge59_0 := (show Kd.R (Kd.int .i64) 3 _ _ _ _ (rd_L4 x7_3 x8_1) from ge59_0)
       have HP59 := Kd.R_putg ge59_0 (x9_2 : Int) (wrap64 (t206 + (rd (rd_L4 x7_3 (ji35)) (ji38))))
       try go_wp2_with (first | ((with_reducible refine gate_store (t := 3) (p := 95) rfl ?_); refine store_event (t := 3) (p := 95) (v := ?vo_w60) (w1 := (w58.setCell ⟨go46, (x9_2 : Int).toNat, none⟩ (.int .i64 (wrap64 (t206 + (rd (rd_L4 x7_3 (ji35)) (ji38))))))) ?hg ?ho ?hn ?hr ?_; (case ho => rfl); (case hg => rfl); (case hn => rfl); (case hr => first | (go_simp; done) | (go_simp; rfl)); intro w60 hw; have hg : w58.grownBy w60 (some go46) := (by rw [hw]; exact HP59.2); have hz_ : Kd.R (Kd.int .i64) 3 w60 w.heap.size oki59 (.slice (some ⟨go46, 0, none⟩) (rd_L4 x7_3 x8_1).length c209_0) y211 := (by rw [hw, Ny211.out]; exact HP59.1); have hp_ : Kd.S (Kd.slice 3 (Kd.int .i64)) 46 w60 w.heap.size (fun _ => True) (.slice (some ⟨go15, 0, none⟩) x7_3.length co15) y213 := (by rw [Ny213.out]; exact hbk59 hg (fun k_ e_ => by injection e_ with e_; subst e_; exact ge59_0.1 _ rfl) (Kd.M_row hz_)); have hm_ := Kd.R_mono hz_ hok59; clear HP59 hbk59; have n0_ := Q0_ (hp_); have n1_ := Q0_ (Kd.R_over' (v := (.slice (some ⟨go46, 0, none⟩) (rd_L4 x7_3 x8_1).length c209_0)) (upR HO_39) (Kd.R_typed HL209_0.out) (by decide) hg); have n2_ := Q0_ (blk_grown (g := gb205) (o := .cells #[.int .i64 t201, .int .i64 t202, .int .i64 t203] 65 (0, 0)) (upK BK205) hg (Kd.R_ne HL209_0.out BK205.out (by decide))); have n3_ := Q0_ ((by rw [hw]; exact below_set (HB.out) GB46.out : Below w.heap.size w w60)); have n4_ := Q0_ (hm_); have n5_ := Q0_ ((Kd.R_reads' hm_).2.1); clear HO_7 HO_39 BK205 HB HL207_0 HL209_0; revert n0_ n1_ n2_ n3_ n4_ n5_; intro HO_7 HO_39 BK205 HB HL218 HC212; clear hg hw hp_ hz_ hm_ hok59))
       (try simp only [← hl7_3])
       first | go_roundg k3 | ((try simp only [← hji4] at H' ⊢); (try simp only [← hji10] at H' ⊢); (try simp only [← hji35] at H' ⊢); (try simp only [← hji38] at H' ⊢); go_roundg k3)
       case measure => have := HK1.out; have := HK2.out; have := HK3.out; omega
       case rel => exact ⟨(y213), (true), (wrap64 (x41_3 + 1)), eX, eX, H', ⟨by have := HK1.out; have := HK2.out; have := HK3.out; omega⟩, ⟨by (try simp only [hl7_2]); (try simp only [hl7_3]); (with_reducible repeat (first | apply Kd.S_alloc | apply Kd.S_drewN | apply Kd.S_drew)); exact HO_7.out⟩, ⟨by (try simp only [hl7_2]); (try simp only [hl7_3]); (with_reducible repeat (first | apply Kd.R_alloc | apply Kd.R_drewN | apply Kd.R_drew)); exact HO_39.out⟩, ⟨by repeat (first | (with_reducible first | exact HB.out | apply below_alloc | apply pw_below_drewN | apply below_drew1 | refine below_set ?_ GE205.out) | exact HB.out)⟩⟩
end Go.Proofs.Ythpeiboobnnfgaa.E
end
section
namespace Go.Proofs.Ythpeiboobnnfgaa.E
open Go.RowKit Go.Proofs.YthpeiboobnnfgaaW.PrintWords Go.Proofs.YthpeiboobnnfgaaW.PrintLast Go.Proofs.YthpeiboobnnfgaaW.PrintMore
attribute [local go_sem] max2_int min2_int max_two min_two max_three min_three max_four min_four
set_option linter.unusedVariables false
set_option linter.unusedSimpArgs false
attribute [local go_sem] en63_mk1 en63_mk2 en63_mk3 en63_mk4
attribute [local go_sem] str_leq_ str_gtr_ str_geq_
mutual
def impl_EditText.j0 : Nat → List (S36) → List (S36) → Bool → Option (ByteArray × Bool)
 | 0, _, _, _ => none
 | k + 1, x0, x1, x21 => if x21 = true then (some ((⟨#[]⟩ : ByteArray), false)) else ((impl_leastSums_costOf.f k x0 x1).bind fun t222 => (impl_EditText.l0 k x0 x1 t222 (([] : List Int)) 0 0))
def impl_EditText.l0 : Nat → List (S36) → List (S36) → List (List Int) → List Int → Int → Int → Option (ByteArray × Bool)
 | 0, _, _, _, _, _, _ => none
 | k + 1, x0, x1, x6, x7, x8, x9 => if x8 < (x0.length : Int) then (impl_EditText.j2 k x0 x1 x6 x7 x8 x9 true) else (impl_EditText.j2 k x0 x1 x6 x7 x8 x9 (decide (x9 < (x1.length : Int))))
def impl_EditText.j2 : Nat → List (S36) → List (S36) → List (List Int) → List Int → Int → Int → Bool → Option (ByteArray × Bool)
 | 0, _, _, _, _, _, _, _ => none
 | k + 1, x0, x1, x6, x7, x8, x9, x35 => if x35 = true then ((impl_allEdits.f).bind fun t228 => (impl_EditText.l1 k x0 x1 x6 x7 x8 x9 t228 (t228.length : Int) 0)) else (some (strOfNums x7, true))
def impl_EditText.l1 : Nat → List (S36) → List (S36) → List (List Int) → List Int → Int → Int → List Int → Int → Int → Option (ByteArray × Bool)
 | 0, _, _, _, _, _, _, _, _, _ => none
 | k + 1, x0, x1, x6, x7, x8, x9, x36, x37, x38 => if x38 < x37 then (if 0 ≤ x38 then (if x38 < (x36.length : Int) then (if 0 ≤ x8 then (if x8 ≤ (x0.length : Int) then (if 0 ≤ x9 then (if x9 ≤ (x1.length : Int) then ((impl_useOf.f k (rd x36 x38) (x0.drop (x8 : Int).toNat) (x1.drop (x9 : Int).toNat)).bind fun bt240 => (if bt240.2.2.2 = true then (if 0 ≤ (wrap64 (x8 + bt240.1)) then (if (wrap64 (x8 + bt240.1)) < (x6.length : Int) then (if 0 ≤ (wrap64 (x9 + bt240.2.1)) then (if (wrap64 (x9 + bt240.2.1)) < ((rd_L4 x6 (wrap64 (x8 + bt240.1))).length : Int) then (if x8 < (x6.length : Int) then (if x9 < ((rd_L4 x6 x8).length : Int) then (if (wrap64 (bt240.2.2.1 + (rd (rd_L4 x6 (wrap64 (x8 + bt240.1))) (wrap64 (x9 + bt240.2.1))))) = (rd (rd_L4 x6 x8) x9) then ((en63_letter.f (rd x36 x38)).bind fun t249 => (if x7.length < 140737488355328 then (impl_EditText.l0 k x0 x1 x6 (x7 ++ [t249]) (wrap64 (x8 + bt240.1)) (wrap64 (x9 + bt240.2.1))) else (none))) else (impl_EditText.l1 k x0 x1 x6 x7 x8 x9 x36 x37 (wrap64 (x38 + 1)))) else (none)) else (none)) else (none)) else (none)) else (none)) else (none)) else (impl_EditText.l1 k x0 x1 x6 x7 x8 x9 x36 x37 (wrap64 (x38 + 1))))) else (none)) else (none)) else (none)) else (none)) else (none)) else (none)) else (impl_EditText.l0 k x0 x1 x6 x7 x8 x9)
end
def impl_EditText.f (k : Nat) (l0 : List (S36)) (l1 : List (S36)) : Option (ByteArray × Bool) := (impl_MelodyValid.f k l0).bind fun t220 => (if t220 = true then ((impl_MelodyValid.f k l1).bind fun t221 => (impl_EditText.j0 k l0 l1 (!t221))) else (impl_EditText.j0 k l0 l1 true))
def impl_EditText.T10 : Bool × List (List Nat × List Nat) := (true, [([], []), ([], []), ([], []), ([1, 2], [1, 2]), ([], []), ([], []), ([4, 5], [4, 5]), ([0, 3, 6], [0, 3, 6]), ([7], [7]), ([8], [8]), ([8], [8]), ([], []), ([11, 9, 7, 0, 1, 2, 3, 4, 5, 6, 7, 8, 9, 11], [9, 11]), ([10, 12, 0, 1, 2, 3, 4, 5, 6, 7, 8, 9, 10, 11, 12], [10])])
def impl_EditText.B10 : List Nat := [0, 0, 0, 6, 0, 0, 48, 127, 255, 511, 511, 0, 3071, 8191]
theorem impl_EditText.tab10 : rtab .any (opsOf Try.f29 10) = impl_EditText.T10 := by kernel_rfl
theorem impl_EditText.bits10 : waitsOk impl_EditText.T10.2 impl_EditText.B10 = true := by kernel_rfl
def impl_EditText.T11 : Bool × List (List Nat × List Nat) := (true, [([], []), ([0], [0]), ([1], [1]), ([2, 1], [1, 2]), ([1], [1]), ([1], [1]), ([1], [1]), ([6, 1], [1, 6]), ([5, 7, 1], [1, 5, 7]), ([4, 8, 1], [1, 4, 8]), ([9, 1], [1, 9]), ([1], [1]), ([1], [1]), ([12, 1], [1, 12]), ([11, 13, 1], [1, 11, 13]), ([10, 14, 1], [1, 10, 14]), ([15, 1], [1, 15]), ([3, 16, 1], [1, 3, 16]), ([1], [1]), ([1], [1]), ([18, 19, 1], [1, 18, 19]), ([20, 1], [1, 20]), ([1], [1]), ([21, 22, 1], [1, 21, 22]), ([23, 1], [1, 23]), ([17, 24, 1], [1, 17, 24]), ([1, 25], [1, 25])])
def impl_EditText.B11 : List Nat := [0, 1, 3, 7, 3, 3, 3, 67, 227, 499, 1011, 3, 3, 4099, 14339, 32755, 65523, 131071, 3, 3, 786435, 1835011, 3, 8126467, 16515075, 33554431, 67108863]
theorem impl_EditText.tab11 : rtab .any (opsOf Try.f29 11) = impl_EditText.T11 := by kernel_rfl
theorem impl_EditText.bits11 : waitsOk impl_EditText.T11.2 impl_EditText.B11 = true := by kernel_rfl
def impl_EditText.T13 : Bool × List (List Nat × List Nat) := (true, [([], []), ([], []), ([1], [1]), ([0, 2], [0, 2]), ([], []), ([], []), ([5], [5]), ([4, 6], [4, 6]), ([3, 0, 1, 2, 3], [0, 3]), ([7, 8, 0, 1, 2, 3, 4, 5, 6, 7, 8], [4, 7])])
def impl_EditText.B13 : List Nat := [0, 0, 2, 7, 0, 0, 32, 112, 15, 511]
theorem impl_EditText.tab13 : rtab .any (opsOf Try.f29 13) = impl_EditText.T13 := by kernel_rfl
theorem impl_EditText.bits13 : waitsOk impl_EditText.T13.2 impl_EditText.B13 = true := by kernel_rfl
set_option maxHeartbeats 8000000 in
set_option maxRecDepth 100000 in
theorem impl_EditText.calls (k : Nat) (A0 : Option Addr) (c0 : Nat) (l0 : List (S36)) (A1 : Option Addr) (c1 : Nat) (l1 : List (S36)) (r1 : ByteArray) (r2 : Bool) (w : World) (hr0 : Kd.C k36 w A0 l0.length l0) (hc0 : l0.length ≤ c0) (hr1 : Kd.C k36 w A1 l1.length l1) (hc1 : l1.length ≤ c1) (h : impl_EditText.f k l0 l1 = some (r1, r2)) :
  Calls Try.prog 29 #[.slice A0 l0.length c0, .slice A1 l1.length c1] w fun e w' => e = .returned (.tuple #[.string r1, .bool r2]) ∧ Below w.heap.size w w' := by
 have hu65 := Try.underlying65
 have HR0 := Aside0.mk hr0
 have HC0 := Aside0.mk hc0
 clear hr0 hc0
 have HR1 := Aside0.mk hr1
 have HC1 := Aside0.mk hc1
 clear hr1 hc1
 have HB := Q0_ (Below.refl w.heap.size w)
 have H : ((impl_MelodyValid.f k l0).bind fun t220 => (if t220 = true then ((impl_MelodyValid.f k l1).bind fun t221 => (impl_EditText.j0 k l0 l1 (!t221))) else (impl_EditText.j0 k l0 l1 true))) = some (r1, r2) := h
 clear h
 have HC3 := Aside0.mk H
 clear H
 go_enter Try.func29, Try.ntmps29
 go_upto_region 1 with (fail)
 go_cut [21] (fun v21 wc => ∃ (kq : Nat) (x21_2 : Bool), v21 = .bool x21_2 ∧ Aside0 (impl_EditText.j0 kq l0 l1 x21_2 = some (r1, r2)) ∧ Aside0 (kq ≤ k) ∧ Aside0 (Below w.heap.size w wc))
 case first =>
  have H := HC3.out
  clear HC3
  obtain ⟨t220, A40, H⟩ := Option.bind_eq_some_iff.mp H
  try dsimp only at H
  have A4 := Aside0.mk A40
  clear A40
  by_cases c5 : t220 = true
  rotate_left
  ·replace c5 := Bool.eq_false_iff.mpr c5
   subst c5
   replace H := ifN ((show ¬ (false = true) by decide)) H
   have H' := Aside0.mk H
   clear H
   go_wp2_with (first | ((with_reducible refine gate_callee (f := 34) rfl ?_); refine goesL_ (some 15) rfl rfl Try.func34 (by kernel_rfl) rfl #[.slice A0 l0.length c0] rfl hM ?_; (with_reducible refine (impl_MelodyValid.calls k _ _ l0 false _ ?side1 ?side2 A4.out).mono ?_); (case side1 => repeat (first | exact (Kd.C_below HR0.out HB.out) | (with_reducible refine Kd.C_alloc ?_ _) | (with_reducible refine Kd.C_drewN ?_ _) | (with_reducible refine Kd.C_drew ?_))); (case side2 => exact HC0.out); rintro e w9 ⟨rfl, hb⟩; refine ⟨_, rfl, ?_⟩; have n0_ := Q0_ (below_step (upB HB) hb); clear HB; revert n0_; intro HB; (try clear hb); (try clear hb2); (try clear hk); (try clear hi)))
   go_meet
   case rel => exact ⟨_, (true), eX, H', ⟨by first | omega | exact Nat.le_refl _⟩, ⟨by repeat (first | (with_reducible first | exact HB.out | apply below_alloc | apply pw_below_drewN | apply below_drew1) | exact HB.out)⟩⟩
  subst c5
  replace H := ifP (rfl) H
  obtain ⟨t221, A60, H⟩ := Option.bind_eq_some_iff.mp H
  try dsimp only at H
  have A6 := Aside0.mk A60
  clear A60
  have H' := Aside0.mk H
  clear H
  go_wp2_with (first | ((with_reducible refine gate_callee (f := 34) rfl ?_); refine goesL_ (some 15) rfl rfl Try.func34 (by kernel_rfl) rfl #[.slice A0 l0.length c0] rfl hM ?_; (with_reducible refine (impl_MelodyValid.calls k _ _ l0 true _ ?side1 ?side2 A4.out).mono ?_); (case side1 => repeat (first | exact (Kd.C_below HR0.out HB.out) | (with_reducible refine Kd.C_alloc ?_ _) | (with_reducible refine Kd.C_drewN ?_ _) | (with_reducible refine Kd.C_drew ?_))); (case side2 => exact HC0.out); rintro e w7 ⟨rfl, hb⟩; refine ⟨_, rfl, ?_⟩; have n0_ := Q0_ (below_step (upB HB) hb); clear HB; revert n0_; intro HB; (try clear hb); (try clear hb2); (try clear hk); (try clear hi)) | (go_at_call 34; (with_reducible refine (impl_MelodyValid.calls k _ _ l1 t221 _ ?side1 ?side2 A6.out).mono ?_); (case side1 => repeat (first | exact (Kd.C_below HR1.out HB.out) | (with_reducible refine Kd.C_alloc ?_ _) | (with_reducible refine Kd.C_drewN ?_ _) | (with_reducible refine Kd.C_drew ?_))); (case side2 => exact HC1.out); rintro e w8 ⟨rfl, hb⟩; have n0_ := Q0_ (below_step (upB HB) hb); clear HB; revert n0_; intro HB; (try clear hb); (try clear hb2); (try clear hk); (try clear hi)))
  go_meet
  case rel => exact ⟨_, (!t221), eX, H', ⟨by first | omega | exact Nat.le_refl _⟩, ⟨by repeat (first | (with_reducible first | exact HB.out | apply below_alloc | apply pw_below_drewN | apply below_drew1) | exact HB.out)⟩⟩
 case rest =>
  clear HC3
  try clear c1
  try clear c2
  try clear p2
  try clear c3
  try clear c5
  obtain ⟨kq, x21_2, rfl, HA, HJ2, HB⟩ := hcut
  cases kq with
  | zero => exact absurd HA.out (by simp [impl_EditText.j0])
  | succ kj2 =>
   have H := HA.out
   clear HA
   simp only [impl_EditText.j0] at H
   by_cases c10 : x21_2 = true
   ·subst c10
    replace H := ifP (rfl) H
    simp only [Option.some.injEq, Prod.mk.injEq] at H
    obtain ⟨rfl, rfl⟩ := H
    go_wp2
    go_ret2
    exact ⟨by first | rfl | (simp [errW_none, errW_some] <;> rfl) | (simp [*, errW_none, errW_some] <;> rfl), by repeat (first | (with_reducible first | exact HB.out | apply below_alloc | apply pw_below_drewN | apply below_drew1) | exact HB.out)⟩
   replace c10 := Bool.eq_false_iff.mpr c10
   subst c10
   replace H := ifN ((show ¬ (false = true) by decide)) H
   obtain ⟨t222, A110, H⟩ := Option.bind_eq_some_iff.mp H
   try dsimp only at H
   have A11 := Aside0.mk A110
   clear A110
   obtain ⟨y225, hy225⟩ : ∃ y_ : List Int, y_ = (([] : List Int)) := ⟨_, rfl⟩
   replace H : (impl_EditText.l0 kj2 l0 l1 t222 y225 0 0) = some (r1, r2) := by first | (rw [hy225]; with_reducible exact H) | (have H2_ := (Option.bind_some _ _).symm.trans H; rw [hy225]; with_reducible exact H2_) | (have H2_ := (Option.bind_some _ _).symm.trans H; with_reducible exact H2_) | with_reducible exact H | (rw [hy225]; exact H) | exact H
   have Ny225 := Aside0.mk hy225
   clear hy225
   have H' := Aside0.mk H
   clear H
   go_wp2_with (first | ((with_reducible refine gate_callee (f := 35) rfl ?_); refine goesL_ (some 24) rfl rfl Try.func35 (by kernel_rfl) rfl #[.slice A0 l0.length c0, .slice A1 l1.length c1, .func (.func 39) #[] #[]] rfl hM ?_; (with_reducible refine (impl_leastSums_costOf.calls kj2 _ _ l0 _ _ l1 t222 _ ?side1 ?side2 ?side3 ?side4 A11.out).mono ?_); (case side1 => repeat (first | exact (Kd.C_below HR0.out HB.out) | (with_reducible refine Kd.C_alloc ?_ _) | (with_reducible refine Kd.C_drewN ?_ _) | (with_reducible refine Kd.C_drew ?_))); (case side2 => exact HC0.out); (case side3 => repeat (first | exact (Kd.C_below HR1.out HB.out) | (with_reducible refine Kd.C_alloc ?_ _) | (with_reducible refine Kd.C_drewN ?_ _) | (with_reducible refine Kd.C_drew ?_))); (case side4 => exact HC1.out); rintro e w12 ⟨v223, rfl, ho0, hb⟩; refine ⟨_, rfl, ?_⟩; have n0_ := Q0_ (Kd.S_lower ho0 (below_size (upB HB))); have n1_ := Q0_ (below_step (upB HB) hb); clear HB; revert n0_ n1_; intro HO224 HB; (try clear hb); (try clear hb2); (try clear hk); (try clear hi); (try clear ho0)) | ((with_reducible refine gate_dst (N := 25) rfl ?_); (try (refine gate_guard (by rfl) ?_; dsimp only)); refine Kd.R_lit (Kd.int .u8) _ 5 ?hg (N := 25) ?hd (xs := ([] : List Int)) (inner := []) (ok := fun _ => True) (okp := fun _ => True) ?hr ?hp (fun _ hk => hk) trivial (Below.refl _ _) (Nat.le_refl _) (by simp) ?_; (case hd => rfl); (case hg => rfl); (case hr => first | (go_simp; done) | (go_simp; rfl)); (case hp => exact (Reps.none _ _)); intro v226 w13 ho14 hb hg_ hnew_; clear hg_ hnew_; (first | rw [← Ny225.out] at ho14 | (simp only [Int.reduceToNat] at ho14; rw [← Ny225.out] at ho14)); have n0_ := Q0_ (Kd.S_below (upS HO224) hb); have n1_ := Q0_ (Kd.R_lower ho14 (below_size (upB HB))); have n2_ := Q0_ (below_step (upB HB) hb); clear HO224 HB; revert n0_ n1_ n2_; intro HO224 HO227 HB; clear hb ho14))
   go_loopg [7, 8, 9] kj2 (fun kq v7 v8 v9 w' => ∃ (x7_2 : List Int) (x8_2 : Int) (x9_2 : Int), v8 = .int .i64 x8_2 ∧ v9 = .int .i64 x9_2 ∧ Aside0 (impl_EditText.l0 kq l0 l1 t222 x7_2 x8_2 x9_2 = some (r1, r2)) ∧ Aside0 (kq ≤ kj2) ∧ Aside0 (Kd.S (Kd.slice 3 (Kd.int .i64)) 46 w' w.heap.size (fun _ => True) v223 t222) ∧ Aside0 (Kd.R (Kd.int .u8) 5 w' w.heap.size (fun _ => True) v7 x7_2) ∧ Aside0 (Below w.heap.size w w'))
   case atStart => exact ⟨(y225), (0), (0), eX, eX, H', ⟨Nat.le_refl _⟩, ⟨by (with_reducible repeat (first | apply Kd.S_alloc | apply Kd.S_drewN | apply Kd.S_drew)); exact HO224.out⟩, ⟨by (with_reducible repeat (first | apply Kd.R_alloc | apply Kd.R_drewN | apply Kd.R_drew)); exact HO227.out⟩, ⟨by repeat (first | (with_reducible first | exact HB.out | apply below_alloc | apply pw_below_drewN | apply below_drew1) | exact HB.out)⟩⟩
   case round =>
    clear H'
    try clear c1
    try clear c2
    try clear p2
    try clear c3
    try clear c5
    try clear c9
    try clear c10
    try clear p2
    obtain ⟨x7_2, x8_2, x9_2, rfl, rfl, HA, HK2, HO_6, HO_7, HB⟩ := hrel
    cases gk with
    | zero => exact absurd HA.out (by simp [impl_EditText.l0])
    | succ k2 =>
     have H := HA.out
     clear HA
     simp only [impl_EditText.l0] at H
     have HC15 := Aside0.mk H
     clear H
     go_upto_region 6 with (fail)
     go_cut [35] (fun v35 wc => ∃ (kq : Nat) (x35_14 : Bool), v35 = .bool x35_14 ∧ Aside0 (impl_EditText.j2 kq l0 l1 t222 x7_2 x8_2 x9_2 x35_14 = some (r1, r2)) ∧ Aside0 (kq ≤ k2) ∧ Aside0 (Kd.S (Kd.slice 3 (Kd.int .i64)) 46 wc w.heap.size (fun _ => True) v223 t222) ∧ Aside0 (Kd.R (Kd.int .u8) 5 wc w.heap.size (fun _ => True) u7 x7_2) ∧ Aside0 (Below w.heap.size w wc))
     case first =>
      have H := HC15.out
      clear HC15
      by_cases c16 : x8_2 < (l0.length : Int)
      rotate_left
      ·rw [if_neg c16] at H
       have c16b0 : decide (x8_2 < (l0.length : Int)) = false := decide_eq_false c16
       clear c16
       (first | rw [c16b0] | (simp only [i64_w, i32_w]; rw [c16b0]) | skip)
       have H' := Aside0.mk H
       clear H
       go_wp2
       go_meet
       case rel => exact ⟨_, (decide (x9_2 < (l1.length : Int))), eX, H', ⟨by have := HJ2.out; have := HK2.out; first | omega | exact Nat.le_refl _⟩, ⟨by (with_reducible repeat (first | apply Kd.S_alloc | apply Kd.S_drewN | apply Kd.S_drew)); exact HO_6.out⟩, ⟨by (with_reducible repeat (first | apply Kd.R_alloc | apply Kd.R_drewN | apply Kd.R_drew)); exact HO_7.out⟩, ⟨by repeat (first | (with_reducible first | exact HB.out | apply below_alloc | apply pw_below_drewN | apply below_drew1) | exact HB.out)⟩⟩
      rw [if_pos c16] at H
      have c16b0 : decide (x8_2 < (l0.length : Int)) = true := decide_eq_true c16
      clear c16
      (first | rw [c16b0] | (simp only [i64_w, i32_w]; rw [c16b0]) | skip)
      have H' := Aside0.mk H
      clear H
      go_wp2
      go_meet
      case rel => exact ⟨_, (true), eX, H', ⟨by have := HJ2.out; have := HK2.out; first | omega | exact Nat.le_refl _⟩, ⟨by (with_reducible repeat (first | apply Kd.S_alloc | apply Kd.S_drewN | apply Kd.S_drew)); exact HO_6.out⟩, ⟨by (with_reducible repeat (first | apply Kd.R_alloc | apply Kd.R_drewN | apply Kd.R_drew)); exact HO_7.out⟩, ⟨by repeat (first | (with_reducible first | exact HB.out | apply below_alloc | apply pw_below_drewN | apply below_drew1) | exact HB.out)⟩⟩
     case rest =>
      clear HC15
      try clear c1
      try clear c2
      try clear p2
      try clear c3
      try clear c5
      try clear c9
      try clear c10
      try clear c16
      try clear c16b0
      try clear p2
      obtain ⟨kq, x35_14, rfl, HA, HJ14, HO_6, HO_7, HB⟩ := hcut
      cases kq with
      | zero => exact absurd HA.out (by simp [impl_EditText.j2])
      | succ kj14 =>
       have H := HA.out
       clear HA
       simp only [impl_EditText.j2] at H
       by_cases c17 : x35_14 = true
       rotate_left
       ·replace c17 := Bool.eq_false_iff.mpr c17
        subst c17
        replace H := ifN ((show ¬ (false = true) by decide)) H
        simp only [Option.some.injEq, Prod.mk.injEq] at H
        obtain ⟨rfl, rfl⟩ := H
        have hcv79 := own_string (P := Try.prog) Try.underlying32 Try.underlying5 Try.underlying9 (Kd.own_of_R HO_7.out)
        go_wp2
        go_ret2
        exact ⟨by first | rfl | (simp [errW_none, errW_some] <;> rfl) | (simp [*, errW_none, errW_some] <;> rfl), by repeat (first | (with_reducible first | exact HB.out | apply below_alloc | apply pw_below_drewN | apply below_drew1) | exact HB.out)⟩
       subst c17
       replace H := ifP (rfl) H
       obtain ⟨t228, A180, H⟩ := Option.bind_eq_some_iff.mp H
       try dsimp only at H
       have A18 := Aside0.mk A180
       clear A180
       have H' := Aside0.mk H
       clear H
       go_wp2_with (first | ((with_reducible refine gate_callee (f := 44) rfl ?_); refine goesL_ (some 36) rfl rfl Try.func44 (by kernel_rfl) rfl #[] rfl hM ?_; (with_reducible refine (impl_allEdits.calls  t228 _ A18.out).mono ?_); rintro e w19 ⟨v229, rfl, ho0, hb⟩; refine ⟨_, rfl, ?_⟩; have n0_ := Q0_ (Kd.S_below (upS HO_6) hb); have n1_ := Q0_ (Kd.R_below (upR HO_7) hb); have n2_ := Q0_ (Kd.R_lower ho0 (below_size (upB HB))); have n3_ := Q0_ (below_step (upB HB) hb); clear HO_6 HO_7 HB; revert n0_ n1_ n2_ n3_; intro HO_6 HO_7 HO230 HB; (try clear hb); (try clear hb2); (try clear hk); (try clear hi); (try clear ho0); obtain ⟨Ao20, co20, eo20⟩ := Kd.R_slice HO230.out; subst eo20))
       go_loopg [7, 8, 9, 38] kj14 (fun kq v7 v8 v9 v38 w' => ∃ (x7_4 : List Int) (x8_4 : Int) (x9_4 : Int) (x38_4 : Int), v8 = .int .i64 x8_4 ∧ v9 = .int .i64 x9_4 ∧ v38 = .int .i64 x38_4 ∧ Aside0 (impl_EditText.l1 kq l0 l1 t222 x7_4 x8_4 x9_4 t228 (t228.length : Int) x38_4 = some (r1, r2)) ∧ Aside0 (kq ≤ kj14) ∧ Aside0 (Kd.S (Kd.slice 3 (Kd.int .i64)) 46 w' w.heap.size (fun _ => True) v223 t222) ∧ Aside0 (Kd.R (Kd.int .u8) 5 w' w.heap.size (fun _ => True) v7 x7_4) ∧ Aside0 (Kd.R (Kd.scalar en63W en63_one) 63 w' w.heap.size (fun _ => True) (.slice Ao20 t228.length co20) t228) ∧ Aside0 (Below w.heap.size w w'))
       case atStart => exact ⟨(x7_2), (x8_2), (x9_2), (0), eX, eX, eX, H', ⟨Nat.le_refl _⟩, ⟨by (with_reducible repeat (first | apply Kd.S_alloc | apply Kd.S_drewN | apply Kd.S_drew)); exact HO_6.out⟩, ⟨by (with_reducible repeat (first | apply Kd.R_alloc | apply Kd.R_drewN | apply Kd.R_drew)); exact HO_7.out⟩, ⟨by (with_reducible repeat (first | apply Kd.R_alloc | apply Kd.R_drewN | apply Kd.R_drew)); exact HO230.out⟩, ⟨by repeat (first | (with_reducible first | exact HB.out | apply below_alloc | apply pw_below_drewN | apply below_drew1) | exact HB.out)⟩⟩
       case round =>
        clear H'
        try clear c1
        try clear c2
        try clear p2
        try clear c3
        try clear c4
        try clear c5
        try clear c9
        try clear c10
        try clear c16
        try clear c16b0
        try clear c17
        try clear p2
        obtain ⟨x7_4, x8_4, x9_4, x38_4, rfl, rfl, rfl, HA, HK4, HO_6, HO_7, HO_36, HB⟩ := hrel
        cases gk with
        | zero => exact absurd HA.out (by simp [impl_EditText.l1])
        | succ k4 =>
         have H := HA.out
         clear HA
         simp only [impl_EditText.l1] at H
         by_cases c21 : x38_4 < (t228.length : Int)
         rotate_left
         ·rw [if_neg c21] at H
          have c21b0 : decide (x38_4 < (t228.length : Int)) = false := decide_eq_false c21
          clear c21
          have H' := Aside0.mk H
          clear H
          go_wp2
          go_roundg k4
          case measure => have := HJ2.out; have := HK2.out; have := HJ14.out; have := HK4.out; omega
          case rel => exact ⟨(x7_4), (x8_4), (x9_4), eX, eX, H', ⟨by have := HJ2.out; have := HK2.out; have := HJ14.out; have := HK4.out; omega⟩, ⟨by (with_reducible repeat (first | apply Kd.S_alloc | apply Kd.S_drewN | apply Kd.S_drew)); exact HO_6.out⟩, ⟨by (with_reducible repeat (first | apply Kd.R_alloc | apply Kd.R_drewN | apply Kd.R_drew)); exact HO_7.out⟩, ⟨by repeat (first | (with_reducible first | exact HB.out | apply below_alloc | apply pw_below_drewN | apply below_drew1) | exact HB.out)⟩⟩
         rw [if_pos c21] at H
         have c21b0 : decide (x38_4 < (t228.length : Int)) = true := decide_eq_true c21
         clear c21
         by_cases c22 : 0 ≤ x38_4
         rotate_left
         ·rw [if_neg c22] at H
          exact absurd H (by simp)
         rw [if_pos c22] at H
         have c22b0 : decide (0 ≤ x38_4) = true := decide_eq_true c22
         clear c22
         by_cases c23 : x38_4 < (t228.length : Int)
         rotate_left
         ·rw [if_neg c23] at H
          exact absurd H (by simp)
         rw [if_pos c23] at H
         have c23b0 : decide (x38_4 < (t228.length : Int)) = true := decide_eq_true c23
         clear c23
         by_cases c24 : 0 ≤ x8_4
         rotate_left
         ·rw [if_neg c24] at H
          exact absurd H (by simp)
         rw [if_pos c24] at H
         have c24b0 := eq_true c24
         have c24b1 : decide (0 ≤ x8_4) = true := decide_eq_true c24
         clear c24
         by_cases c25 : x8_4 ≤ (l0.length : Int)
         rotate_left
         ·rw [if_neg c25] at H
          exact absurd H (by simp)
         rw [if_pos c25] at H
         have c25b0 := eq_true c25
         have c25b1 : decide (x8_4 ≤ (l0.length : Int)) = true := decide_eq_true c25
         clear c25
         obtain ⟨y232, hy232⟩ : ∃ y_ : List (S36), y_ = (l0.drop (x8_4 : Int).toNat) := ⟨_, rfl⟩
         replace H : (if 0 ≤ x9_4 then (if x9_4 ≤ (l1.length : Int) then ((impl_useOf.f k4 (rd t228 x38_4) y232 (l1.drop (x9_4 : Int).toNat)).bind fun bt240 => (if bt240.2.2.2 = true then (if 0 ≤ (wrap64 (x8_4 + bt240.1)) then (if (wrap64 (x8_4 + bt240.1)) < (t222.length : Int) then (if 0 ≤ (wrap64 (x9_4 + bt240.2.1)) then (if (wrap64 (x9_4 + bt240.2.1)) < ((rd_L4 t222 (wrap64 (x8_4 + bt240.1))).length : Int) then (if x8_4 < (t222.length : Int) then (if x9_4 < ((rd_L4 t222 x8_4).length : Int) then (if (wrap64 (bt240.2.2.1 + (rd (rd_L4 t222 (wrap64 (x8_4 + bt240.1))) (wrap64 (x9_4 + bt240.2.1))))) = (rd (rd_L4 t222 x8_4) x9_4) then ((en63_letter.f (rd t228 x38_4)).bind fun t249 => (if x7_4.length < 140737488355328 then (impl_EditText.l0 k4 l0 l1 t222 (x7_4 ++ [t249]) (wrap64 (x8_4 + bt240.1)) (wrap64 (x9_4 + bt240.2.1))) else (none))) else (impl_EditText.l1 k4 l0 l1 t222 x7_4 x8_4 x9_4 t228 (t228.length : Int) (wrap64 (x38_4 + 1)))) else (none)) else (none)) else (none)) else (none)) else (none)) else (none)) else (impl_EditText.l1 k4 l0 l1 t222 x7_4 x8_4 x9_4 t228 (t228.length : Int) (wrap64 (x38_4 + 1))))) else (none)) else (none)) = some (r1, r2) := by first | (rw [hy232]; with_reducible exact H) | (have H2_ := (Option.bind_some _ _).symm.trans H; rw [hy232]; with_reducible exact H2_) | (have H2_ := (Option.bind_some _ _).symm.trans H; with_reducible exact H2_) | with_reducible exact H | (rw [hy232]; exact H) | exact H
         have Ny232 := Aside0.mk hy232
         clear hy232
         by_cases c26 : 0 ≤ x9_4
         rotate_left
         ·rw [if_neg c26] at H
          exact absurd H (by simp)
         rw [if_pos c26] at H
         have c26b0 := eq_true c26
         have c26b1 : decide (0 ≤ x9_4) = true := decide_eq_true c26
         clear c26
         by_cases c27 : x9_4 ≤ (l1.length : Int)
         rotate_left
         ·rw [if_neg c27] at H
          exact absurd H (by simp)
         rw [if_pos c27] at H
         have c27b0 := eq_true c27
         have c27b1 : decide (x9_4 ≤ (l1.length : Int)) = true := decide_eq_true c27
         clear c27
         obtain ⟨y236, hy236⟩ : ∃ y_ : List (S36), y_ = (l1.drop (x9_4 : Int).toNat) := ⟨_, rfl⟩
         replace H : ((impl_useOf.f k4 (rd t228 x38_4) y232 y236).bind fun bt240 => (if bt240.2.2.2 = true then (if 0 ≤ (wrap64 (x8_4 + bt240.1)) then (if (wrap64 (x8_4 + bt240.1)) < (t222.length : Int) then (if 0 ≤ (wrap64 (x9_4 + bt240.2.1)) then (if (wrap64 (x9_4 + bt240.2.1)) < ((rd_L4 t222 (wrap64 (x8_4 + bt240.1))).length : Int) then (if x8_4 < (t222.length : Int) then (if x9_4 < ((rd_L4 t222 x8_4).length : Int) then (if (wrap64 (bt240.2.2.1 + (rd (rd_L4 t222 (wrap64 (x8_4 + bt240.1))) (wrap64 (x9_4 + bt240.2.1))))) = (rd (rd_L4 t222 x8_4) x9_4) then ((en63_letter.f (rd t228 x38_4)).bind fun t249 => (if x7_4.length < 140737488355328 then (impl_EditText.l0 k4 l0 l1 t222 (x7_4 ++ [t249]) (wrap64 (x8_4 + bt240.1)) (wrap64 (x9_4 + bt240.2.1))) else (none))) else (impl_EditText.l1 k4 l0 l1 t222 x7_4 x8_4 x9_4 t228 (t228.length : Int) (wrap64 (x38_4 + 1)))) else (none)) else (none)) else (none)) else (none)) else (none)) else (none)) else (impl_EditText.l1 k4 l0 l1 t222 x7_4 x8_4 x9_4 t228 (t228.length : Int) (wrap64 (x38_4 + 1))))) = some (r1, r2) := by first | (rw [hy236]; with_reducible exact H) | (have H2_ := (Option.bind_some _ _).symm.trans H; rw [hy236]; with_reducible exact H2_) | (have H2_ := (Option.bind_some _ _).symm.trans H; with_reducible exact H2_) | with_reducible exact H | (rw [hy236]; exact H) | exact H
         have Ny236 := Aside0.mk hy236
         clear hy236
         obtain ⟨⟨t240, t241, t242, t243⟩, A280, H⟩ := Option.bind_eq_some_iff.mp H
         try dsimp only at H
         have A28 := Aside0.mk A280
         clear A280
         by_cases c29 : t243 = true
         rotate_left
         ·replace c29 := Bool.eq_false_iff.mpr c29
          subst c29
          replace H := ifN ((show ¬ (false = true) by decide)) H
          have H' := Aside0.mk H
          clear H
          have p231 : 0 ≤ (x38_4 : Int) := of_decide_eq_true aS
          have q231 : x38_4 < (t228.length : Int) := of_decide_eq_true aS
          obtain ⟨ad231, e231, hx231_0⟩ := at_en63 (Kd.R_reads' HO_36.out).2.2 x38_4 p231 q231
          cases e231
          replace p231 := eq_true p231
          replace q231 := eq_true q231
          try go_wp2
          have n0_ := Q0_ (Kd.S_drew HO_6.out)
          have n1_ := Q0_ (Kd.R_drew HO_7.out)
          have n2_ := Q0_ (Kd.R_drew HO_36.out)
          have n3_ := Q0_ (below_drew1 HB.out)
          clear HO_6 HO_7 HO_36 HB; revert n0_ n1_ n2_ n3_; intro HO_6 HO_7 HO_36 HB
          have q69 : (x8_4 : Int) ≤ ((l0.length : Int) : Int) := of_decide_eq_true aS
          obtain ⟨i069, hi069, _, hsz69, _⟩ := info_parts info36
          have hroom69 : l0.length ≤ c0 := HC0.out
          have hC69 : Kd.C k36 _ A0 l0.length l0 := HR0.out
          have q069 : (0 : Int) ≤ (x8_4 : Int) := of_decide_eq_true aS
          have hcut69 := cut_from (P := Try.prog) 25 36 .i64 Try.underlying25 hi069 2 hsz69 A0 l0.length c0 x8_4 q069 q69
          have hr69 := Kd.C_drop (m := (x8_4 : Int).toNat) (c := c0) hC69 (by omega) hroom69
          obtain ⟨A69, hA69⟩ : ∃ Az_, Az_ = (if c0 = (x8_4 : Int).toNat then A0 else (A0 : Option Addr).map (·.add ((x8_4 : Int).toNat * 2))) := ⟨_, rfl⟩
          obtain ⟨c69, hc69⟩ : ∃ cz_, cz_ = c0 - (x8_4 : Int).toNat := ⟨_, rfl⟩
          have hy69 : y232.length = l0.length - (x8_4 : Int).toNat := (by rw [Ny232.out, List.length_drop] <;> omega)
          rw [show (l0).drop (x8_4 : Int).toNat = y232 from Ny232.out.symm] at hr69
          replace hr69 : Kd.C k36 _ A69 y232.length y232 := (by rw [hA69]; exact hr69)
          rw [← hy69, ← hA69, ← hc69] at hcut69
          have HR235 := Aside0.mk hr69
          have HC235 := Q0_ (show y232.length ≤ c69 from by rw [hy69, hc69]; exact Nat.sub_le_sub_right hroom69 _)
          clear hr69 hC69 hroom69 hi069 hsz69 hc69
          have KY69 := Aside0.mk hy69
          have KA69 := Aside0.mk hA69
          clear hy69 hA69
          replace q69 := eq_true q69
          have q70 : (x9_4 : Int) ≤ ((l1.length : Int) : Int) := of_decide_eq_true aS
          obtain ⟨i070, hi070, _, hsz70, _⟩ := info_parts info36
          have hroom70 : l1.length ≤ c1 := HC1.out
          have hC70 : Kd.C k36 _ A1 l1.length l1 := HR1.out
          have q070 : (0 : Int) ≤ (x9_4 : Int) := of_decide_eq_true aS
          have hcut70 := cut_from (P := Try.prog) 25 36 .i64 Try.underlying25 hi070 2 hsz70 A1 l1.length c1 x9_4 q070 q70
          have hr70 := Kd.C_drop (m := (x9_4 : Int).toNat) (c := c1) hC70 (by omega) hroom70
          obtain ⟨A70, hA70⟩ : ∃ Az_, Az_ = (if c1 = (x9_4 : Int).toNat then A1 else (A1 : Option Addr).map (·.add ((x9_4 : Int).toNat * 2))) := ⟨_, rfl⟩
          obtain ⟨c70, hc70⟩ : ∃ cz_, cz_ = c1 - (x9_4 : Int).toNat := ⟨_, rfl⟩
          have hy70 : y236.length = l1.length - (x9_4 : Int).toNat := (by rw [Ny236.out, List.length_drop] <;> omega)
          rw [show (l1).drop (x9_4 : Int).toNat = y236 from Ny236.out.symm] at hr70
          replace hr70 : Kd.C k36 _ A70 y236.length y236 := (by rw [hA70]; exact hr70)
          rw [← hy70, ← hA70, ← hc70] at hcut70
          have HR239 := Aside0.mk hr70
          have HC239 := Q0_ (show y236.length ≤ c70 from by rw [hy70, hc70]; exact Nat.sub_le_sub_right hroom70 _)
          clear hr70 hC70 hroom70 hi070 hsz70 hc70
          have KY70 := Aside0.mk hy70
          have KA70 := Aside0.mk hA70
          clear hy70 hA70
          replace q70 := eq_true q70
          refine start_ (n := 14) (S := fun w' => True) (ds := []) #[ff,ff,ff,ff,ff,ff,ff,ff,ff,ff,ff,ff,ff,ff] (by kernel_rfl) rfl rfl trivial (fun hHeld => ?_); refine with_tabW impl_EditText.tab10 impl_EditText.bits10 (fun HT_ HW_ => ?_)
          generalize wr.drew = w68 at HO_6 HO_7 HO_36 HB HR235 HR239 hHeld ⊢
          refine pQ HT_ 0 (some 43) #[tt,ff,ff,ff,ff,ff,ff,ff,ff,ff,ff,ff,ff,ff] rfl rfl ?_
          refine pQ HT_ 1 (some 44) #[tt,tt,ff,ff,ff,ff,ff,ff,ff,ff,ff,ff,ff,ff] rfl rfl ?_
          refine pQ HT_ 2 (some 45) #[tt,tt,tt,ff,ff,ff,ff,ff,ff,ff,ff,ff,ff,ff] rfl rfl ?_
          refine pQ HT_ 3 (some 46) #[tt,tt,tt,tt,ff,ff,ff,ff,ff,ff,ff,ff,ff,ff] rfl rfl ?_
          refine pQ HT_ 4 (some 47) #[tt,tt,tt,tt,tt,ff,ff,ff,ff,ff,ff,ff,ff,ff] rfl rfl ?_
          refine pQ HT_ 5 (some 48) #[tt,tt,tt,tt,tt,tt,ff,ff,ff,ff,ff,ff,ff,ff] rfl rfl ?_
          refine pQ HT_ 6 (some 49) #[tt,tt,tt,tt,tt,tt,tt,ff,ff,ff,ff,ff,ff,ff] rfl rfl ?_
          refine join_ (σ := Nat) 2 #[tt,tt,tt,tt,tt,tt,tt,tt,tt,tt,tt,tt,ff,ff] (fun s_ => [(50, .tuple #[.agg #[.int .i64 t240, .int .i64 t241, .int .i64 t242], .bool false]), (12, .pointer (some ⟨s_, 0, none⟩)), (42, .tuple #[.agg #[.int .i64 t240, .int .i64 t241, .int .i64 t242], .bool false]), (51, .agg #[.int .i64 t240, .int .i64 t241, .int .i64 t242]), (52, .bool false)]) (fun s_ w' => (Kd.R (Kd.scalar en63W en63_one) 63 w' w.heap.size (fun _ => True) (.slice (some ad231) t228.length co20) t228) ∧ (Kd.S (Kd.slice 3 (Kd.int .i64)) 46 w' w.heap.size (fun _ => True) v223 t222) ∧ (Kd.R (Kd.int .u8) 5 w' w.heap.size (fun _ => True) u7 x7_4) ∧ (w'.heap[s_]? = some (.cells #[.int .i64 0, .int .i64 0, .int .i64 0] 65 (0, 0))) ∧ (w.heap.size ≤ s_) ∧ (w.heap.size ≤ s_) ∧ (Below w.heap.size w w')) ?_ ?_
          rotate_left
          ·intro hCont
           refine two_ (i := 7) (j := 11) (Ni := some 50) (Nj := some 12) #[tt,tt,tt,tt,tt,tt,tt,tt,ff,ff,ff,ff,ff,ff] #[tt,tt,tt,tt,tt,tt,tt,ff,ff,ff,ff,tt,ff,ff] rfl rfl rfl rfl (two_of HT_.out (by kernel_rfl)) (by decide) (by decide) (fun K hK => ?_) (fun K hK => ?_)
           ·skip
            refine goes_ Try.func45 (by kernel_rfl) rfl #[en63W (rd t228 x38_4), .slice A69 y232.length c69, .slice A70 y236.length c70] (by rfl) rfl rfl hM ?_
            with_reducible refine (impl_useOf.calls k4 (rd t228 x38_4) _ _ y232 _ _ y236 t240 t241 t242 false _ ?side1 ?side2 ?side3 ?side4 A28.out).mono ?_
            (case side1 => repeat (first | exact (Kd.C_below HR235.out HB.out) | (with_reducible refine Kd.C_alloc ?_ _) | (with_reducible refine Kd.C_drewN ?_ _) | (with_reducible refine Kd.C_drew ?_)))
            (case side2 => exact HC235.out)
            (case side3 => repeat (first | exact (Kd.C_below HR239.out HB.out) | (with_reducible refine Kd.C_alloc ?_ _) | (with_reducible refine Kd.C_drewN ?_ _) | (with_reducible refine Kd.C_drew ?_)))
            (case side4 => exact HC239.out)
            rintro e w71 ⟨rfl, hb⟩
            refine ⟨_, rfl, ?_⟩
            have n0_ := Q0_ (Kd.S_below (upS HO_6) hb)
            have n1_ := Q0_ (Kd.R_below (upR HO_7) hb)
            have n2_ := Q0_ (Kd.R_below (upR HO_36) hb)
            have n3_ := Q0_ (below_step (upB HB) hb)
            clear HO_6 HO_7 HO_36 HB; revert n0_ n1_ n2_ n3_; intro HO_6 HO_7 HO_36 HB
            (try clear hb)
            (try clear hb2)
            (try clear hk)
            (try clear hi)
            refine hK.out _ _ trivial (fun hHeld => ?_)
            clear hK K
            refine norm_ (a' := ?_) ?_ ?_
            rotate_left
            ·show Act.put _ (some 50) _ = _
             simp only [Act.put, sI, s0, sS, i64_w, i32_w]
             rfl
            refine pQ HT_ 8 (some 42) #[tt,tt,tt,tt,tt,tt,tt,tt,tt,ff,ff,ff,ff,ff] rfl rfl ?_
            refine pQ HT_ 9 (some 51) #[tt,tt,tt,tt,tt,tt,tt,tt,tt,tt,ff,ff,ff,ff] rfl rfl ?_
            refine pQ HT_ 10 (some 52) #[tt,tt,tt,tt,tt,tt,tt,tt,tt,tt,tt,ff,ff,ff] rfl rfl ?_
            refine one_ (i := 11) (N := some 12) #[tt,tt,tt,tt,tt,tt,tt,tt,tt,tt,tt,tt,ff,ff] rfl rfl (one_of HT_.out (by kernel_rfl)) (by decide) (fun K hK => ?_)
            refine box_step ?hg (N := 12) ?hd (cs := #[.int .i64 0, .int .i64 0, .int .i64 0]) (t := 65) ?hr ?_; (case hd => rfl); (case hg => rfl); (case hr => first | (go_simp; done) | (go_simp; rfl))
            intro gb244 hg w72 hbox hb
            have n0_ := Q0_ (Kd.S_below (upS HO_6) hb)
            have n1_ := Q0_ (Kd.R_below (upR HO_7) hb)
            have n2_ := Q0_ (Kd.R_below (upR HO_36) hb)
            have n3_ := Q0_ (below_step (upB HB) hb)
            have n4_ := Q0_ (hbox)
            have n5_ := Q0_ ((by rw [hg]; exact (below_size (upB HB)) : w.heap.size ≤ gb244))
            have n6_ := Q0_ ((by rw [hg]; exact (below_size (upB HB)) : w.heap.size ≤ gb244))
            clear HO_6 HO_7 HO_36 HB; revert n0_ n1_ n2_ n3_ n4_ n5_ n6_; intro HO_6 HO_7 HO_36 HB BK244 GW244 GE244
            clear hb hbox hg
            refine hK.out _ _ trivial (fun hHeld => ?_)
            clear hK K
            refine norm_ (a' := ?_) ?_ ?_
            rotate_left
            ·show Act.put _ (some 12) _ = _
             simp only [Act.put, sI, s0, sS, i64_w, i32_w]
             rfl
            exact norm_ (by simp only [putAll, Act.put, sI, s0, sS]) (hCont (gb244) _ ⟨(upR HO_36), (upS HO_6), (upR HO_7), (upK BK244), GW244.out, GE244.out, upH⟩)
           ·skip
            refine box_step ?hg (N := 12) ?hd (cs := #[.int .i64 0, .int .i64 0, .int .i64 0]) (t := 65) ?hr ?_; (case hd => rfl); (case hg => rfl); (case hr => first | (go_simp; done) | (go_simp; rfl))
            intro gb244 hg w71 hbox hb
            have n0_ := Q0_ (Kd.S_below (upS HO_6) hb)
            have n1_ := Q0_ (Kd.R_below (upR HO_7) hb)
            have n2_ := Q0_ (Kd.R_below (upR HO_36) hb)
            have n3_ := Q0_ (below_step (upB HB) hb)
            have n4_ := Q0_ (hbox)
            have n5_ := Q0_ ((by rw [hg]; exact (below_size (upB HB)) : w.heap.size ≤ gb244))
            have n6_ := Q0_ ((by rw [hg]; exact (below_size (upB HB)) : w.heap.size ≤ gb244))
            clear HO_6 HO_7 HO_36 HB; revert n0_ n1_ n2_ n3_ n4_ n5_ n6_; intro HO_6 HO_7 HO_36 HB BK244 GW244 GE244
            clear hb hbox hg
            refine hK.out _ _ trivial (fun hHeld => ?_)
            clear hK K
            refine norm_ (a' := ?_) ?_ ?_
            rotate_left
            ·show Act.put _ (some 12) _ = _
             simp only [Act.put, sI, s0, sS, i64_w, i32_w]
             rfl
            refine one_ (i := 7) (N := some 50) #[tt,tt,tt,tt,tt,tt,tt,tt,ff,ff,ff,tt,ff,ff] rfl rfl (one_of HT_.out (by kernel_rfl)) (by decide) (fun K hK => ?_)
            refine goes_ Try.func45 (by kernel_rfl) rfl #[en63W (rd t228 x38_4), .slice A69 y232.length c69, .slice A70 y236.length c70] (by rfl) rfl rfl hM ?_
            with_reducible refine (impl_useOf.calls k4 (rd t228 x38_4) _ _ y232 _ _ y236 t240 t241 t242 false _ ?side1 ?side2 ?side3 ?side4 A28.out).mono ?_
            (case side1 => repeat (first | exact (Kd.C_below HR235.out HB.out) | (with_reducible refine Kd.C_alloc ?_ _) | (with_reducible refine Kd.C_drewN ?_ _) | (with_reducible refine Kd.C_drew ?_)))
            (case side2 => exact HC235.out)
            (case side3 => repeat (first | exact (Kd.C_below HR239.out HB.out) | (with_reducible refine Kd.C_alloc ?_ _) | (with_reducible refine Kd.C_drewN ?_ _) | (with_reducible refine Kd.C_drew ?_)))
            (case side4 => exact HC239.out)
            rintro e w72 ⟨rfl, hb⟩
            refine ⟨_, rfl, ?_⟩
            have n0_ := Q0_ (Kd.S_below (upS HO_6) hb)
            have n1_ := Q0_ (Kd.R_below (upR HO_7) hb)
            have n2_ := Q0_ (Kd.R_below (upR HO_36) hb)
            have n3_ := Q0_ (blk_below (upK BK244) hb)
            have n4_ := Q0_ (below_step upH hb)
            clear HO_6 HO_7 HO_36 BK244 HB; revert n0_ n1_ n2_ n3_ n4_; intro HO_6 HO_7 HO_36 BK244 HB
            (try clear hb)
            (try clear hb2)
            (try clear hk)
            (try clear hi)
            refine hK.out _ _ trivial (fun hHeld => ?_)
            clear hK K
            refine norm_ (a' := ?_) ?_ ?_
            rotate_left
            ·show Act.put _ (some 50) _ = _
             simp only [Act.put, sI, s0, sS, i64_w, i32_w]
             rfl
            refine pQ HT_ 8 (some 42) #[tt,tt,tt,tt,tt,tt,tt,tt,tt,ff,ff,tt,ff,ff] rfl rfl ?_
            refine pQ HT_ 9 (some 51) #[tt,tt,tt,tt,tt,tt,tt,tt,tt,tt,ff,tt,ff,ff] rfl rfl ?_
            refine pQ HT_ 10 (some 52) #[tt,tt,tt,tt,tt,tt,tt,tt,tt,tt,tt,tt,ff,ff] rfl rfl ?_
            exact norm_ (by simp only [putAll, Act.put, sI, s0, sS]) (hCont (gb244) _ ⟨(upR HO_36), (upS HO_6), (upR HO_7), (upK BK244), GW244.out, GE244.out, upH⟩)
          rintro gb244 w73 ⟨h0_, h1_, h2_, h3_, h4_, h5_, h6_⟩
          try dsimp only at h0_ h1_ h2_ h3_ h4_ h5_ h6_
          have n0_ := Q0_ h0_
          have n1_ := Q0_ h1_
          have n2_ := Q0_ h2_
          have n3_ := Q0_ h3_
          have n4_ := Q0_ h4_
          have n5_ := Q0_ h5_
          have n6_ := Q0_ h6_
          clear HO_6
          clear HO_7
          clear HO_36
          clear HB
          clear h0_ h1_ h2_ h3_ h4_ h5_ h6_
          have HO_36 := n0_
          have HO_6 := n1_
          have HO_7 := n2_
          have BK244 := n3_
          have GW244 := n4_
          have GE244 := n5_
          have HB := n6_
          clear n0_ n1_ n2_ n3_ n4_ n5_ n6_
          have hHeld := trivial
          refine norm_ (a' := ?_) ?_ ?_
          rotate_left
          ·simp only [putAll, Act.put, sI, s0, sS]
           rfl
          refine one_ (i := 12) (N := none) #[tt,tt,tt,tt,tt,tt,tt,tt,tt,tt,tt,tt,tt,ff] rfl rfl (one_of HT_.out (by kernel_rfl)) (by decide) (fun K hK => ?_)
          have hs74 : w73.cell? ⟨gb244, 0, none⟩ = some (.int .i64 0) := (blk_cell BK244.out 0).trans rfl
          have hfs74 := blk_frozen BK244.out 0
          have hs75 : w73.cell? ⟨gb244, 1, none⟩ = some (.int .i64 0) := (blk_cell BK244.out 1).trans rfl
          have hfs75 := blk_frozen BK244.out 1
          have hs76 : w73.cell? ⟨gb244, 2, none⟩ = some (.int .i64 0) := (blk_cell BK244.out 2).trans rfl
          have hfs76 := blk_frozen BK244.out 2
          refine skip_ (w1 := ?_) (by rfl) rfl ?_ ?_
          rotate_left
          ·go_simp
           rfl
          refine hK.out _ _ trivial (fun hHeld => ?_)
          clear hK K
          refine pQ HT_ 13 (some 13) #[tt,tt,tt,tt,tt,tt,tt,tt,tt,tt,tt,tt,tt,tt] rfl rfl ?_
          refine done_ (done_of HT_.out (by kernel_rfl)) ?_
          try go_wp2
          have n0_ : Aside0 (Kd.S (Kd.slice 3 (Kd.int .i64)) 46 (((w73.setCell ⟨gb244, 0, none⟩ (.int .i64 t240)).setCell ⟨gb244, 1, none⟩ (.int .i64 t241)).setCell ⟨gb244, 2, none⟩ (.int .i64 t242)) w.heap.size (fun _ => True) v223 t222) := ⟨by (with_reducible repeat (first | apply Kd.S_alloc | apply Kd.S_drewN | apply Kd.S_drew)); exact Kd.S_mono (Kd.S_far (p := ⟨gb244, 2, none⟩) (Kd.S_far (p := ⟨gb244, 1, none⟩) (Kd.S_far (p := ⟨gb244, 0, none⟩) (Kd.S_types HO_6.out BK244.out (by decide)) (fun _ hk => hk.2) (.int .i64 t240)) (fun _ hk => hk.2) (.int .i64 t241)) (fun _ hk => hk.2) (.int .i64 t242)) (fun _ hk => trivial)⟩
          have n1_ : Aside0 (Kd.R (Kd.int .u8) 5 (((w73.setCell ⟨gb244, 0, none⟩ (.int .i64 t240)).setCell ⟨gb244, 1, none⟩ (.int .i64 t241)).setCell ⟨gb244, 2, none⟩ (.int .i64 t242)) w.heap.size (fun _ => True) u7 x7_4) := ⟨by (with_reducible repeat (first | apply Kd.R_alloc | apply Kd.R_drewN | apply Kd.R_drew)); exact Kd.R_mono (Kd.R_far (p := ⟨gb244, 2, none⟩) (Kd.R_far (p := ⟨gb244, 1, none⟩) (Kd.R_far (p := ⟨gb244, 0, none⟩) (Kd.R_types HO_7.out BK244.out (by decide)) (fun _ hk => hk.2) (.int .i64 t240)) (fun _ hk => hk.2) (.int .i64 t241)) (fun _ hk => hk.2) (.int .i64 t242)) (fun _ hk => trivial)⟩
          have n2_ : Aside0 (Kd.R (Kd.scalar en63W en63_one) 63 (((w73.setCell ⟨gb244, 0, none⟩ (.int .i64 t240)).setCell ⟨gb244, 1, none⟩ (.int .i64 t241)).setCell ⟨gb244, 2, none⟩ (.int .i64 t242)) w.heap.size (fun _ => True) (.slice (some ad231) t228.length co20) t228) := ⟨by (with_reducible repeat (first | apply Kd.R_alloc | apply Kd.R_drewN | apply Kd.R_drew)); exact Kd.R_mono (Kd.R_far (p := ⟨gb244, 2, none⟩) (Kd.R_far (p := ⟨gb244, 1, none⟩) (Kd.R_far (p := ⟨gb244, 0, none⟩) (Kd.R_types HO_36.out BK244.out (by decide)) (fun _ hk => hk.2) (.int .i64 t240)) (fun _ hk => hk.2) (.int .i64 t241)) (fun _ hk => hk.2) (.int .i64 t242)) (fun _ hk => trivial)⟩
          have n3_ : Aside0 ((((w73.setCell ⟨gb244, 0, none⟩ (.int .i64 t240)).setCell ⟨gb244, 1, none⟩ (.int .i64 t241)).setCell ⟨gb244, 2, none⟩ (.int .i64 t242)).heap[gb244]? = some (.cells #[.int .i64 t240, .int .i64 t241, .int .i64 t242] 65 (0, 0))) := ⟨by (with_reducible repeat (first | refine blk_drewN ?_ _ | refine blk_drew ?_ | refine blk_alloc ?_ _)); refine blk_put (cs := #[.int .i64 t240, .int .i64 t241, .int .i64 0]) ?_ 2 _ rfl; (with_reducible repeat (first | refine blk_drewN ?_ _ | refine blk_drew ?_ | refine blk_alloc ?_ _)); refine blk_put (cs := #[.int .i64 t240, .int .i64 0, .int .i64 0]) ?_ 1 _ rfl; (with_reducible repeat (first | refine blk_drewN ?_ _ | refine blk_drew ?_ | refine blk_alloc ?_ _)); refine blk_put (cs := #[.int .i64 0, .int .i64 0, .int .i64 0]) ?_ 0 _ rfl; (with_reducible repeat (first | refine blk_drewN ?_ _ | refine blk_drew ?_ | refine blk_alloc ?_ _)); exact BK244.out⟩
          have n4_ : Aside0 (Below w.heap.size w (((w73.setCell ⟨gb244, 0, none⟩ (.int .i64 t240)).setCell ⟨gb244, 1, none⟩ (.int .i64 t241)).setCell ⟨gb244, 2, none⟩ (.int .i64 t242))) := ⟨by repeat (first | (with_reducible first | exact HB.out | apply below_alloc | apply pw_below_drewN | apply below_drew1 | refine below_set ?_ GE244.out) | exact HB.out)⟩
          (try clear HO_6)
          (try clear HO_7)
          (try clear HO_36)
          (try clear BK244)
          (try clear HB)
          generalize (((w73.setCell ⟨gb244, 0, none⟩ (.int .i64 t240)).setCell ⟨gb244, 1, none⟩ (.int .i64 t241)).setCell ⟨gb244, 2, none⟩ (.int .i64 t242)) = w77 at n0_ n1_ n2_ n3_ n4_ ⊢
          have HO_6 := n0_
          have HO_7 := n1_
          have HO_36 := n2_
          have BK244 := n3_
          have HB := n4_
          clear n0_ n1_ n2_ n3_ n4_
          have n0_ := Q0_ (Kd.S_drew HO_6.out)
          have n1_ := Q0_ (Kd.R_drew HO_7.out)
          have n2_ := Q0_ (Kd.R_drew HO_36.out)
          have n3_ := Q0_ (blk_drew BK244.out)
          have n4_ := Q0_ (below_drew1 HB.out)
          clear HO_6 HO_7 HO_36 BK244 HB; revert n0_ n1_ n2_ n3_ n4_; intro HO_6 HO_7 HO_36 BK244 HB
          refine start_ (n := 27) (S := fun w' => True) (ds := []) #[ff,ff,ff,ff,ff,ff,ff,ff,ff,ff,ff,ff,ff,ff,ff,ff,ff,ff,ff,ff,ff,ff,ff,ff,ff,ff,ff] (by kernel_rfl) rfl rfl trivial (fun hHeld => ?_); refine with_tabW impl_EditText.tab11 impl_EditText.bits11 (fun HT_ HW_ => ?_)
          generalize w77.drew = w78 at HO_6 HO_7 HO_36 BK244 HB hHeld ⊢
          refine pQ HT_ 0 (some 53) #[tt,ff,ff,ff,ff,ff,ff,ff,ff,ff,ff,ff,ff,ff,ff,ff,ff,ff,ff,ff,ff,ff,ff,ff,ff,ff,ff] rfl rfl ?_
          refine pQ HT_ 1 (some 54) #[tt,tt,ff,ff,ff,ff,ff,ff,ff,ff,ff,ff,ff,ff,ff,ff,ff,ff,ff,ff,ff,ff,ff,ff,ff,ff,ff] rfl rfl ?_
          refine pU HT_ 2 (some 55) #[tt,tt,tt,ff,ff,ff,ff,ff,ff,ff,ff,ff,ff,ff,ff,ff,ff,ff,ff,ff,ff,ff,ff,ff,ff,ff,ff] rfl rfl ?_
          refine pU HT_ 3 (some 56) #[tt,tt,tt,tt,ff,ff,ff,ff,ff,ff,ff,ff,ff,ff,ff,ff,ff,ff,ff,ff,ff,ff,ff,ff,ff,ff,ff] rfl rfl ?_
          refine pU HT_ 4 (some 57) #[tt,tt,tt,tt,tt,ff,ff,ff,ff,ff,ff,ff,ff,ff,ff,ff,ff,ff,ff,ff,ff,ff,ff,ff,ff,ff,ff] rfl rfl ?_
          refine pU HT_ 5 (some 58) #[tt,tt,tt,tt,tt,tt,ff,ff,ff,ff,ff,ff,ff,ff,ff,ff,ff,ff,ff,ff,ff,ff,ff,ff,ff,ff,ff] rfl rfl ?_
          refine pU HT_ 6 (some 59) #[tt,tt,tt,tt,tt,tt,tt,ff,ff,ff,ff,ff,ff,ff,ff,ff,ff,ff,ff,ff,ff,ff,ff,ff,ff,ff,ff] rfl rfl ?_
          refine pU HT_ 7 (some 60) #[tt,tt,tt,tt,tt,tt,tt,tt,ff,ff,ff,ff,ff,ff,ff,ff,ff,ff,ff,ff,ff,ff,ff,ff,ff,ff,ff] rfl rfl ?_
          refine pU HT_ 8 (some 61) #[tt,tt,tt,tt,tt,tt,tt,tt,tt,ff,ff,ff,ff,ff,ff,ff,ff,ff,ff,ff,ff,ff,ff,ff,ff,ff,ff] rfl rfl ?_
          refine pU HT_ 9 (some 62) #[tt,tt,tt,tt,tt,tt,tt,tt,tt,tt,ff,ff,ff,ff,ff,ff,ff,ff,ff,ff,ff,ff,ff,ff,ff,ff,ff] rfl rfl ?_
          refine pU HT_ 10 (some 63) #[tt,tt,tt,tt,tt,tt,tt,tt,tt,tt,tt,ff,ff,ff,ff,ff,ff,ff,ff,ff,ff,ff,ff,ff,ff,ff,ff] rfl rfl ?_
          refine pU HT_ 11 (some 64) #[tt,tt,tt,tt,tt,tt,tt,tt,tt,tt,tt,tt,ff,ff,ff,ff,ff,ff,ff,ff,ff,ff,ff,ff,ff,ff,ff] rfl rfl ?_
          refine pU HT_ 12 (some 65) #[tt,tt,tt,tt,tt,tt,tt,tt,tt,tt,tt,tt,tt,ff,ff,ff,ff,ff,ff,ff,ff,ff,ff,ff,ff,ff,ff] rfl rfl ?_
          refine pU HT_ 13 (some 66) #[tt,tt,tt,tt,tt,tt,tt,tt,tt,tt,tt,tt,tt,tt,ff,ff,ff,ff,ff,ff,ff,ff,ff,ff,ff,ff,ff] rfl rfl ?_
          refine pU HT_ 14 (some 67) #[tt,tt,tt,tt,tt,tt,tt,tt,tt,tt,tt,tt,tt,tt,tt,ff,ff,ff,ff,ff,ff,ff,ff,ff,ff,ff,ff] rfl rfl ?_
          refine pU HT_ 15 (some 68) #[tt,tt,tt,tt,tt,tt,tt,tt,tt,tt,tt,tt,tt,tt,tt,tt,ff,ff,ff,ff,ff,ff,ff,ff,ff,ff,ff] rfl rfl ?_
          refine pU HT_ 16 (some 69) #[tt,tt,tt,tt,tt,tt,tt,tt,tt,tt,tt,tt,tt,tt,tt,tt,tt,ff,ff,ff,ff,ff,ff,ff,ff,ff,ff] rfl rfl ?_
          refine pU HT_ 17 (some 70) #[tt,tt,tt,tt,tt,tt,tt,tt,tt,tt,tt,tt,tt,tt,tt,tt,tt,tt,ff,ff,ff,ff,ff,ff,ff,ff,ff] rfl rfl ?_
          refine pU HT_ 18 (some 71) #[tt,tt,tt,tt,tt,tt,tt,tt,tt,tt,tt,tt,tt,tt,tt,tt,tt,tt,tt,ff,ff,ff,ff,ff,ff,ff,ff] rfl rfl ?_
          refine pU HT_ 19 (some 72) #[tt,tt,tt,tt,tt,tt,tt,tt,tt,tt,tt,tt,tt,tt,tt,tt,tt,tt,tt,tt,ff,ff,ff,ff,ff,ff,ff] rfl rfl ?_
          refine pU HT_ 20 (some 73) #[tt,tt,tt,tt,tt,tt,tt,tt,tt,tt,tt,tt,tt,tt,tt,tt,tt,tt,tt,tt,tt,ff,ff,ff,ff,ff,ff] rfl rfl ?_
          refine pU HT_ 21 (some 74) #[tt,tt,tt,tt,tt,tt,tt,tt,tt,tt,tt,tt,tt,tt,tt,tt,tt,tt,tt,tt,tt,tt,ff,ff,ff,ff,ff] rfl rfl ?_
          refine pU HT_ 22 (some 75) #[tt,tt,tt,tt,tt,tt,tt,tt,tt,tt,tt,tt,tt,tt,tt,tt,tt,tt,tt,tt,tt,tt,tt,ff,ff,ff,ff] rfl rfl ?_
          refine pU HT_ 23 (some 76) #[tt,tt,tt,tt,tt,tt,tt,tt,tt,tt,tt,tt,tt,tt,tt,tt,tt,tt,tt,tt,tt,tt,tt,tt,ff,ff,ff] rfl rfl ?_
          refine pU HT_ 24 (some 77) #[tt,tt,tt,tt,tt,tt,tt,tt,tt,tt,tt,tt,tt,tt,tt,tt,tt,tt,tt,tt,tt,tt,tt,tt,tt,ff,ff] rfl rfl ?_
          refine pU HT_ 25 (some 78) #[tt,tt,tt,tt,tt,tt,tt,tt,tt,tt,tt,tt,tt,tt,tt,tt,tt,tt,tt,tt,tt,tt,tt,tt,tt,tt,ff] rfl rfl ?_
          refine pQ HT_ 26 (some 79) #[tt,tt,tt,tt,tt,tt,tt,tt,tt,tt,tt,tt,tt,tt,tt,tt,tt,tt,tt,tt,tt,tt,tt,tt,tt,tt,tt] rfl rfl ?_
          refine done_ (done_of HT_.out (by kernel_rfl)) ?_
          try go_wp2
          go_roundg k4
          case measure => have := HJ2.out; have := HK2.out; have := HJ14.out; have := HK4.out; omega
          case rel => exact ⟨(x7_4), (x8_4), (x9_4), (wrap64 (x38_4 + 1)), eX, eX, eX, H', ⟨by have := HJ2.out; have := HK2.out; have := HJ14.out; have := HK4.out; omega⟩, ⟨by (with_reducible repeat (first | apply Kd.S_alloc | apply Kd.S_drewN | apply Kd.S_drew)); exact HO_6.out⟩, ⟨by (with_reducible repeat (first | apply Kd.R_alloc | apply Kd.R_drewN | apply Kd.R_drew)); exact HO_7.out⟩, ⟨by (with_reducible repeat (first | apply Kd.R_alloc | apply Kd.R_drewN | apply Kd.R_drew)); exact HO_36.out⟩, ⟨by repeat (first | (with_reducible first | exact HB.out | apply below_alloc | apply pw_below_drewN | apply below_drew1 | refine below_set ?_ GE244.out) | exact HB.out)⟩⟩
         subst c29
         replace H := ifP (rfl) H
         obtain ⟨ji30, hji30⟩ : ∃ j_ : Int, (wrap64 (x8_4 + t240)) = j_ := ⟨_, rfl⟩
         replace H : (if 0 ≤ (ji30) then (if (ji30) < (t222.length : Int) then (if 0 ≤ (wrap64 (x9_4 + t241)) then (if (wrap64 (x9_4 + t241)) < ((rd_L4 t222 (ji30)).length : Int) then (if x8_4 < (t222.length : Int) then (if x9_4 < ((rd_L4 t222 x8_4).length : Int) then (if (wrap64 (t242 + (rd (rd_L4 t222 (ji30)) (wrap64 (x9_4 + t241))))) = (rd (rd_L4 t222 x8_4) x9_4) then ((en63_letter.f (rd t228 x38_4)).bind fun t249 => (if x7_4.length < 140737488355328 then (impl_EditText.l0 k4 l0 l1 t222 (x7_4 ++ [t249]) ji30 (wrap64 (x9_4 + t241))) else (none))) else (impl_EditText.l1 k4 l0 l1 t222 x7_4 x8_4 x9_4 t228 (t228.length : Int) (wrap64 (x38_4 + 1)))) else (none)) else (none)) else (none)) else (none)) else (none)) else (none)) = some (r1, r2) := by first | (rw [hji30] at H; exact H) | (simp only [hji30] at H ⊢; exact H)
         (try rw [hji30] at A28)
         have hji30w : (IntKind.i64.wrap (x8_4 + t240)) = ji30 := (i64_w _).trans hji30
         by_cases c31 : 0 ≤ (ji30)
         rotate_left
         ·rw [if_neg c31] at H
          exact absurd H (by simp)
         rw [if_pos c31] at H
         have c31b0 : decide (0 ≤ (ji30)) = true := decide_eq_true c31
         clear c31
         by_cases c32 : (ji30) < (t222.length : Int)
         rotate_left
         ·rw [if_neg c32] at H
          exact absurd H (by simp)
         rw [if_pos c32] at H
         have c32b0 : decide ((ji30) < (t222.length : Int)) = true := decide_eq_true c32
         clear c32
         obtain ⟨ji33, hji33⟩ : ∃ j_ : Int, (wrap64 (x9_4 + t241)) = j_ := ⟨_, rfl⟩
         replace H : (if 0 ≤ (ji33) then (if (ji33) < ((rd_L4 t222 (ji30)).length : Int) then (if x8_4 < (t222.length : Int) then (if x9_4 < ((rd_L4 t222 x8_4).length : Int) then (if (wrap64 (t242 + (rd (rd_L4 t222 (ji30)) (ji33)))) = (rd (rd_L4 t222 x8_4) x9_4) then ((en63_letter.f (rd t228 x38_4)).bind fun t249 => (if x7_4.length < 140737488355328 then (impl_EditText.l0 k4 l0 l1 t222 (x7_4 ++ [t249]) ji30 ji33) else (none))) else (impl_EditText.l1 k4 l0 l1 t222 x7_4 x8_4 x9_4 t228 (t228.length : Int) (wrap64 (x38_4 + 1)))) else (none)) else (none)) else (none)) else (none)) = some (r1, r2) := by first | (rw [hji33] at H; exact H) | (simp only [hji33] at H ⊢; exact H)
         (try rw [hji33] at A28)
         have hji33w : (IntKind.i64.wrap (x9_4 + t241)) = ji33 := (i64_w _).trans hji33
         by_cases c34 : 0 ≤ (ji33)
         rotate_left
         ·rw [if_neg c34] at H
          exact absurd H (by simp)
         rw [if_pos c34] at H
         have c34b0 : decide (0 ≤ (ji33)) = true := decide_eq_true c34
         clear c34
         by_cases c35 : (ji33) < ((rd_L4 t222 (ji30)).length : Int)
         rotate_left
         ·rw [if_neg c35] at H
          exact absurd H (by simp)
         rw [if_pos c35] at H
         have c35b0 : decide ((ji33) < ((rd_L4 t222 (ji30)).length : Int)) = true := decide_eq_true c35
         clear c35
         by_cases c36 : x8_4 < (t222.length : Int)
         rotate_left
         ·rw [if_neg c36] at H
          exact absurd H (by simp)
         rw [if_pos c36] at H
         have c36b0 : decide (x8_4 < (t222.length : Int)) = true := decide_eq_true c36
         clear c36
         by_cases c37 : x9_4 < ((rd_L4 t222 x8_4).length : Int)
         rotate_left
         ·rw [if_neg c37] at H
          exact absurd H (by simp)
         rw [if_pos c37] at H
         have c37b0 : decide (x9_4 < ((rd_L4 t222 x8_4).length : Int)) = true := decide_eq_true c37
         clear c37
         by_cases c38 : (wrap64 (t242 + (rd (rd_L4 t222 (ji30)) (ji33)))) = (rd (rd_L4 t222 x8_4) x9_4)
         rotate_left
         ·rw [if_neg c38] at H
          have c38b0 : ((wrap64 (t242 + (rd (rd_L4 t222 (ji30)) (ji33)))) == (rd (rd_L4 t222 x8_4) x9_4)) = false := beq_eq_false_iff_ne.mpr c38
          have c38b1 : ((wrap64 (t242 + (rd (rd_L4 t222 (ji30)) (ji33)))) != (rd (rd_L4 t222 x8_4) x9_4)) = true := bne_iff_ne.mpr c38
          have H' := Aside0.mk H
          clear H
          have p231 : 0 ≤ (x38_4 : Int) := of_decide_eq_true aS
          have q231 : x38_4 < (t228.length : Int) := of_decide_eq_true aS
          obtain ⟨ad231, e231, hx231_0⟩ := at_en63 (Kd.R_reads' HO_36.out).2.2 x38_4 p231 q231
          cases e231
          replace p231 := eq_true p231
          replace q231 := eq_true q231
          try go_wp2
          have n0_ := Q0_ (Kd.S_drew HO_6.out)
          have n1_ := Q0_ (Kd.R_drew HO_7.out)
          have n2_ := Q0_ (Kd.R_drew HO_36.out)
          have n3_ := Q0_ (below_drew1 HB.out)
          clear HO_6 HO_7 HO_36 HB; revert n0_ n1_ n2_ n3_; intro HO_6 HO_7 HO_36 HB
          have q57 : (x8_4 : Int) ≤ ((l0.length : Int) : Int) := of_decide_eq_true aS
          obtain ⟨i057, hi057, _, hsz57, _⟩ := info_parts info36
          have hroom57 : l0.length ≤ c0 := HC0.out
          have hC57 : Kd.C k36 _ A0 l0.length l0 := HR0.out
          have q057 : (0 : Int) ≤ (x8_4 : Int) := of_decide_eq_true aS
          have hcut57 := cut_from (P := Try.prog) 25 36 .i64 Try.underlying25 hi057 2 hsz57 A0 l0.length c0 x8_4 q057 q57
          have hr57 := Kd.C_drop (m := (x8_4 : Int).toNat) (c := c0) hC57 (by omega) hroom57
          obtain ⟨A57, hA57⟩ : ∃ Az_, Az_ = (if c0 = (x8_4 : Int).toNat then A0 else (A0 : Option Addr).map (·.add ((x8_4 : Int).toNat * 2))) := ⟨_, rfl⟩
          obtain ⟨c57, hc57⟩ : ∃ cz_, cz_ = c0 - (x8_4 : Int).toNat := ⟨_, rfl⟩
          have hy57 : y232.length = l0.length - (x8_4 : Int).toNat := (by rw [Ny232.out, List.length_drop] <;> omega)
          rw [show (l0).drop (x8_4 : Int).toNat = y232 from Ny232.out.symm] at hr57
          replace hr57 : Kd.C k36 _ A57 y232.length y232 := (by rw [hA57]; exact hr57)
          rw [← hy57, ← hA57, ← hc57] at hcut57
          have HR235 := Aside0.mk hr57
          have HC235 := Q0_ (show y232.length ≤ c57 from by rw [hy57, hc57]; exact Nat.sub_le_sub_right hroom57 _)
          clear hr57 hC57 hroom57 hi057 hsz57 hc57
          have KY57 := Aside0.mk hy57
          have KA57 := Aside0.mk hA57
          clear hy57 hA57
          replace q57 := eq_true q57
          have q58 : (x9_4 : Int) ≤ ((l1.length : Int) : Int) := of_decide_eq_true aS
          obtain ⟨i058, hi058, _, hsz58, _⟩ := info_parts info36
          have hroom58 : l1.length ≤ c1 := HC1.out
          have hC58 : Kd.C k36 _ A1 l1.length l1 := HR1.out
          have q058 : (0 : Int) ≤ (x9_4 : Int) := of_decide_eq_true aS
          have hcut58 := cut_from (P := Try.prog) 25 36 .i64 Try.underlying25 hi058 2 hsz58 A1 l1.length c1 x9_4 q058 q58
          have hr58 := Kd.C_drop (m := (x9_4 : Int).toNat) (c := c1) hC58 (by omega) hroom58
          obtain ⟨A58, hA58⟩ : ∃ Az_, Az_ = (if c1 = (x9_4 : Int).toNat then A1 else (A1 : Option Addr).map (·.add ((x9_4 : Int).toNat * 2))) := ⟨_, rfl⟩
          obtain ⟨c58, hc58⟩ : ∃ cz_, cz_ = c1 - (x9_4 : Int).toNat := ⟨_, rfl⟩
          have hy58 : y236.length = l1.length - (x9_4 : Int).toNat := (by rw [Ny236.out, List.length_drop] <;> omega)
          rw [show (l1).drop (x9_4 : Int).toNat = y236 from Ny236.out.symm] at hr58
          replace hr58 : Kd.C k36 _ A58 y236.length y236 := (by rw [hA58]; exact hr58)
          rw [← hy58, ← hA58, ← hc58] at hcut58
          have HR239 := Aside0.mk hr58
          have HC239 := Q0_ (show y236.length ≤ c58 from by rw [hy58, hc58]; exact Nat.sub_le_sub_right hroom58 _)
          clear hr58 hC58 hroom58 hi058 hsz58 hc58
          have KY58 := Aside0.mk hy58
          have KA58 := Aside0.mk hA58
          clear hy58 hA58
          replace q58 := eq_true q58
          refine start_ (n := 14) (S := fun w' => True) (ds := []) #[ff,ff,ff,ff,ff,ff,ff,ff,ff,ff,ff,ff,ff,ff] (by kernel_rfl) rfl rfl trivial (fun hHeld => ?_); refine with_tabW impl_EditText.tab10 impl_EditText.bits10 (fun HT_ HW_ => ?_)
          generalize wr.drew = w56 at HO_6 HO_7 HO_36 HB HR235 HR239 hHeld ⊢
          refine pQ HT_ 0 (some 43) #[tt,ff,ff,ff,ff,ff,ff,ff,ff,ff,ff,ff,ff,ff] rfl rfl ?_
          refine pQ HT_ 1 (some 44) #[tt,tt,ff,ff,ff,ff,ff,ff,ff,ff,ff,ff,ff,ff] rfl rfl ?_
          refine pQ HT_ 2 (some 45) #[tt,tt,tt,ff,ff,ff,ff,ff,ff,ff,ff,ff,ff,ff] rfl rfl ?_
          refine pQ HT_ 3 (some 46) #[tt,tt,tt,tt,ff,ff,ff,ff,ff,ff,ff,ff,ff,ff] rfl rfl ?_
          refine pQ HT_ 4 (some 47) #[tt,tt,tt,tt,tt,ff,ff,ff,ff,ff,ff,ff,ff,ff] rfl rfl ?_
          refine pQ HT_ 5 (some 48) #[tt,tt,tt,tt,tt,tt,ff,ff,ff,ff,ff,ff,ff,ff] rfl rfl ?_
          refine pQ HT_ 6 (some 49) #[tt,tt,tt,tt,tt,tt,tt,ff,ff,ff,ff,ff,ff,ff] rfl rfl ?_
          refine join_ (σ := Nat) 2 #[tt,tt,tt,tt,tt,tt,tt,tt,tt,tt,tt,tt,ff,ff] (fun s_ => [(50, .tuple #[.agg #[.int .i64 t240, .int .i64 t241, .int .i64 t242], .bool true]), (12, .pointer (some ⟨s_, 0, none⟩)), (42, .tuple #[.agg #[.int .i64 t240, .int .i64 t241, .int .i64 t242], .bool true]), (51, .agg #[.int .i64 t240, .int .i64 t241, .int .i64 t242]), (52, .bool true)]) (fun s_ w' => (Kd.R (Kd.scalar en63W en63_one) 63 w' w.heap.size (fun _ => True) (.slice (some ad231) t228.length co20) t228) ∧ (Kd.S (Kd.slice 3 (Kd.int .i64)) 46 w' w.heap.size (fun _ => True) v223 t222) ∧ (Kd.R (Kd.int .u8) 5 w' w.heap.size (fun _ => True) u7 x7_4) ∧ (w'.heap[s_]? = some (.cells #[.int .i64 0, .int .i64 0, .int .i64 0] 65 (0, 0))) ∧ (w.heap.size ≤ s_) ∧ (w.heap.size ≤ s_) ∧ (Below w.heap.size w w')) ?_ ?_
          rotate_left
          ·intro hCont
           refine two_ (i := 7) (j := 11) (Ni := some 50) (Nj := some 12) #[tt,tt,tt,tt,tt,tt,tt,tt,ff,ff,ff,ff,ff,ff] #[tt,tt,tt,tt,tt,tt,tt,ff,ff,ff,ff,tt,ff,ff] rfl rfl rfl rfl (two_of HT_.out (by kernel_rfl)) (by decide) (by decide) (fun K hK => ?_) (fun K hK => ?_)
           ·skip
            refine goes_ Try.func45 (by kernel_rfl) rfl #[en63W (rd t228 x38_4), .slice A57 y232.length c57, .slice A58 y236.length c58] (by rfl) rfl rfl hM ?_
            with_reducible refine (impl_useOf.calls k4 (rd t228 x38_4) _ _ y232 _ _ y236 t240 t241 t242 true _ ?side1 ?side2 ?side3 ?side4 A28.out).mono ?_
            (case side1 => repeat (first | exact (Kd.C_below HR235.out HB.out) | (with_reducible refine Kd.C_alloc ?_ _) | (with_reducible refine Kd.C_drewN ?_ _) | (with_reducible refine Kd.C_drew ?_)))
            (case side2 => exact HC235.out)
            (case side3 => repeat (first | exact (Kd.C_below HR239.out HB.out) | (with_reducible refine Kd.C_alloc ?_ _) | (with_reducible refine Kd.C_drewN ?_ _) | (with_reducible refine Kd.C_drew ?_)))
            (case side4 => exact HC239.out)
            rintro e w59 ⟨rfl, hb⟩
            refine ⟨_, rfl, ?_⟩
            have n0_ := Q0_ (Kd.S_below (upS HO_6) hb)
            have n1_ := Q0_ (Kd.R_below (upR HO_7) hb)
            have n2_ := Q0_ (Kd.R_below (upR HO_36) hb)
            have n3_ := Q0_ (below_step (upB HB) hb)
            clear HO_6 HO_7 HO_36 HB; revert n0_ n1_ n2_ n3_; intro HO_6 HO_7 HO_36 HB
            (try clear hb)
            (try clear hb2)
            (try clear hk)
            (try clear hi)
            refine hK.out _ _ trivial (fun hHeld => ?_)
            clear hK K
            refine norm_ (a' := ?_) ?_ ?_
            rotate_left
            ·show Act.put _ (some 50) _ = _
             simp only [Act.put, sI, s0, sS, i64_w, i32_w]
             rfl
            refine pQ HT_ 8 (some 42) #[tt,tt,tt,tt,tt,tt,tt,tt,tt,ff,ff,ff,ff,ff] rfl rfl ?_
            refine pQ HT_ 9 (some 51) #[tt,tt,tt,tt,tt,tt,tt,tt,tt,tt,ff,ff,ff,ff] rfl rfl ?_
            refine pQ HT_ 10 (some 52) #[tt,tt,tt,tt,tt,tt,tt,tt,tt,tt,tt,ff,ff,ff] rfl rfl ?_
            refine one_ (i := 11) (N := some 12) #[tt,tt,tt,tt,tt,tt,tt,tt,tt,tt,tt,tt,ff,ff] rfl rfl (one_of HT_.out (by kernel_rfl)) (by decide) (fun K hK => ?_)
            refine box_step ?hg (N := 12) ?hd (cs := #[.int .i64 0, .int .i64 0, .int .i64 0]) (t := 65) ?hr ?_; (case hd => rfl); (case hg => rfl); (case hr => first | (go_simp; done) | (go_simp; rfl))
            intro gb244 hg w60 hbox hb
            have n0_ := Q0_ (Kd.S_below (upS HO_6) hb)
            have n1_ := Q0_ (Kd.R_below (upR HO_7) hb)
            have n2_ := Q0_ (Kd.R_below (upR HO_36) hb)
            have n3_ := Q0_ (below_step (upB HB) hb)
            have n4_ := Q0_ (hbox)
            have n5_ := Q0_ ((by rw [hg]; exact (below_size (upB HB)) : w.heap.size ≤ gb244))
            have n6_ := Q0_ ((by rw [hg]; exact (below_size (upB HB)) : w.heap.size ≤ gb244))
            clear HO_6 HO_7 HO_36 HB; revert n0_ n1_ n2_ n3_ n4_ n5_ n6_; intro HO_6 HO_7 HO_36 HB BK244 GW244 GE244
            clear hb hbox hg
            refine hK.out _ _ trivial (fun hHeld => ?_)
            clear hK K
            refine norm_ (a' := ?_) ?_ ?_
            rotate_left
            ·show Act.put _ (some 12) _ = _
             simp only [Act.put, sI, s0, sS, i64_w, i32_w]
             rfl
            exact norm_ (by simp only [putAll, Act.put, sI, s0, sS]) (hCont (gb244) _ ⟨(upR HO_36), (upS HO_6), (upR HO_7), (upK BK244), GW244.out, GE244.out, upH⟩)
           ·skip
            refine box_step ?hg (N := 12) ?hd (cs := #[.int .i64 0, .int .i64 0, .int .i64 0]) (t := 65) ?hr ?_; (case hd => rfl); (case hg => rfl); (case hr => first | (go_simp; done) | (go_simp; rfl))
            intro gb244 hg w59 hbox hb
            have n0_ := Q0_ (Kd.S_below (upS HO_6) hb)
            have n1_ := Q0_ (Kd.R_below (upR HO_7) hb)
            have n2_ := Q0_ (Kd.R_below (upR HO_36) hb)
            have n3_ := Q0_ (below_step (upB HB) hb)
            have n4_ := Q0_ (hbox)
            have n5_ := Q0_ ((by rw [hg]; exact (below_size (upB HB)) : w.heap.size ≤ gb244))
            have n6_ := Q0_ ((by rw [hg]; exact (below_size (upB HB)) : w.heap.size ≤ gb244))
            clear HO_6 HO_7 HO_36 HB; revert n0_ n1_ n2_ n3_ n4_ n5_ n6_; intro HO_6 HO_7 HO_36 HB BK244 GW244 GE244
            clear hb hbox hg
            refine hK.out _ _ trivial (fun hHeld => ?_)
            clear hK K
            refine norm_ (a' := ?_) ?_ ?_
            rotate_left
            ·show Act.put _ (some 12) _ = _
             simp only [Act.put, sI, s0, sS, i64_w, i32_w]
             rfl
            refine one_ (i := 7) (N := some 50) #[tt,tt,tt,tt,tt,tt,tt,tt,ff,ff,ff,tt,ff,ff] rfl rfl (one_of HT_.out (by kernel_rfl)) (by decide) (fun K hK => ?_)
            refine goes_ Try.func45 (by kernel_rfl) rfl #[en63W (rd t228 x38_4), .slice A57 y232.length c57, .slice A58 y236.length c58] (by rfl) rfl rfl hM ?_
            with_reducible refine (impl_useOf.calls k4 (rd t228 x38_4) _ _ y232 _ _ y236 t240 t241 t242 true _ ?side1 ?side2 ?side3 ?side4 A28.out).mono ?_
            (case side1 => repeat (first | exact (Kd.C_below HR235.out HB.out) | (with_reducible refine Kd.C_alloc ?_ _) | (with_reducible refine Kd.C_drewN ?_ _) | (with_reducible refine Kd.C_drew ?_)))
            (case side2 => exact HC235.out)
            (case side3 => repeat (first | exact (Kd.C_below HR239.out HB.out) | (with_reducible refine Kd.C_alloc ?_ _) | (with_reducible refine Kd.C_drewN ?_ _) | (with_reducible refine Kd.C_drew ?_)))
            (case side4 => exact HC239.out)
            rintro e w60 ⟨rfl, hb⟩
            refine ⟨_, rfl, ?_⟩
            have n0_ := Q0_ (Kd.S_below (upS HO_6) hb)
            have n1_ := Q0_ (Kd.R_below (upR HO_7) hb)
            have n2_ := Q0_ (Kd.R_below (upR HO_36) hb)
            have n3_ := Q0_ (blk_below (upK BK244) hb)
            have n4_ := Q0_ (below_step upH hb)
            clear HO_6 HO_7 HO_36 BK244 HB; revert n0_ n1_ n2_ n3_ n4_; intro HO_6 HO_7 HO_36 BK244 HB
            (try clear hb)
            (try clear hb2)
            (try clear hk)
            (try clear hi)
            refine hK.out _ _ trivial (fun hHeld => ?_)
            clear hK K
            refine norm_ (a' := ?_) ?_ ?_
            rotate_left
            ·show Act.put _ (some 50) _ = _
             simp only [Act.put, sI, s0, sS, i64_w, i32_w]
             rfl
            refine pQ HT_ 8 (some 42) #[tt,tt,tt,tt,tt,tt,tt,tt,tt,ff,ff,tt,ff,ff] rfl rfl ?_
            refine pQ HT_ 9 (some 51) #[tt,tt,tt,tt,tt,tt,tt,tt,tt,tt,ff,tt,ff,ff] rfl rfl ?_
            refine pQ HT_ 10 (some 52) #[tt,tt,tt,tt,tt,tt,tt,tt,tt,tt,tt,tt,ff,ff] rfl rfl ?_
            exact norm_ (by simp only [putAll, Act.put, sI, s0, sS]) (hCont (gb244) _ ⟨(upR HO_36), (upS HO_6), (upR HO_7), (upK BK244), GW244.out, GE244.out, upH⟩)
          rintro gb244 w61 ⟨h0_, h1_, h2_, h3_, h4_, h5_, h6_⟩
          try dsimp only at h0_ h1_ h2_ h3_ h4_ h5_ h6_
          have n0_ := Q0_ h0_
          have n1_ := Q0_ h1_
          have n2_ := Q0_ h2_
          have n3_ := Q0_ h3_
          have n4_ := Q0_ h4_
          have n5_ := Q0_ h5_
          have n6_ := Q0_ h6_
          clear HO_6
          clear HO_7
          clear HO_36
          clear HB
          clear h0_ h1_ h2_ h3_ h4_ h5_ h6_
          have HO_36 := n0_
          have HO_6 := n1_
          have HO_7 := n2_
          have BK244 := n3_
          have GW244 := n4_
          have GE244 := n5_
          have HB := n6_
          clear n0_ n1_ n2_ n3_ n4_ n5_ n6_
          have hHeld := trivial
          refine norm_ (a' := ?_) ?_ ?_
          rotate_left
          ·simp only [putAll, Act.put, sI, s0, sS]
           rfl
          refine one_ (i := 12) (N := none) #[tt,tt,tt,tt,tt,tt,tt,tt,tt,tt,tt,tt,tt,ff] rfl rfl (one_of HT_.out (by kernel_rfl)) (by decide) (fun K hK => ?_)
          have hs62 : w61.cell? ⟨gb244, 0, none⟩ = some (.int .i64 0) := (blk_cell BK244.out 0).trans rfl
          have hfs62 := blk_frozen BK244.out 0
          have hs63 : w61.cell? ⟨gb244, 1, none⟩ = some (.int .i64 0) := (blk_cell BK244.out 1).trans rfl
          have hfs63 := blk_frozen BK244.out 1
          have hs64 : w61.cell? ⟨gb244, 2, none⟩ = some (.int .i64 0) := (blk_cell BK244.out 2).trans rfl
          have hfs64 := blk_frozen BK244.out 2
          refine skip_ (w1 := ?_) (by rfl) rfl ?_ ?_
          rotate_left
          ·go_simp
           rfl
          refine hK.out _ _ trivial (fun hHeld => ?_)
          clear hK K
          refine pQ HT_ 13 (some 13) #[tt,tt,tt,tt,tt,tt,tt,tt,tt,tt,tt,tt,tt,tt] rfl rfl ?_
          refine done_ (done_of HT_.out (by kernel_rfl)) ?_
          try go_wp2
          have n0_ : Aside0 (Kd.S (Kd.slice 3 (Kd.int .i64)) 46 (((w61.setCell ⟨gb244, 0, none⟩ (.int .i64 t240)).setCell ⟨gb244, 1, none⟩ (.int .i64 t241)).setCell ⟨gb244, 2, none⟩ (.int .i64 t242)) w.heap.size (fun _ => True) v223 t222) := ⟨by (with_reducible repeat (first | apply Kd.S_alloc | apply Kd.S_drewN | apply Kd.S_drew)); exact Kd.S_mono (Kd.S_far (p := ⟨gb244, 2, none⟩) (Kd.S_far (p := ⟨gb244, 1, none⟩) (Kd.S_far (p := ⟨gb244, 0, none⟩) (Kd.S_types HO_6.out BK244.out (by decide)) (fun _ hk => hk.2) (.int .i64 t240)) (fun _ hk => hk.2) (.int .i64 t241)) (fun _ hk => hk.2) (.int .i64 t242)) (fun _ hk => trivial)⟩
          have n1_ : Aside0 (Kd.R (Kd.int .u8) 5 (((w61.setCell ⟨gb244, 0, none⟩ (.int .i64 t240)).setCell ⟨gb244, 1, none⟩ (.int .i64 t241)).setCell ⟨gb244, 2, none⟩ (.int .i64 t242)) w.heap.size (fun _ => True) u7 x7_4) := ⟨by (with_reducible repeat (first | apply Kd.R_alloc | apply Kd.R_drewN | apply Kd.R_drew)); exact Kd.R_mono (Kd.R_far (p := ⟨gb244, 2, none⟩) (Kd.R_far (p := ⟨gb244, 1, none⟩) (Kd.R_far (p := ⟨gb244, 0, none⟩) (Kd.R_types HO_7.out BK244.out (by decide)) (fun _ hk => hk.2) (.int .i64 t240)) (fun _ hk => hk.2) (.int .i64 t241)) (fun _ hk => hk.2) (.int .i64 t242)) (fun _ hk => trivial)⟩
          have n2_ : Aside0 (Kd.R (Kd.scalar en63W en63_one) 63 (((w61.setCell ⟨gb244, 0, none⟩ (.int .i64 t240)).setCell ⟨gb244, 1, none⟩ (.int .i64 t241)).setCell ⟨gb244, 2, none⟩ (.int .i64 t242)) w.heap.size (fun _ => True) (.slice (some ad231) t228.length co20) t228) := ⟨by (with_reducible repeat (first | apply Kd.R_alloc | apply Kd.R_drewN | apply Kd.R_drew)); exact Kd.R_mono (Kd.R_far (p := ⟨gb244, 2, none⟩) (Kd.R_far (p := ⟨gb244, 1, none⟩) (Kd.R_far (p := ⟨gb244, 0, none⟩) (Kd.R_types HO_36.out BK244.out (by decide)) (fun _ hk => hk.2) (.int .i64 t240)) (fun _ hk => hk.2) (.int .i64 t241)) (fun _ hk => hk.2) (.int .i64 t242)) (fun _ hk => trivial)⟩
          have n3_ : Aside0 ((((w61.setCell ⟨gb244, 0, none⟩ (.int .i64 t240)).setCell ⟨gb244, 1, none⟩ (.int .i64 t241)).setCell ⟨gb244, 2, none⟩ (.int .i64 t242)).heap[gb244]? = some (.cells #[.int .i64 t240, .int .i64 t241, .int .i64 t242] 65 (0, 0))) := ⟨by (with_reducible repeat (first | refine blk_drewN ?_ _ | refine blk_drew ?_ | refine blk_alloc ?_ _)); refine blk_put (cs := #[.int .i64 t240, .int .i64 t241, .int .i64 0]) ?_ 2 _ rfl; (with_reducible repeat (first | refine blk_drewN ?_ _ | refine blk_drew ?_ | refine blk_alloc ?_ _)); refine blk_put (cs := #[.int .i64 t240, .int .i64 0, .int .i64 0]) ?_ 1 _ rfl; (with_reducible repeat (first | refine blk_drewN ?_ _ | refine blk_drew ?_ | refine blk_alloc ?_ _)); refine blk_put (cs := #[.int .i64 0, .int .i64 0, .int .i64 0]) ?_ 0 _ rfl; (with_reducible repeat (first | refine blk_drewN ?_ _ | refine blk_drew ?_ | refine blk_alloc ?_ _)); exact BK244.out⟩
          have n4_ : Aside0 (Below w.heap.size w (((w61.setCell ⟨gb244, 0, none⟩ (.int .i64 t240)).setCell ⟨gb244, 1, none⟩ (.int .i64 t241)).setCell ⟨gb244, 2, none⟩ (.int .i64 t242))) := ⟨by repeat (first | (with_reducible first | exact HB.out | apply below_alloc | apply pw_below_drewN | apply below_drew1 | refine below_set ?_ GE244.out) | exact HB.out)⟩
          (try clear HO_6)
          (try clear HO_7)
          (try clear HO_36)
          (try clear BK244)
          (try clear HB)
          generalize (((w61.setCell ⟨gb244, 0, none⟩ (.int .i64 t240)).setCell ⟨gb244, 1, none⟩ (.int .i64 t241)).setCell ⟨gb244, 2, none⟩ (.int .i64 t242)) = w65 at n0_ n1_ n2_ n3_ n4_ ⊢
          have HO_6 := n0_
          have HO_7 := n1_
          have HO_36 := n2_
          have BK244 := n3_
          have HB := n4_
          clear n0_ n1_ n2_ n3_ n4_
          have n0_ := Q0_ (Kd.S_drew HO_6.out)
          have n1_ := Q0_ (Kd.R_drew HO_7.out)
          have n2_ := Q0_ (Kd.R_drew HO_36.out)
          have n3_ := Q0_ (blk_drew BK244.out)
          have n4_ := Q0_ (below_drew1 HB.out)
          clear HO_6 HO_7 HO_36 BK244 HB; revert n0_ n1_ n2_ n3_ n4_; intro HO_6 HO_7 HO_36 BK244 HB
          obtain ⟨Ao67, co67, eo67⟩ := Kd.S_slice HO_6.out
          (first | subst eo67 | (injection eo67 with f1_ f2_ f3_; have f4_ := f1_.symm; have f5_ := f3_.symm; clear f1_ f2_ f3_; subst f4_; subst f5_))
          have p245 : 0 ≤ ((ji30) : Int) := of_decide_eq_true aS
          have q245 : (ji30) < (t222.length : Int) := of_decide_eq_true aS
          obtain ⟨ad245, A245_0, c245_0, e245, hx245_0, hl245_0, hi245_0⟩ := at_L4 (Kd.S_reads' HO_6.out).2.2 (ji30) p245 q245
          cases e245
          obtain ⟨ce245, hce245, hMe245, hcc245⟩ := Kd.S_get HO_6.out [] (ji30) p245 (by first | exact q245 | exact of_decide_eq_true aS | (have e_ := (Kd.S_reads' HO_6.out).1; omega))
          obtain ⟨ve245_0, rfl, ge245_0⟩ := hMe245
          have hv245_0 := hcc245 0 _ rfl
          rw [Nat.add_zero, show ((Kd.slice 3 (Kd.int .i64))).sz = 1 from rfl, Nat.mul_one] at hv245_0
          replace hv245_0 := Option.some.inj (hv245_0.symm.trans hx245_0)
          rw [hv245_0] at ge245_0
          have HL245_0 := Q0_ (show Kd.R (Kd.int .i64) 3 _ _ _ _ (rd_L4 t222 (ji30)) from ge245_0)
          clear hv245_0 ge245_0
          clear hcc245 hce245
          have HR245_0 := Aside0.mk hi245_0
          have HC245_0 := Aside0.mk hl245_0
          clear hi245_0 hl245_0
          replace p245 := eq_true p245
          replace q245 := eq_true q245
          have p246 : 0 ≤ ((ji33) : Int) := of_decide_eq_true aS
          have q246 : (ji33) < ((rd_L4 t222 (ji30)).length : Int) := of_decide_eq_true aS
          obtain ⟨ad246, e246, hx246_0⟩ := Kd.at_int HR245_0.out (ji33) p246 q246
          cases e246
          replace p246 := eq_true p246
          replace q246 := eq_true q246
          have p247 : 0 ≤ (x8_4 : Int) := of_decide_eq_true aS
          have q247 : x8_4 < (t222.length : Int) := of_decide_eq_true aS
          obtain ⟨ad247, A247_0, c247_0, e247, hx247_0, hl247_0, hi247_0⟩ := at_L4 (Kd.S_reads' HO_6.out).2.2 x8_4 p247 q247
          obtain rfl : ad245 = ad247 := (by injection e247)
          obtain ⟨ce247, hce247, hMe247, hcc247⟩ := Kd.S_get HO_6.out [] x8_4 p247 (by first | exact q247 | exact of_decide_eq_true aS | (have e_ := (Kd.S_reads' HO_6.out).1; omega))
          obtain ⟨ve247_0, rfl, ge247_0⟩ := hMe247
          have hv247_0 := hcc247 0 _ rfl
          rw [Nat.add_zero, show ((Kd.slice 3 (Kd.int .i64))).sz = 1 from rfl, Nat.mul_one] at hv247_0
          replace hv247_0 := Option.some.inj (hv247_0.symm.trans hx247_0)
          rw [hv247_0] at ge247_0
          have HL247_0 := Q0_ (show Kd.R (Kd.int .i64) 3 _ _ _ _ (rd_L4 t222 x8_4) from ge247_0)
          clear hv247_0 ge247_0
          clear hcc247 hce247
          have HR247_0 := Aside0.mk hi247_0
          have HC247_0 := Aside0.mk hl247_0
          clear hi247_0 hl247_0
          replace p247 := eq_true p247
          replace q247 := eq_true q247
          have p248 : 0 ≤ (x9_4 : Int) := of_decide_eq_true aS
          have q248 : x9_4 < ((rd_L4 t222 x8_4).length : Int) := of_decide_eq_true aS
          obtain ⟨ad248, e248, hx248_0⟩ := Kd.at_int HR247_0.out x9_4 p248 q248
          cases e248
          replace p248 := eq_true p248
          replace q248 := eq_true q248
          refine start_ (n := 27) (S := fun w' => w'.cell? ⟨gb244, 0, none⟩ = some (.int .i64 t240) ∧ w'.cell? ⟨gb244, 1, none⟩ = some (.int .i64 t241) ∧ w'.cell? ⟨gb244, 2, none⟩ = some (.int .i64 t242) ∧ w'.cell? (ad245.add ((ji30)).toNat) = some (.slice (some ad246) (rd_L4 t222 (ji30)).length c245_0) ∧ w'.cell? (ad246.add ((ji33)).toNat) = some (.int .i64 (rd (rd_L4 t222 (ji30)) (ji33))) ∧ w'.cell? (ad245.add (x8_4).toNat) = some (.slice (some ad248) (rd_L4 t222 x8_4).length c247_0) ∧ w'.cell? (ad248.add (x9_4).toNat) = some (.int .i64 (rd (rd_L4 t222 x8_4) x9_4))) (ds := []) #[ff,ff,ff,ff,ff,ff,ff,ff,ff,ff,ff,ff,ff,ff,ff,ff,ff,ff,ff,ff,ff,ff,ff,ff,ff,ff,ff] (by kernel_rfl) rfl rfl ⟨(blk_cell BK244.out 0).trans rfl, (blk_cell BK244.out 1).trans rfl, (blk_cell BK244.out 2).trans rfl, hx245_0, hx246_0, hx247_0, hx248_0⟩ (fun hHeld => ?_); refine with_tabW impl_EditText.tab11 impl_EditText.bits11 (fun HT_ HW_ => ?_)
          generalize w65.drew = w66 at HO_6 HO_7 HO_36 BK244 HB HL245_0 HL247_0 HR245_0 HR247_0 hx245_0 hx246_0 hx247_0 hx248_0 hHeld ⊢
          refine pQ HT_ 0 (some 53) #[tt,ff,ff,ff,ff,ff,ff,ff,ff,ff,ff,ff,ff,ff,ff,ff,ff,ff,ff,ff,ff,ff,ff,ff,ff,ff,ff] rfl rfl ?_
          refine pQ HT_ 1 (some 54) #[tt,tt,ff,ff,ff,ff,ff,ff,ff,ff,ff,ff,ff,ff,ff,ff,ff,ff,ff,ff,ff,ff,ff,ff,ff,ff,ff] rfl rfl ?_
          refine pQ HT_ 2 (some 55) #[tt,tt,tt,ff,ff,ff,ff,ff,ff,ff,ff,ff,ff,ff,ff,ff,ff,ff,ff,ff,ff,ff,ff,ff,ff,ff,ff] rfl rfl ?_
          refine pQ HT_ 4 (some 57) #[tt,tt,tt,ff,tt,ff,ff,ff,ff,ff,ff,ff,ff,ff,ff,ff,ff,ff,ff,ff,ff,ff,ff,ff,ff,ff,ff] rfl rfl ?_
          refine pQ HT_ 5 (some 58) #[tt,tt,tt,ff,tt,tt,ff,ff,ff,ff,ff,ff,ff,ff,ff,ff,ff,ff,ff,ff,ff,ff,ff,ff,ff,ff,ff] rfl rfl ?_
          refine pQ HT_ 6 (some 59) #[tt,tt,tt,ff,tt,tt,tt,ff,ff,ff,ff,ff,ff,ff,ff,ff,ff,ff,ff,ff,ff,ff,ff,ff,ff,ff,ff] rfl rfl ?_
          refine pQ HT_ 11 (some 64) #[tt,tt,tt,ff,tt,tt,tt,ff,ff,ff,ff,tt,ff,ff,ff,ff,ff,ff,ff,ff,ff,ff,ff,ff,ff,ff,ff] rfl rfl ?_
          refine pQ HT_ 12 (some 65) #[tt,tt,tt,ff,tt,tt,tt,ff,ff,ff,ff,tt,tt,ff,ff,ff,ff,ff,ff,ff,ff,ff,ff,ff,ff,ff,ff] rfl rfl ?_
          refine pQ HT_ 18 (some 71) #[tt,tt,tt,ff,tt,tt,tt,ff,ff,ff,ff,tt,tt,ff,ff,ff,ff,ff,tt,ff,ff,ff,ff,ff,ff,ff,ff] rfl rfl ?_
          refine pQ HT_ 19 (some 72) #[tt,tt,tt,ff,tt,tt,tt,ff,ff,ff,ff,tt,tt,ff,ff,ff,ff,ff,tt,tt,ff,ff,ff,ff,ff,ff,ff] rfl rfl ?_
          refine pQ HT_ 20 (some 73) #[tt,tt,tt,ff,tt,tt,tt,ff,ff,ff,ff,tt,tt,ff,ff,ff,ff,ff,tt,tt,tt,ff,ff,ff,ff,ff,ff] rfl rfl ?_
          refine pQ HT_ 22 (some 75) #[tt,tt,tt,ff,tt,tt,tt,ff,ff,ff,ff,tt,tt,ff,ff,ff,ff,ff,tt,tt,tt,ff,tt,ff,ff,ff,ff] rfl rfl ?_
          refine tQ HT_ HW_ 3 (some 56) #[tt,tt,tt,tt,tt,tt,tt,ff,ff,ff,ff,tt,tt,ff,ff,ff,ff,ff,tt,tt,tt,ff,tt,ff,ff,ff,ff] rfl rfl hHeld (by rintro w' ⟨s0, s1, s2, s3, s4, s5, s6⟩; go_simp; with_reducible rfl) ?_
          refine tQ HT_ HW_ 7 (some 60) #[tt,tt,tt,tt,tt,tt,tt,tt,ff,ff,ff,tt,tt,ff,ff,ff,ff,ff,tt,tt,tt,ff,tt,ff,ff,ff,ff] rfl rfl hHeld (by rintro w' ⟨s0, s1, s2, s3, s4, s5, s6⟩; go_simp; with_reducible rfl) ?_
          refine pQ HT_ 8 (some 61) #[tt,tt,tt,tt,tt,tt,tt,tt,tt,ff,ff,tt,tt,ff,ff,ff,ff,ff,tt,tt,tt,ff,tt,ff,ff,ff,ff] rfl rfl ?_
          refine pQ HT_ 9 (some 62) #[tt,tt,tt,tt,tt,tt,tt,tt,tt,tt,ff,tt,tt,ff,ff,ff,ff,ff,tt,tt,tt,ff,tt,ff,ff,ff,ff] rfl rfl ?_
          refine tQ HT_ HW_ 10 (some 63) #[tt,tt,tt,tt,tt,tt,tt,tt,tt,tt,tt,tt,tt,ff,ff,ff,ff,ff,tt,tt,tt,ff,tt,ff,ff,ff,ff] rfl rfl hHeld (by rintro w' ⟨s0, s1, s2, s3, s4, s5, s6⟩; go_simp; with_reducible rfl) ?_
          refine tQ HT_ HW_ 13 (some 66) #[tt,tt,tt,tt,tt,tt,tt,tt,tt,tt,tt,tt,tt,tt,ff,ff,ff,ff,tt,tt,tt,ff,tt,ff,ff,ff,ff] rfl rfl hHeld (by rintro w' ⟨s0, s1, s2, s3, s4, s5, s6⟩; go_simp; with_reducible rfl) ?_
          refine pQ HT_ 14 (some 67) #[tt,tt,tt,tt,tt,tt,tt,tt,tt,tt,tt,tt,tt,tt,tt,ff,ff,ff,tt,tt,tt,ff,tt,ff,ff,ff,ff] rfl rfl ?_
          refine pQ HT_ 15 (some 68) #[tt,tt,tt,tt,tt,tt,tt,tt,tt,tt,tt,tt,tt,tt,tt,tt,ff,ff,tt,tt,tt,ff,tt,ff,ff,ff,ff] rfl rfl ?_
          refine tQ HT_ HW_ 16 (some 69) #[tt,tt,tt,tt,tt,tt,tt,tt,tt,tt,tt,tt,tt,tt,tt,tt,tt,ff,tt,tt,tt,ff,tt,ff,ff,ff,ff] rfl rfl hHeld (by rintro w' ⟨s0, s1, s2, s3, s4, s5, s6⟩; go_simp; with_reducible rfl) ?_
          refine pQ HT_ 17 (some 70) #[tt,tt,tt,tt,tt,tt,tt,tt,tt,tt,tt,tt,tt,tt,tt,tt,tt,tt,tt,tt,tt,ff,tt,ff,ff,ff,ff] rfl rfl ?_
          refine tQ HT_ HW_ 21 (some 74) #[tt,tt,tt,tt,tt,tt,tt,tt,tt,tt,tt,tt,tt,tt,tt,tt,tt,tt,tt,tt,tt,tt,tt,ff,ff,ff,ff] rfl rfl hHeld (by rintro w' ⟨s0, s1, s2, s3, s4, s5, s6⟩; go_simp; with_reducible rfl) ?_
          refine pQ HT_ 23 (some 76) #[tt,tt,tt,tt,tt,tt,tt,tt,tt,tt,tt,tt,tt,tt,tt,tt,tt,tt,tt,tt,tt,tt,tt,tt,ff,ff,ff] rfl rfl ?_
          refine tQ HT_ HW_ 24 (some 77) #[tt,tt,tt,tt,tt,tt,tt,tt,tt,tt,tt,tt,tt,tt,tt,tt,tt,tt,tt,tt,tt,tt,tt,tt,tt,ff,ff] rfl rfl hHeld (by rintro w' ⟨s0, s1, s2, s3, s4, s5, s6⟩; go_simp; with_reducible rfl) ?_
          refine pQ HT_ 25 (some 78) #[tt,tt,tt,tt,tt,tt,tt,tt,tt,tt,tt,tt,tt,tt,tt,tt,tt,tt,tt,tt,tt,tt,tt,tt,tt,tt,ff] rfl rfl ?_
          refine pQ HT_ 26 (some 79) #[tt,tt,tt,tt,tt,tt,tt,tt,tt,tt,tt,tt,tt,tt,tt,tt,tt,tt,tt,tt,tt,tt,tt,tt,tt,tt,tt] rfl rfl ?_
          refine done_ (done_of HT_.out (by kernel_rfl)) ?_
          try go_wp2
          first | go_roundg k4 | ((try simp only [← hji30] at H' ⊢); (try simp only [← hji33] at H' ⊢); go_roundg k4)
          case measure => have := HJ2.out; have := HK2.out; have := HJ14.out; have := HK4.out; omega
          case rel => exact ⟨(x7_4), (x8_4), (x9_4), (wrap64 (x38_4 + 1)), eX, eX, eX, H', ⟨by have := HJ2.out; have := HK2.out; have := HJ14.out; have := HK4.out; omega⟩, ⟨by (with_reducible repeat (first | apply Kd.S_alloc | apply Kd.S_drewN | apply Kd.S_drew)); exact HO_6.out⟩, ⟨by (with_reducible repeat (first | apply Kd.R_alloc | apply Kd.R_drewN | apply Kd.R_drew)); exact HO_7.out⟩, ⟨by (with_reducible repeat (first | apply Kd.R_alloc | apply Kd.R_drewN | apply Kd.R_drew)); exact HO_36.out⟩, ⟨by repeat (first | (with_reducible first | exact HB.out | apply below_alloc | apply pw_below_drewN | apply below_drew1 | refine below_set ?_ GE244.out) | exact HB.out)⟩⟩
         rw [if_pos c38] at H
         have c38b0 : ((wrap64 (t242 + (rd (rd_L4 t222 (ji30)) (ji33)))) == (rd (rd_L4 t222 x8_4) x9_4)) = true := beq_iff_eq.mpr c38
         have c38b1 : ((wrap64 (t242 + (rd (rd_L4 t222 (ji30)) (ji33)))) != (rd (rd_L4 t222 x8_4) x9_4)) = false := bne_eq_false_iff_eq.mpr c38
         clear c38
         obtain ⟨t249, A390, H⟩ := Option.bind_eq_some_iff.mp H
         try dsimp only at H
         have A39 := Aside0.mk A390
         clear A390
         by_cases c40 : x7_4.length < 140737488355328
         rotate_left
         ·rw [if_neg c40] at H
          exact absurd H (by simp)
         rw [if_pos c40] at H
         have LMc40 := Aside0.mk c40
         clear c40
         obtain ⟨y250, hy250⟩ : ∃ y_ : List Int, y_ = (x7_4 ++ [t249]) := ⟨_, rfl⟩
         replace H : (impl_EditText.l0 k4 l0 l1 t222 y250 ji30 ji33) = some (r1, r2) := by first | (rw [hy250]; with_reducible exact H) | (have H2_ := (Option.bind_some _ _).symm.trans H; rw [hy250]; with_reducible exact H2_) | (have H2_ := (Option.bind_some _ _).symm.trans H; with_reducible exact H2_) | with_reducible exact H | (rw [hy250]; exact H) | exact H
         have Ny250 := Aside0.mk hy250
         clear hy250
         have H' := Aside0.mk H
         clear H
         have p231 : 0 ≤ (x38_4 : Int) := of_decide_eq_true aS
         have q231 : x38_4 < (t228.length : Int) := of_decide_eq_true aS
         obtain ⟨ad231, e231, hx231_0⟩ := at_en63 (Kd.R_reads' HO_36.out).2.2 x38_4 p231 q231
         cases e231
         replace p231 := eq_true p231
         replace q231 := eq_true q231
         try go_wp2
         have n0_ := Q0_ (Kd.S_drew HO_6.out)
         have n1_ := Q0_ (Kd.R_drew HO_7.out)
         have n2_ := Q0_ (Kd.R_drew HO_36.out)
         have n3_ := Q0_ (below_drew1 HB.out)
         clear HO_6 HO_7 HO_36 HB; revert n0_ n1_ n2_ n3_; intro HO_6 HO_7 HO_36 HB
         have q42 : (x8_4 : Int) ≤ ((l0.length : Int) : Int) := of_decide_eq_true aS
         obtain ⟨i042, hi042, _, hsz42, _⟩ := info_parts info36
         have hroom42 : l0.length ≤ c0 := HC0.out
         have hC42 : Kd.C k36 _ A0 l0.length l0 := HR0.out
         have q042 : (0 : Int) ≤ (x8_4 : Int) := of_decide_eq_true aS
         have hcut42 := cut_from (P := Try.prog) 25 36 .i64 Try.underlying25 hi042 2 hsz42 A0 l0.length c0 x8_4 q042 q42
         have hr42 := Kd.C_drop (m := (x8_4 : Int).toNat) (c := c0) hC42 (by omega) hroom42
         obtain ⟨A42, hA42⟩ : ∃ Az_, Az_ = (if c0 = (x8_4 : Int).toNat then A0 else (A0 : Option Addr).map (·.add ((x8_4 : Int).toNat * 2))) := ⟨_, rfl⟩
         obtain ⟨c42, hc42⟩ : ∃ cz_, cz_ = c0 - (x8_4 : Int).toNat := ⟨_, rfl⟩
         have hy42 : y232.length = l0.length - (x8_4 : Int).toNat := (by rw [Ny232.out, List.length_drop] <;> omega)
         rw [show (l0).drop (x8_4 : Int).toNat = y232 from Ny232.out.symm] at hr42
         replace hr42 : Kd.C k36 _ A42 y232.length y232 := (by rw [hA42]; exact hr42)
         rw [← hy42, ← hA42, ← hc42] at hcut42
         have HR235 := Aside0.mk hr42
         have HC235 := Q0_ (show y232.length ≤ c42 from by rw [hy42, hc42]; exact Nat.sub_le_sub_right hroom42 _)
         clear hr42 hC42 hroom42 hi042 hsz42 hc42
         have KY42 := Aside0.mk hy42
         have KA42 := Aside0.mk hA42
         clear hy42 hA42
         replace q42 := eq_true q42
         have q43 : (x9_4 : Int) ≤ ((l1.length : Int) : Int) := of_decide_eq_true aS
         obtain ⟨i043, hi043, _, hsz43, _⟩ := info_parts info36
         have hroom43 : l1.length ≤ c1 := HC1.out
         have hC43 : Kd.C k36 _ A1 l1.length l1 := HR1.out
         have q043 : (0 : Int) ≤ (x9_4 : Int) := of_decide_eq_true aS
         have hcut43 := cut_from (P := Try.prog) 25 36 .i64 Try.underlying25 hi043 2 hsz43 A1 l1.length c1 x9_4 q043 q43
         have hr43 := Kd.C_drop (m := (x9_4 : Int).toNat) (c := c1) hC43 (by omega) hroom43
         obtain ⟨A43, hA43⟩ : ∃ Az_, Az_ = (if c1 = (x9_4 : Int).toNat then A1 else (A1 : Option Addr).map (·.add ((x9_4 : Int).toNat * 2))) := ⟨_, rfl⟩
         obtain ⟨c43, hc43⟩ : ∃ cz_, cz_ = c1 - (x9_4 : Int).toNat := ⟨_, rfl⟩
         have hy43 : y236.length = l1.length - (x9_4 : Int).toNat := (by rw [Ny236.out, List.length_drop] <;> omega)
         rw [show (l1).drop (x9_4 : Int).toNat = y236 from Ny236.out.symm] at hr43
         replace hr43 : Kd.C k36 _ A43 y236.length y236 := (by rw [hA43]; exact hr43)
         rw [← hy43, ← hA43, ← hc43] at hcut43
         have HR239 := Aside0.mk hr43
         have HC239 := Q0_ (show y236.length ≤ c43 from by rw [hy43, hc43]; exact Nat.sub_le_sub_right hroom43 _)
         clear hr43 hC43 hroom43 hi043 hsz43 hc43
         have KY43 := Aside0.mk hy43
         have KA43 := Aside0.mk hA43
         clear hy43 hA43
         replace q43 := eq_true q43
         refine start_ (n := 14) (S := fun w' => True) (ds := []) #[ff,ff,ff,ff,ff,ff,ff,ff,ff,ff,ff,ff,ff,ff] (by kernel_rfl) rfl rfl trivial (fun hHeld => ?_); refine with_tabW impl_EditText.tab10 impl_EditText.bits10 (fun HT_ HW_ => ?_)
         generalize wr.drew = w41 at HO_6 HO_7 HO_36 HB HR235 HR239 hHeld ⊢
         refine pQ HT_ 0 (some 43) #[tt,ff,ff,ff,ff,ff,ff,ff,ff,ff,ff,ff,ff,ff] rfl rfl ?_
         refine pQ HT_ 1 (some 44) #[tt,tt,ff,ff,ff,ff,ff,ff,ff,ff,ff,ff,ff,ff] rfl rfl ?_
         refine pQ HT_ 2 (some 45) #[tt,tt,tt,ff,ff,ff,ff,ff,ff,ff,ff,ff,ff,ff] rfl rfl ?_
         refine pQ HT_ 3 (some 46) #[tt,tt,tt,tt,ff,ff,ff,ff,ff,ff,ff,ff,ff,ff] rfl rfl ?_
         refine pQ HT_ 4 (some 47) #[tt,tt,tt,tt,tt,ff,ff,ff,ff,ff,ff,ff,ff,ff] rfl rfl ?_
         refine pQ HT_ 5 (some 48) #[tt,tt,tt,tt,tt,tt,ff,ff,ff,ff,ff,ff,ff,ff] rfl rfl ?_
         refine pQ HT_ 6 (some 49) #[tt,tt,tt,tt,tt,tt,tt,ff,ff,ff,ff,ff,ff,ff] rfl rfl ?_
         refine join_ (σ := Nat) 2 #[tt,tt,tt,tt,tt,tt,tt,tt,tt,tt,tt,tt,ff,ff] (fun s_ => [(50, .tuple #[.agg #[.int .i64 t240, .int .i64 t241, .int .i64 t242], .bool true]), (12, .pointer (some ⟨s_, 0, none⟩)), (42, .tuple #[.agg #[.int .i64 t240, .int .i64 t241, .int .i64 t242], .bool true]), (51, .agg #[.int .i64 t240, .int .i64 t241, .int .i64 t242]), (52, .bool true)]) (fun s_ w' => (Kd.R (Kd.scalar en63W en63_one) 63 w' w.heap.size (fun _ => True) (.slice (some ad231) t228.length co20) t228) ∧ (Kd.S (Kd.slice 3 (Kd.int .i64)) 46 w' w.heap.size (fun _ => True) v223 t222) ∧ (Kd.R (Kd.int .u8) 5 w' w.heap.size (fun _ => True) u7 x7_4) ∧ (w'.heap[s_]? = some (.cells #[.int .i64 0, .int .i64 0, .int .i64 0] 65 (0, 0))) ∧ (w.heap.size ≤ s_) ∧ (w.heap.size ≤ s_) ∧ (Below w.heap.size w w')) ?_ ?_
         rotate_left
         ·intro hCont
          refine two_ (i := 7) (j := 11) (Ni := some 50) (Nj := some 12) #[tt,tt,tt,tt,tt,tt,tt,tt,ff,ff,ff,ff,ff,ff] #[tt,tt,tt,tt,tt,tt,tt,ff,ff,ff,ff,tt,ff,ff] rfl rfl rfl rfl (two_of HT_.out (by kernel_rfl)) (by decide) (by decide) (fun K hK => ?_) (fun K hK => ?_)
          ·skip
           refine goes_ Try.func45 (by kernel_rfl) rfl #[en63W (rd t228 x38_4), .slice A42 y232.length c42, .slice A43 y236.length c43] (by rfl) rfl rfl hM ?_
           with_reducible refine (impl_useOf.calls k4 (rd t228 x38_4) _ _ y232 _ _ y236 t240 t241 t242 true _ ?side1 ?side2 ?side3 ?side4 A28.out).mono ?_
           (case side1 => repeat (first | exact (Kd.C_below HR235.out HB.out) | (with_reducible refine Kd.C_alloc ?_ _) | (with_reducible refine Kd.C_drewN ?_ _) | (with_reducible refine Kd.C_drew ?_)))
           (case side2 => exact HC235.out)
           (case side3 => repeat (first | exact (Kd.C_below HR239.out HB.out) | (with_reducible refine Kd.C_alloc ?_ _) | (with_reducible refine Kd.C_drewN ?_ _) | (with_reducible refine Kd.C_drew ?_)))
           (case side4 => exact HC239.out)
           rintro e w44 ⟨rfl, hb⟩
           refine ⟨_, rfl, ?_⟩
           have n0_ := Q0_ (Kd.S_below (upS HO_6) hb)
           have n1_ := Q0_ (Kd.R_below (upR HO_7) hb)
           have n2_ := Q0_ (Kd.R_below (upR HO_36) hb)
           have n3_ := Q0_ (below_step (upB HB) hb)
           clear HO_6 HO_7 HO_36 HB; revert n0_ n1_ n2_ n3_; intro HO_6 HO_7 HO_36 HB
           (try clear hb)
           (try clear hb2)
           (try clear hk)
           (try clear hi)
           refine hK.out _ _ trivial (fun hHeld => ?_)
           clear hK K
           refine norm_ (a' := ?_) ?_ ?_
           rotate_left
           ·show Act.put _ (some 50) _ = _
            simp only [Act.put, sI, s0, sS, i64_w, i32_w]
            rfl
           refine pQ HT_ 8 (some 42) #[tt,tt,tt,tt,tt,tt,tt,tt,tt,ff,ff,ff,ff,ff] rfl rfl ?_
           refine pQ HT_ 9 (some 51) #[tt,tt,tt,tt,tt,tt,tt,tt,tt,tt,ff,ff,ff,ff] rfl rfl ?_
           refine pQ HT_ 10 (some 52) #[tt,tt,tt,tt,tt,tt,tt,tt,tt,tt,tt,ff,ff,ff] rfl rfl ?_
           refine one_ (i := 11) (N := some 12) #[tt,tt,tt,tt,tt,tt,tt,tt,tt,tt,tt,tt,ff,ff] rfl rfl (one_of HT_.out (by kernel_rfl)) (by decide) (fun K hK => ?_)
           refine box_step ?hg (N := 12) ?hd (cs := #[.int .i64 0, .int .i64 0, .int .i64 0]) (t := 65) ?hr ?_; (case hd => rfl); (case hg => rfl); (case hr => first | (go_simp; done) | (go_simp; rfl))
           intro gb244 hg w45 hbox hb
           have n0_ := Q0_ (Kd.S_below (upS HO_6) hb)
           have n1_ := Q0_ (Kd.R_below (upR HO_7) hb)
           have n2_ := Q0_ (Kd.R_below (upR HO_36) hb)
           have n3_ := Q0_ (below_step (upB HB) hb)
           have n4_ := Q0_ (hbox)
           have n5_ := Q0_ ((by rw [hg]; exact (below_size (upB HB)) : w.heap.size ≤ gb244))
           have n6_ := Q0_ ((by rw [hg]; exact (below_size (upB HB)) : w.heap.size ≤ gb244))
           clear HO_6 HO_7 HO_36 HB; revert n0_ n1_ n2_ n3_ n4_ n5_ n6_; intro HO_6 HO_7 HO_36 HB BK244 GW244 GE244
           clear hb hbox hg
           refine hK.out _ _ trivial (fun hHeld => ?_)
           clear hK K
           refine norm_ (a' := ?_) ?_ ?_
           rotate_left
           ·show Act.put _ (some 12) _ = _
            simp only [Act.put, sI, s0, sS, i64_w, i32_w]
            rfl
           exact norm_ (by simp only [putAll, Act.put, sI, s0, sS]) (hCont (gb244) _ ⟨(upR HO_36), (upS HO_6), (upR HO_7), (upK BK244), GW244.out, GE244.out, upH⟩)
          ·skip
           refine box_step ?hg (N := 12) ?hd (cs := #[.int .i64 0, .int .i64 0, .int .i64 0]) (t := 65) ?hr ?_; (case hd => rfl); (case hg => rfl); (case hr => first | (go_simp; done) | (go_simp; rfl))
           intro gb244 hg w44 hbox hb
           have n0_ := Q0_ (Kd.S_below (upS HO_6) hb)
           have n1_ := Q0_ (Kd.R_below (upR HO_7) hb)
           have n2_ := Q0_ (Kd.R_below (upR HO_36) hb)
           have n3_ := Q0_ (below_step (upB HB) hb)
           have n4_ := Q0_ (hbox)
           have n5_ := Q0_ ((by rw [hg]; exact (below_size (upB HB)) : w.heap.size ≤ gb244))
           have n6_ := Q0_ ((by rw [hg]; exact (below_size (upB HB)) : w.heap.size ≤ gb244))
           clear HO_6 HO_7 HO_36 HB; revert n0_ n1_ n2_ n3_ n4_ n5_ n6_; intro HO_6 HO_7 HO_36 HB BK244 GW244 GE244
           clear hb hbox hg
           refine hK.out _ _ trivial (fun hHeld => ?_)
           clear hK K
           refine norm_ (a' := ?_) ?_ ?_
           rotate_left
           ·show Act.put _ (some 12) _ = _
            simp only [Act.put, sI, s0, sS, i64_w, i32_w]
            rfl
           refine one_ (i := 7) (N := some 50) #[tt,tt,tt,tt,tt,tt,tt,tt,ff,ff,ff,tt,ff,ff] rfl rfl (one_of HT_.out (by kernel_rfl)) (by decide) (fun K hK => ?_)
           refine goes_ Try.func45 (by kernel_rfl) rfl #[en63W (rd t228 x38_4), .slice A42 y232.length c42, .slice A43 y236.length c43] (by rfl) rfl rfl hM ?_
           with_reducible refine (impl_useOf.calls k4 (rd t228 x38_4) _ _ y232 _ _ y236 t240 t241 t242 true _ ?side1 ?side2 ?side3 ?side4 A28.out).mono ?_
           (case side1 => repeat (first | exact (Kd.C_below HR235.out HB.out) | (with_reducible refine Kd.C_alloc ?_ _) | (with_reducible refine Kd.C_drewN ?_ _) | (with_reducible refine Kd.C_drew ?_)))
           (case side2 => exact HC235.out)
           (case side3 => repeat (first | exact (Kd.C_below HR239.out HB.out) | (with_reducible refine Kd.C_alloc ?_ _) | (with_reducible refine Kd.C_drewN ?_ _) | (with_reducible refine Kd.C_drew ?_)))
           (case side4 => exact HC239.out)
           rintro e w45 ⟨rfl, hb⟩
           refine ⟨_, rfl, ?_⟩
           have n0_ := Q0_ (Kd.S_below (upS HO_6) hb)
           have n1_ := Q0_ (Kd.R_below (upR HO_7) hb)
           have n2_ := Q0_ (Kd.R_below (upR HO_36) hb)
           have n3_ := Q0_ (blk_below (upK BK244) hb)
           have n4_ := Q0_ (below_step upH hb)
           clear HO_6 HO_7 HO_36 BK244 HB; revert n0_ n1_ n2_ n3_ n4_; intro HO_6 HO_7 HO_36 BK244 HB
           (try clear hb)
           (try clear hb2)
           (try clear hk)
           (try clear hi)
           refine hK.out _ _ trivial (fun hHeld => ?_)
           clear hK K
           refine norm_ (a' := ?_) ?_ ?_
           rotate_left
           ·show Act.put _ (some 50) _ = _
            simp only [Act.put, sI, s0, sS, i64_w, i32_w]
            rfl
           refine pQ HT_ 8 (some 42) #[tt,tt,tt,tt,tt,tt,tt,tt,tt,ff,ff,tt,ff,ff] rfl rfl ?_
           refine pQ HT_ 9 (some 51) #[tt,tt,tt,tt,tt,tt,tt,tt,tt,tt,ff,tt,ff,ff] rfl rfl ?_
           refine pQ HT_ 10 (some 52) #[tt,tt,tt,tt,tt,tt,tt,tt,tt,tt,tt,tt,ff,ff] rfl rfl ?_
           exact norm_ (by simp only [putAll, Act.put, sI, s0, sS]) (hCont (gb244) _ ⟨(upR HO_36), (upS HO_6), (upR HO_7), (upK BK244), GW244.out, GE244.out, upH⟩)
         rintro gb244 w46 ⟨h0_, h1_, h2_, h3_, h4_, h5_, h6_⟩
         try dsimp only at h0_ h1_ h2_ h3_ h4_ h5_ h6_
         have n0_ := Q0_ h0_
         have n1_ := Q0_ h1_
         have n2_ := Q0_ h2_
         have n3_ := Q0_ h3_
         have n4_ := Q0_ h4_
         have n5_ := Q0_ h5_
         have n6_ := Q0_ h6_
         clear HO_6
         clear HO_7
         clear HO_36
         clear HB
         clear h0_ h1_ h2_ h3_ h4_ h5_ h6_
         have HO_36 := n0_
         have HO_6 := n1_
         have HO_7 := n2_
         have BK244 := n3_
         have GW244 := n4_
         have GE244 := n5_
         have HB := n6_
         clear n0_ n1_ n2_ n3_ n4_ n5_ n6_
         have hHeld := trivial
         refine norm_ (a' := ?_) ?_ ?_
         rotate_left
         ·simp only [putAll, Act.put, sI, s0, sS]
          rfl
         refine one_ (i := 12) (N := none) #[tt,tt,tt,tt,tt,tt,tt,tt,tt,tt,tt,tt,tt,ff] rfl rfl (one_of HT_.out (by kernel_rfl)) (by decide) (fun K hK => ?_)
         have hs47 : w46.cell? ⟨gb244, 0, none⟩ = some (.int .i64 0) := (blk_cell BK244.out 0).trans rfl
         have hfs47 := blk_frozen BK244.out 0
         have hs48 : w46.cell? ⟨gb244, 1, none⟩ = some (.int .i64 0) := (blk_cell BK244.out 1).trans rfl
         have hfs48 := blk_frozen BK244.out 1
         have hs49 : w46.cell? ⟨gb244, 2, none⟩ = some (.int .i64 0) := (blk_cell BK244.out 2).trans rfl
         have hfs49 := blk_frozen BK244.out 2
         refine skip_ (w1 := ?_) (by rfl) rfl ?_ ?_
         rotate_left
         ·go_simp
          rfl
         refine hK.out _ _ trivial (fun hHeld => ?_)
         clear hK K
         refine pQ HT_ 13 (some 13) #[tt,tt,tt,tt,tt,tt,tt,tt,tt,tt,tt,tt,tt,tt] rfl rfl ?_
         refine done_ (done_of HT_.out (by kernel_rfl)) ?_
         try go_wp2
         have n0_ : Aside0 (Kd.S (Kd.slice 3 (Kd.int .i64)) 46 (((w46.setCell ⟨gb244, 0, none⟩ (.int .i64 t240)).setCell ⟨gb244, 1, none⟩ (.int .i64 t241)).setCell ⟨gb244, 2, none⟩ (.int .i64 t242)) w.heap.size (fun _ => True) v223 t222) := ⟨by (with_reducible repeat (first | apply Kd.S_alloc | apply Kd.S_drewN | apply Kd.S_drew)); exact Kd.S_mono (Kd.S_far (p := ⟨gb244, 2, none⟩) (Kd.S_far (p := ⟨gb244, 1, none⟩) (Kd.S_far (p := ⟨gb244, 0, none⟩) (Kd.S_types HO_6.out BK244.out (by decide)) (fun _ hk => hk.2) (.int .i64 t240)) (fun _ hk => hk.2) (.int .i64 t241)) (fun _ hk => hk.2) (.int .i64 t242)) (fun _ hk => trivial)⟩
         have n1_ : Aside0 (Kd.R (Kd.int .u8) 5 (((w46.setCell ⟨gb244, 0, none⟩ (.int .i64 t240)).setCell ⟨gb244, 1, none⟩ (.int .i64 t241)).setCell ⟨gb244, 2, none⟩ (.int .i64 t242)) w.heap.size (fun _ => True) u7 x7_4) := ⟨by (with_reducible repeat (first | apply Kd.R_alloc | apply Kd.R_drewN | apply Kd.R_drew)); exact Kd.R_mono (Kd.R_far (p := ⟨gb244, 2, none⟩) (Kd.R_far (p := ⟨gb244, 1, none⟩) (Kd.R_far (p := ⟨gb244, 0, none⟩) (Kd.R_types HO_7.out BK244.out (by decide)) (fun _ hk => hk.2) (.int .i64 t240)) (fun _ hk => hk.2) (.int .i64 t241)) (fun _ hk => hk.2) (.int .i64 t242)) (fun _ hk => trivial)⟩
         have n2_ : Aside0 (Kd.R (Kd.scalar en63W en63_one) 63 (((w46.setCell ⟨gb244, 0, none⟩ (.int .i64 t240)).setCell ⟨gb244, 1, none⟩ (.int .i64 t241)).setCell ⟨gb244, 2, none⟩ (.int .i64 t242)) w.heap.size (fun _ => True) (.slice (some ad231) t228.length co20) t228) := ⟨by (with_reducible repeat (first | apply Kd.R_alloc | apply Kd.R_drewN | apply Kd.R_drew)); exact Kd.R_mono (Kd.R_far (p := ⟨gb244, 2, none⟩) (Kd.R_far (p := ⟨gb244, 1, none⟩) (Kd.R_far (p := ⟨gb244, 0, none⟩) (Kd.R_types HO_36.out BK244.out (by decide)) (fun _ hk => hk.2) (.int .i64 t240)) (fun _ hk => hk.2) (.int .i64 t241)) (fun _ hk => hk.2) (.int .i64 t242)) (fun _ hk => trivial)⟩
         have n3_ : Aside0 ((((w46.setCell ⟨gb244, 0, none⟩ (.int .i64 t240)).setCell ⟨gb244, 1, none⟩ (.int .i64 t241)).setCell ⟨gb244, 2, none⟩ (.int .i64 t242)).heap[gb244]? = some (.cells #[.int .i64 t240, .int .i64 t241, .int .i64 t242] 65 (0, 0))) := ⟨by (with_reducible repeat (first | refine blk_drewN ?_ _ | refine blk_drew ?_ | refine blk_alloc ?_ _)); refine blk_put (cs := #[.int .i64 t240, .int .i64 t241, .int .i64 0]) ?_ 2 _ rfl; (with_reducible repeat (first | refine blk_drewN ?_ _ | refine blk_drew ?_ | refine blk_alloc ?_ _)); refine blk_put (cs := #[.int .i64 t240, .int .i64 0, .int .i64 0]) ?_ 1 _ rfl; (with_reducible repeat (first | refine blk_drewN ?_ _ | refine blk_drew ?_ | refine blk_alloc ?_ _)); refine blk_put (cs := #[.int .i64 0, .int .i64 0, .int .i64 0]) ?_ 0 _ rfl; (with_reducible repeat (first | refine blk_drewN ?_ _ | refine blk_drew ?_ | refine blk_alloc ?_ _)); exact BK244.out⟩
         have n4_ : Aside0 (Below w.heap.size w (((w46.setCell ⟨gb244, 0, none⟩ (.int .i64 t240)).setCell ⟨gb244, 1, none⟩ (.int .i64 t241)).setCell ⟨gb244, 2, none⟩ (.int .i64 t242))) := ⟨by repeat (first | (with_reducible first | exact HB.out | apply below_alloc | apply pw_below_drewN | apply below_drew1 | refine below_set ?_ GE244.out) | exact HB.out)⟩
         (try clear HO_6)
         (try clear HO_7)
         (try clear HO_36)
         (try clear BK244)
         (try clear HB)
         generalize (((w46.setCell ⟨gb244, 0, none⟩ (.int .i64 t240)).setCell ⟨gb244, 1, none⟩ (.int .i64 t241)).setCell ⟨gb244, 2, none⟩ (.int .i64 t242)) = w50 at n0_ n1_ n2_ n3_ n4_ ⊢
         have HO_6 := n0_
         have HO_7 := n1_
         have HO_36 := n2_
         have BK244 := n3_
         have HB := n4_
         clear n0_ n1_ n2_ n3_ n4_
         have n0_ := Q0_ (Kd.S_drew HO_6.out)
         have n1_ := Q0_ (Kd.R_drew HO_7.out)
         have n2_ := Q0_ (Kd.R_drew HO_36.out)
         have n3_ := Q0_ (blk_drew BK244.out)
         have n4_ := Q0_ (below_drew1 HB.out)
         clear HO_6 HO_7 HO_36 BK244 HB; revert n0_ n1_ n2_ n3_ n4_; intro HO_6 HO_7 HO_36 BK244 HB
         obtain ⟨Ao52, co52, eo52⟩ := Kd.S_slice HO_6.out
         (first | subst eo52 | (injection eo52 with f1_ f2_ f3_; have f4_ := f1_.symm; have f5_ := f3_.symm; clear f1_ f2_ f3_; subst f4_; subst f5_))
         have p245 : 0 ≤ ((ji30) : Int) := of_decide_eq_true aS
         have q245 : (ji30) < (t222.length : Int) := of_decide_eq_true aS
         obtain ⟨ad245, A245_0, c245_0, e245, hx245_0, hl245_0, hi245_0⟩ := at_L4 (Kd.S_reads' HO_6.out).2.2 (ji30) p245 q245
         cases e245
         obtain ⟨ce245, hce245, hMe245, hcc245⟩ := Kd.S_get HO_6.out [] (ji30) p245 (by first | exact q245 | exact of_decide_eq_true aS | (have e_ := (Kd.S_reads' HO_6.out).1; omega))
         obtain ⟨ve245_0, rfl, ge245_0⟩ := hMe245
         have hv245_0 := hcc245 0 _ rfl
         rw [Nat.add_zero, show ((Kd.slice 3 (Kd.int .i64))).sz = 1 from rfl, Nat.mul_one] at hv245_0
         replace hv245_0 := Option.some.inj (hv245_0.symm.trans hx245_0)
         rw [hv245_0] at ge245_0
         have HL245_0 := Q0_ (show Kd.R (Kd.int .i64) 3 _ _ _ _ (rd_L4 t222 (ji30)) from ge245_0)
         clear hv245_0 ge245_0
         clear hcc245 hce245
         have HR245_0 := Aside0.mk hi245_0
         have HC245_0 := Aside0.mk hl245_0
         clear hi245_0 hl245_0
         replace p245 := eq_true p245
         replace q245 := eq_true q245
         have p246 : 0 ≤ ((ji33) : Int) := of_decide_eq_true aS
         have q246 : (ji33) < ((rd_L4 t222 (ji30)).length : Int) := of_decide_eq_true aS
         obtain ⟨ad246, e246, hx246_0⟩ := Kd.at_int HR245_0.out (ji33) p246 q246
         cases e246
         replace p246 := eq_true p246
         replace q246 := eq_true q246
         have p247 : 0 ≤ (x8_4 : Int) := of_decide_eq_true aS
         have q247 : x8_4 < (t222.length : Int) := of_decide_eq_true aS
         obtain ⟨ad247, A247_0, c247_0, e247, hx247_0, hl247_0, hi247_0⟩ := at_L4 (Kd.S_reads' HO_6.out).2.2 x8_4 p247 q247
         obtain rfl : ad245 = ad247 := (by injection e247)
         obtain ⟨ce247, hce247, hMe247, hcc247⟩ := Kd.S_get HO_6.out [] x8_4 p247 (by first | exact q247 | exact of_decide_eq_true aS | (have e_ := (Kd.S_reads' HO_6.out).1; omega))
         obtain ⟨ve247_0, rfl, ge247_0⟩ := hMe247
         have hv247_0 := hcc247 0 _ rfl
         rw [Nat.add_zero, show ((Kd.slice 3 (Kd.int .i64))).sz = 1 from rfl, Nat.mul_one] at hv247_0
         replace hv247_0 := Option.some.inj (hv247_0.symm.trans hx247_0)
         rw [hv247_0] at ge247_0
         have HL247_0 := Q0_ (show Kd.R (Kd.int .i64) 3 _ _ _ _ (rd_L4 t222 x8_4) from ge247_0)
         clear hv247_0 ge247_0
         clear hcc247 hce247
         have HR247_0 := Aside0.mk hi247_0
         have HC247_0 := Aside0.mk hl247_0
         clear hi247_0 hl247_0
         replace p247 := eq_true p247
         replace q247 := eq_true q247
         have p248 : 0 ≤ (x9_4 : Int) := of_decide_eq_true aS
         have q248 : x9_4 < ((rd_L4 t222 x8_4).length : Int) := of_decide_eq_true aS
         obtain ⟨ad248, e248, hx248_0⟩ := Kd.at_int HR247_0.out x9_4 p248 q248
         cases e248
         replace p248 := eq_true p248
         replace q248 := eq_true q248
         refine start_ (n := 27) (S := fun w' => w'.cell? ⟨gb244, 0, none⟩ = some (.int .i64 t240) ∧ w'.cell? ⟨gb244, 1, none⟩ = some (.int .i64 t241) ∧ w'.cell? ⟨gb244, 2, none⟩ = some (.int .i64 t242) ∧ w'.cell? (ad245.add ((ji30)).toNat) = some (.slice (some ad246) (rd_L4 t222 (ji30)).length c245_0) ∧ w'.cell? (ad246.add ((ji33)).toNat) = some (.int .i64 (rd (rd_L4 t222 (ji30)) (ji33))) ∧ w'.cell? (ad245.add (x8_4).toNat) = some (.slice (some ad248) (rd_L4 t222 x8_4).length c247_0) ∧ w'.cell? (ad248.add (x9_4).toNat) = some (.int .i64 (rd (rd_L4 t222 x8_4) x9_4))) (ds := []) #[ff,ff,ff,ff,ff,ff,ff,ff,ff,ff,ff,ff,ff,ff,ff,ff,ff,ff,ff,ff,ff,ff,ff,ff,ff,ff,ff] (by kernel_rfl) rfl rfl ⟨(blk_cell BK244.out 0).trans rfl, (blk_cell BK244.out 1).trans rfl, (blk_cell BK244.out 2).trans rfl, hx245_0, hx246_0, hx247_0, hx248_0⟩ (fun hHeld => ?_); refine with_tabW impl_EditText.tab11 impl_EditText.bits11 (fun HT_ HW_ => ?_)
         generalize w50.drew = w51 at HO_6 HO_7 HO_36 BK244 HB HL245_0 HL247_0 HR245_0 HR247_0 hx245_0 hx246_0 hx247_0 hx248_0 hHeld ⊢
         refine pQ HT_ 0 (some 53) #[tt,ff,ff,ff,ff,ff,ff,ff,ff,ff,ff,ff,ff,ff,ff,ff,ff,ff,ff,ff,ff,ff,ff,ff,ff,ff,ff] rfl rfl ?_
         refine pQ HT_ 1 (some 54) #[tt,tt,ff,ff,ff,ff,ff,ff,ff,ff,ff,ff,ff,ff,ff,ff,ff,ff,ff,ff,ff,ff,ff,ff,ff,ff,ff] rfl rfl ?_
         refine pQ HT_ 2 (some 55) #[tt,tt,tt,ff,ff,ff,ff,ff,ff,ff,ff,ff,ff,ff,ff,ff,ff,ff,ff,ff,ff,ff,ff,ff,ff,ff,ff] rfl rfl ?_
         refine pQ HT_ 4 (some 57) #[tt,tt,tt,ff,tt,ff,ff,ff,ff,ff,ff,ff,ff,ff,ff,ff,ff,ff,ff,ff,ff,ff,ff,ff,ff,ff,ff] rfl rfl ?_
         refine pQ HT_ 5 (some 58) #[tt,tt,tt,ff,tt,tt,ff,ff,ff,ff,ff,ff,ff,ff,ff,ff,ff,ff,ff,ff,ff,ff,ff,ff,ff,ff,ff] rfl rfl ?_
         refine pQ HT_ 6 (some 59) #[tt,tt,tt,ff,tt,tt,tt,ff,ff,ff,ff,ff,ff,ff,ff,ff,ff,ff,ff,ff,ff,ff,ff,ff,ff,ff,ff] rfl rfl ?_
         refine pQ HT_ 11 (some 64) #[tt,tt,tt,ff,tt,tt,tt,ff,ff,ff,ff,tt,ff,ff,ff,ff,ff,ff,ff,ff,ff,ff,ff,ff,ff,ff,ff] rfl rfl ?_
         refine pQ HT_ 12 (some 65) #[tt,tt,tt,ff,tt,tt,tt,ff,ff,ff,ff,tt,tt,ff,ff,ff,ff,ff,ff,ff,ff,ff,ff,ff,ff,ff,ff] rfl rfl ?_
         refine pQ HT_ 18 (some 71) #[tt,tt,tt,ff,tt,tt,tt,ff,ff,ff,ff,tt,tt,ff,ff,ff,ff,ff,tt,ff,ff,ff,ff,ff,ff,ff,ff] rfl rfl ?_
         refine pQ HT_ 19 (some 72) #[tt,tt,tt,ff,tt,tt,tt,ff,ff,ff,ff,tt,tt,ff,ff,ff,ff,ff,tt,tt,ff,ff,ff,ff,ff,ff,ff] rfl rfl ?_
         refine pQ HT_ 20 (some 73) #[tt,tt,tt,ff,tt,tt,tt,ff,ff,ff,ff,tt,tt,ff,ff,ff,ff,ff,tt,tt,tt,ff,ff,ff,ff,ff,ff] rfl rfl ?_
         refine pQ HT_ 22 (some 75) #[tt,tt,tt,ff,tt,tt,tt,ff,ff,ff,ff,tt,tt,ff,ff,ff,ff,ff,tt,tt,tt,ff,tt,ff,ff,ff,ff] rfl rfl ?_
         refine tQ HT_ HW_ 3 (some 56) #[tt,tt,tt,tt,tt,tt,tt,ff,ff,ff,ff,tt,tt,ff,ff,ff,ff,ff,tt,tt,tt,ff,tt,ff,ff,ff,ff] rfl rfl hHeld (by rintro w' ⟨s0, s1, s2, s3, s4, s5, s6⟩; go_simp; with_reducible rfl) ?_
         refine tQ HT_ HW_ 7 (some 60) #[tt,tt,tt,tt,tt,tt,tt,tt,ff,ff,ff,tt,tt,ff,ff,ff,ff,ff,tt,tt,tt,ff,tt,ff,ff,ff,ff] rfl rfl hHeld (by rintro w' ⟨s0, s1, s2, s3, s4, s5, s6⟩; go_simp; with_reducible rfl) ?_
         refine pQ HT_ 8 (some 61) #[tt,tt,tt,tt,tt,tt,tt,tt,tt,ff,ff,tt,tt,ff,ff,ff,ff,ff,tt,tt,tt,ff,tt,ff,ff,ff,ff] rfl rfl ?_
         refine pQ HT_ 9 (some 62) #[tt,tt,tt,tt,tt,tt,tt,tt,tt,tt,ff,tt,tt,ff,ff,ff,ff,ff,tt,tt,tt,ff,tt,ff,ff,ff,ff] rfl rfl ?_
         refine tQ HT_ HW_ 10 (some 63) #[tt,tt,tt,tt,tt,tt,tt,tt,tt,tt,tt,tt,tt,ff,ff,ff,ff,ff,tt,tt,tt,ff,tt,ff,ff,ff,ff] rfl rfl hHeld (by rintro w' ⟨s0, s1, s2, s3, s4, s5, s6⟩; go_simp; with_reducible rfl) ?_
         refine tQ HT_ HW_ 13 (some 66) #[tt,tt,tt,tt,tt,tt,tt,tt,tt,tt,tt,tt,tt,tt,ff,ff,ff,ff,tt,tt,tt,ff,tt,ff,ff,ff,ff] rfl rfl hHeld (by rintro w' ⟨s0, s1, s2, s3, s4, s5, s6⟩; go_simp; with_reducible rfl) ?_
         refine pQ HT_ 14 (some 67) #[tt,tt,tt,tt,tt,tt,tt,tt,tt,tt,tt,tt,tt,tt,tt,ff,ff,ff,tt,tt,tt,ff,tt,ff,ff,ff,ff] rfl rfl ?_
         refine pQ HT_ 15 (some 68) #[tt,tt,tt,tt,tt,tt,tt,tt,tt,tt,tt,tt,tt,tt,tt,tt,ff,ff,tt,tt,tt,ff,tt,ff,ff,ff,ff] rfl rfl ?_
         refine tQ HT_ HW_ 16 (some 69) #[tt,tt,tt,tt,tt,tt,tt,tt,tt,tt,tt,tt,tt,tt,tt,tt,tt,ff,tt,tt,tt,ff,tt,ff,ff,ff,ff] rfl rfl hHeld (by rintro w' ⟨s0, s1, s2, s3, s4, s5, s6⟩; go_simp; with_reducible rfl) ?_
         refine pQ HT_ 17 (some 70) #[tt,tt,tt,tt,tt,tt,tt,tt,tt,tt,tt,tt,tt,tt,tt,tt,tt,tt,tt,tt,tt,ff,tt,ff,ff,ff,ff] rfl rfl ?_
         refine tQ HT_ HW_ 21 (some 74) #[tt,tt,tt,tt,tt,tt,tt,tt,tt,tt,tt,tt,tt,tt,tt,tt,tt,tt,tt,tt,tt,tt,tt,ff,ff,ff,ff] rfl rfl hHeld (by rintro w' ⟨s0, s1, s2, s3, s4, s5, s6⟩; go_simp; with_reducible rfl) ?_
         refine pQ HT_ 23 (some 76) #[tt,tt,tt,tt,tt,tt,tt,tt,tt,tt,tt,tt,tt,tt,tt,tt,tt,tt,tt,tt,tt,tt,tt,tt,ff,ff,ff] rfl rfl ?_
         refine tQ HT_ HW_ 24 (some 77) #[tt,tt,tt,tt,tt,tt,tt,tt,tt,tt,tt,tt,tt,tt,tt,tt,tt,tt,tt,tt,tt,tt,tt,tt,tt,ff,ff] rfl rfl hHeld (by rintro w' ⟨s0, s1, s2, s3, s4, s5, s6⟩; go_simp; with_reducible rfl) ?_
         refine pQ HT_ 25 (some 78) #[tt,tt,tt,tt,tt,tt,tt,tt,tt,tt,tt,tt,tt,tt,tt,tt,tt,tt,tt,tt,tt,tt,tt,tt,tt,tt,ff] rfl rfl ?_
         refine pQ HT_ 26 (some 79) #[tt,tt,tt,tt,tt,tt,tt,tt,tt,tt,tt,tt,tt,tt,tt,tt,tt,tt,tt,tt,tt,tt,tt,tt,tt,tt,tt] rfl rfl ?_
         refine done_ (done_of HT_.out (by kernel_rfl)) ?_
         try go_wp2_with (first | ((with_reducible refine en_gate rfl ?_); refine en63_letter.goes (some 82) rfl rfl rfl rfl A39.out ?_; (with_reducible refine (en63_letter.calls (rd t228 x38_4) t249 _ A39.out).mono ?_); rintro e w53 ⟨rfl, hb⟩; refine ⟨_, rfl, ?_⟩; have n0_ := Q0_ (Kd.S_below (upS HO_6) hb); have n1_ := Q0_ (Kd.R_below (upR HO_7) hb); have n2_ := Q0_ (Kd.R_below (upR HO_36) hb); have n3_ := Q0_ (Kd.R_below (upR HL245_0) hb); have n4_ := Q0_ (Kd.R_below (upR HL247_0) hb); have n5_ := Q0_ (blk_below (upK BK244) hb); have n6_ := Q0_ (Kd.C_below (upC HR245_0) hb); have n7_ := Q0_ (Kd.C_below (upC HR247_0) hb); have n8_ := Q0_ (below_step upH hb); clear HO_6 HO_7 HO_36 HL245_0 HL247_0 BK244 HR245_0 HR247_0 HB; revert n0_ n1_ n2_ n3_ n4_ n5_ n6_ n7_ n8_; intro HO_6 HO_7 HO_36 HL245_0 HL247_0 BK244 HR245_0 HR247_0 HB; (try clear hb); (try clear hb2); (try clear hk); (try clear hi)) | ((with_reducible refine gate_builtin (b := .append) (xs := #[.tmp 80, .tmp 83]) rfl ?_); (try (refine gate_guard (by rfl) ?_; dsimp only)); at_builtin; refine Kd.R_append (Kd.int .u8) (w0 := w) w.heap.size rfl (.tmp 80) (.tmp 83) 32 5 (.int .u8 0) 1 rfl Try.underlying32 info5 rfl (by decide) (by omega) u7 x7_4 t249 [.int .u8 t249] (fun _ => True) (fun _ => False) rfl rfl ?aP (fun _ hk => hk.elim) ?aF ?aO ?aB ?aS ?aL ?_; (case aP => exact rfl); (case aB => exact upH); (case aF => exact (fun _ _ => trivial)); (case aO => exact (upR HO_7)); (case aS => exact (below_size upH)); (case aL => have := LMc40.out; omega); intro v251 w54 ho hb hg hat; rw [← Ny250.out] at ho; have n0_ := Q0_ (Kd.S_over' (upS HO_6) (Kd.R_typed (upR HO_7)) (by decide) hg); have n1_ := Q0_ (Kd.R_over' (upR HO_36) (Kd.R_typed (upR HO_7)) (by decide) hg); have n2_ := Q0_ (blk_grown (g := gb244) (o := .cells #[.int .i64 t240, .int .i64 t241, .int .i64 t242] 65 (0, 0)) (upK BK244) hg (Kd.R_ne HO_7.out BK244.out (by decide))); have n3_ := Q0_ (Kd.R_over' (upR HL245_0) (Kd.R_typed (upR HO_7)) (by decide) hg); have n4_ := Q0_ (Kd.R_over' (upR HL247_0) (Kd.R_typed (upR HO_7)) (by decide) hg); have n5_ := Q0_ (hb); have n6_ := Q0_ (ho); clear HO_6 HO_36 BK244 HL245_0 HL247_0 HB HO_7; revert n0_ n1_ n2_ n3_ n4_ n5_ n6_; intro HO_6 HO_36 BK244 HL245_0 HL247_0 HB HO252; clear ho hb hg hat))
         have n0_ := Q0_ (Kd.S_drew HO_6.out)
         have n1_ := Q0_ (Kd.R_drew HO_36.out)
         have n2_ := Q0_ (Kd.R_drew HL245_0.out)
         have n3_ := Q0_ (Kd.R_drew HL247_0.out)
         have n4_ := Q0_ (Kd.R_drew HO252.out)
         have n5_ := Q0_ (blk_drew BK244.out)
         have n6_ := Q0_ (below_drew1 HB.out)
         clear HO_6 HO_36 HL245_0 HL247_0 HO252 BK244 HB; revert n0_ n1_ n2_ n3_ n4_ n5_ n6_; intro HO_6 HO_36 HL245_0 HL247_0 HO252 BK244 HB
         refine start_ (n := 10) (S := fun w' => w'.cell? ⟨gb244, 0, none⟩ = some (.int .i64 t240) ∧ w'.cell? ⟨gb244, 1, none⟩ = some (.int .i64 t241) ∧ w'.cell? ⟨gb244, 2, none⟩ = some (.int .i64 t242)) (ds := []) #[ff,ff,ff,ff,ff,ff,ff,ff,ff,ff] (by kernel_rfl) rfl rfl ⟨(blk_cell BK244.out 0).trans rfl, (blk_cell BK244.out 1).trans rfl, (blk_cell BK244.out 2).trans rfl⟩ (fun hHeld => ?_); refine with_tabW impl_EditText.tab13 impl_EditText.bits13 (fun HT_ HW_ => ?_)
         generalize w54.drew = w55 at HO_6 HO_36 HL245_0 HL247_0 HO252 BK244 HB hHeld ⊢
         refine pQ HT_ 0 (some 85) #[tt,ff,ff,ff,ff,ff,ff,ff,ff,ff] rfl rfl ?_
         refine pQ HT_ 1 (some 86) #[tt,tt,ff,ff,ff,ff,ff,ff,ff,ff] rfl rfl ?_
         refine pQ HT_ 4 (some 89) #[tt,tt,ff,ff,tt,ff,ff,ff,ff,ff] rfl rfl ?_
         refine pQ HT_ 5 (some 90) #[tt,tt,ff,ff,tt,tt,ff,ff,ff,ff] rfl rfl ?_
         refine tQ HT_ HW_ 2 (some 87) #[tt,tt,tt,ff,tt,tt,ff,ff,ff,ff] rfl rfl hHeld (by rintro w' ⟨s0, s1, s2⟩; go_simp; with_reducible rfl) ?_
         refine pQ HT_ 3 (some 88) #[tt,tt,tt,tt,tt,tt,ff,ff,ff,ff] rfl rfl ?_
         refine pQ HT_ 8 (some 8) #[tt,tt,tt,tt,tt,tt,ff,ff,tt,ff] rfl rfl ?_
         refine tQ HT_ HW_ 6 (some 91) #[tt,tt,tt,tt,tt,tt,tt,ff,tt,ff] rfl rfl hHeld (by rintro w' ⟨s0, s1, s2⟩; go_simp; with_reducible rfl) ?_
         refine pQ HT_ 7 (some 92) #[tt,tt,tt,tt,tt,tt,tt,tt,tt,ff] rfl rfl ?_
         refine pQ HT_ 9 (some 9) #[tt,tt,tt,tt,tt,tt,tt,tt,tt,tt] rfl rfl ?_
         refine done_ (done_of HT_.out (by kernel_rfl)) ?_
         try go_wp2
         first | go_roundg k4 | ((try simp only [← hji30] at H' ⊢); (try simp only [← hji33] at H' ⊢); go_roundg k4)
         case measure => have := HJ2.out; have := HK2.out; have := HJ14.out; have := HK4.out; omega
         case rel => exact ⟨(y250), (ji30), (ji33), (by first | rfl | (simp; done) | (simp only [← hji30] <;> (first | rfl | simp)) | (simp [*]; done)), (by first | rfl | (simp; done) | (simp only [← hji33] <;> (first | rfl | simp)) | (simp [*]; done)), H', ⟨by have := HJ2.out; have := HK2.out; have := HJ14.out; have := HK4.out; omega⟩, ⟨by (with_reducible repeat (first | apply Kd.S_alloc | apply Kd.S_drewN | apply Kd.S_drew)); exact HO_6.out⟩, ⟨by (with_reducible repeat (first | apply Kd.R_alloc | apply Kd.R_drewN | apply Kd.R_drew)); exact HO252.out⟩, ⟨by repeat (first | (with_reducible first | exact HB.out | apply below_alloc | apply pw_below_drewN | apply below_drew1 | refine below_set ?_ GE244.out) | exact HB.out)⟩⟩
end Go.Proofs.Ythpeiboobnnfgaa.E
end
section
namespace Go.Proofs.Ythpeiboobnnfgaa.E
open Go.RowKit Go.Proofs.YthpeiboobnnfgaaW.PrintWords Go.Proofs.YthpeiboobnnfgaaW.PrintLast Go.Proofs.YthpeiboobnnfgaaW.PrintMore
attribute [local go_sem] max2_int min2_int max_two min_two max_three min_three max_four min_four
set_option linter.unusedVariables false
set_option linter.unusedSimpArgs false
attribute [local go_sem] en63_mk1 en63_mk2 en63_mk3 en63_mk4
attribute [local go_sem] str_leq_ str_gtr_ str_geq_
def impl_lessKept.f (a0 a1_0 a1_1 a1_2 : Int) : Option Int := if a0 = 2 then some (-1) else some 0
set_option maxHeartbeats 400000 in
theorem impl_lessKept.calls (a0 a1_0 a1_1 a1_2 r : Int) (w : World) (h : impl_lessKept.f a0 a1_0 a1_1 a1_2 = some r) :
  Calls Try.prog 36 #[en63W a0, .agg #[.int .i64 a1_0, .int .i64 a1_1, .int .i64 a1_2]] w fun e w' => e = .returned (.int .i64 r) ∧ Below w.heap.size w w' := by
 have hta := en63_ta73
 unfold impl_lessKept.f at h
 by_cases h2 : a0 = 2
 ·rw [if_pos h2] at h
  obtain rfl := Option.some.inj h
  have hb : (a0 == 2) = true := beq_iff_eq.mpr h2
  clear h h2
  go_enter Try.func36, Try.ntmps36
  go_wp2
  go_ret
  exact ⟨rfl, by repeat (first | exact Below.refl _ _ | apply below_alloc | apply pw_below_drewN | apply below_drew1)⟩
 rw [if_neg h2] at h
 obtain rfl := Option.some.inj h
 have hb : (a0 == 2) = false := beq_eq_false_iff_ne.mpr h2
 clear h h2
 go_enter Try.func36, Try.ntmps36
 go_wp2
 go_ret
 exact ⟨rfl, by repeat (first | exact Below.refl _ _ | apply below_alloc | apply pw_below_drewN | apply below_drew1)⟩
end Go.Proofs.Ythpeiboobnnfgaa.E
end
