/- Texts of this claim, joined by a program of this session's (wip/tools/pack.py). -/
import Derived.Test.YtejoneninbdjbaaDoorRowFnStemChangesK0
section
namespace Go.Proofs.YtejoneninbdjbaaDoor.E
open Go.RowKit Go.Proofs.YtejoneninbdjbaaDoorW.PrintWords Go.Proofs.YtejoneninbdjbaaDoorW.PrintLast Go.Proofs.YtejoneninbdjbaaDoorW.PrintMore
attribute [local go_sem] max2_int min2_int max_two min_two max_three min_three max_four min_four
set_option linter.unusedVariables false
set_option linter.unusedSimpArgs false
attribute [local go_sem] str_leq_ str_gtr_ str_geq_
mutual
def impl_StemValid.j0 : Nat → List Int → Bool → Option (Bool)
 | 0, _, _ => none
 | k + 1, x1, x34 => if x34 = true then (some false) else (if 1 ≤ (x1.length : Int) then (impl_StemValid.l0 k (x1.drop 1) ((x1.drop 1).length : Int) 0) else (none))
def impl_StemValid.l0 : Nat → List Int → Int → Int → Option (Bool)
 | 0, _, _, _ => none
 | k + 1, x36, x37, x38 => if x38 < x37 then (if 0 ≤ x38 then (if x38 < (x36.length : Int) then (if (rd x36 x38) < 0 then (some false) else (if (rd x36 x38) > x38 then (some false) else (impl_StemValid.l0 k x36 x37 (wrap64 (x38 + 1))))) else (none)) else (none)) else (some true)
end
def impl_StemValid.f (k : Nat) (l0 : List ByteArray) (l1 : List Int) : Option (Bool) := (impl_lostOf.f k l0).bind fun bt175 => (if bt175.2 = true then (if bt175.1 = (l0.length : Int) then (impl_StemValid.j0 k l1 true) else (if (l1.length : Int) = (l0.length : Int) then (if 0 < (l1.length : Int) then (impl_StemValid.j0 k l1 ((rd l1 0) != (-1))) else (none)) else (impl_StemValid.j0 k l1 true))) else (impl_StemValid.j0 k l1 true))
set_option maxHeartbeats 8000000 in
set_option maxRecDepth 100000 in
theorem impl_StemValid.calls (k : Nat) (A0 : Option Addr) (c0 : Nat) (l0 : List ByteArray) (A1 : Option Addr) (c1 : Nat) (l1 : List Int) (r : Bool) (w : World) (hr0 : Kd.C Kd.string w A0 l0.length l0) (hc0 : l0.length ≤ c0) (hr1 : Kd.C (Kd.int .i64) w A1 l1.length l1) (hc1 : l1.length ≤ c1) (h : impl_StemValid.f k l0 l1 = some r) :
  Calls Tryd.prog 30 #[.slice A0 l0.length c0, .slice A1 l1.length c1] w fun e w' => e = .returned (.bool r) ∧ Below w.heap.size w w' := by
 have HR0 := Aside0.mk hr0
 have HC0 := Aside0.mk hc0
 clear hr0 hc0
 have HR1 := Aside0.mk hr1
 have HC1 := Aside0.mk hc1
 clear hr1 hc1
 have HB := Aside0.mk (Below.refl w.heap.size w)
 have H : ((impl_lostOf.f k l0).bind fun bt175 => (if bt175.2 = true then (if bt175.1 = (l0.length : Int) then (impl_StemValid.j0 k l1 true) else (if (l1.length : Int) = (l0.length : Int) then (if 0 < (l1.length : Int) then (impl_StemValid.j0 k l1 ((rd l1 0) != (-1))) else (none)) else (impl_StemValid.j0 k l1 true))) else (impl_StemValid.j0 k l1 true))) = some r := h
 clear h
 replace H := Option.bind_eq_some_iff.mp H
 obtain ⟨⟨t175, t176⟩, A30, H⟩ := H
 replace H : (if t176 = true then (if t175 = (l0.length : Int) then (impl_StemValid.j0 k l1 true) else (if (l1.length : Int) = (l0.length : Int) then (if 0 < (l1.length : Int) then (impl_StemValid.j0 k l1 ((rd l1 0) != (-1))) else (none)) else (impl_StemValid.j0 k l1 true))) else (impl_StemValid.j0 k l1 true)) = some r := H
 have A3 := Aside0.mk A30
 clear A30
 have HC4 := Aside0.mk H
 clear H
 go_enter Tryd.func30, Tryd.ntmps30
 go_upto_region 2 with (first | ((with_reducible refine gate_callee (f := 61) rfl ?_); refine goesL_ (some 11) rfl rfl Tryd.func61 (by kernel_rfl) rfl #[.slice A0 l0.length c0] rfl (by (try simp only [List.map_toArray, List.map_cons, List.map_nil]); first | done | rfl | (simp only [List.length_drop, List.length_take]; rfl)) ?_; (with_reducible refine (impl_lostOf.calls k _ _ l0 t175 t176 _ ?side1 ?side2 A3.out).mono ?_); (case side1 => repeat (first | exact HR0.out | (with_reducible refine Kd.C_alloc ?_ _) | (with_reducible refine Kd.C_drewN ?_ _) | (with_reducible refine Kd.C_drew ?_))); (case side2 => exact HC0.out); rintro e w5 ⟨rfl, hb⟩; refine ⟨_, rfl, ?_⟩; have n0_ := Aside0.mk (below_step (by repeat (first | (with_reducible first | exact HB.out | apply below_alloc | apply pw_below_drewN | apply below_drew1) | exact HB.out)) hb); clear HB; have HB := n0_; clear n0_; (try clear hb); (try clear hb2); (try clear hk); (try clear hi)))
 (try simp only [Act.put, List.setIfInBounds_toArray, List.set_cons_zero, List.set_cons_succ])
 go_cut [34] (fun v34 wc => ∃ (kq : Nat) (x34_3 : Bool), v34 = .bool x34_3 ∧ Aside0 (impl_StemValid.j0 kq l1 x34_3 = some r) ∧ Aside0 (kq ≤ k) ∧ Aside0 (Below w.heap.size w wc))
 case first =>
  have H := HC4.out
  clear HC4
  by_cases c6 : t176 = true
  rotate_left
  ·replace c6 := Bool.eq_false_iff.mpr c6
   subst c6
   have H1 : (impl_StemValid.j0 k l1 true) = some r := by rw [if_neg (show ¬ (false = true) by decide)] at H; exact H
   clear H
   have H := H1
   clear H1
   have H' := Aside0.mk H
   clear H
   go_wp2
   go_meet
   case rel => exact ⟨_, (true), (by first | rfl | (simp; done) | (simp [*]; done)), H', ⟨by first | omega | exact Nat.le_refl _⟩, ⟨by repeat (first | (with_reducible first | exact HB.out | apply below_alloc | apply pw_below_drewN | apply below_drew1) | exact HB.out)⟩⟩
  subst c6
  have H1 : (if t175 = (l0.length : Int) then (impl_StemValid.j0 k l1 true) else (if (l1.length : Int) = (l0.length : Int) then (if 0 < (l1.length : Int) then (impl_StemValid.j0 k l1 ((rd l1 0) != (-1))) else (none)) else (impl_StemValid.j0 k l1 true))) = some r := by rw [if_pos rfl] at H; exact H
  clear H
  have H := H1
  clear H1
  by_cases c7 : t175 = (l0.length : Int)
  ·rw [if_pos c7] at H
   have c7b0 : (t175 == (l0.length : Int)) = true := beq_iff_eq.mpr c7
   have c7b1 : (t175 != (l0.length : Int)) = false := bne_eq_false_iff_eq.mpr c7
   clear c7
   (first | rw [c7b0] | (simp only [i64_w, i32_w]; rw [c7b0]) | skip)
   have H' := Aside0.mk H
   clear H
   go_wp2
   go_meet
   case rel => exact ⟨_, (true), (by first | rfl | (simp; done) | (simp [*]; done)), H', ⟨by first | omega | exact Nat.le_refl _⟩, ⟨by repeat (first | (with_reducible first | exact HB.out | apply below_alloc | apply pw_below_drewN | apply below_drew1) | exact HB.out)⟩⟩
  rw [if_neg c7] at H
  have c7b0 : (t175 == (l0.length : Int)) = false := beq_eq_false_iff_ne.mpr c7
  have c7b1 : (t175 != (l0.length : Int)) = true := bne_iff_ne.mpr c7
  (first | rw [c7b0] | (simp only [i64_w, i32_w]; rw [c7b0]) | skip)
  by_cases c8 : (l1.length : Int) = (l0.length : Int)
  rotate_left
  ·rw [if_neg c8] at H
   have c8b0 : ((l1.length : Int) == (l0.length : Int)) = false := beq_eq_false_iff_ne.mpr c8
   have c8b1 : ((l1.length : Int) != (l0.length : Int)) = true := bne_iff_ne.mpr c8
   have c8b2 : (l1.length == l0.length) = false := by first | simpa using c8 | (simp at c8 ⊢; omega)
   have H' := Aside0.mk H
   clear H
   go_wp2
   go_meet
   case rel => exact ⟨_, (true), (by first | rfl | (simp; done) | (simp [*]; done)), H', ⟨by first | omega | exact Nat.le_refl _⟩, ⟨by repeat (first | (with_reducible first | exact HB.out | apply below_alloc | apply pw_below_drewN | apply below_drew1) | exact HB.out)⟩⟩
  rw [if_pos c8] at H
  have c8b0 : ((l1.length : Int) == (l0.length : Int)) = true := beq_iff_eq.mpr c8
  have c8b1 : ((l1.length : Int) != (l0.length : Int)) = false := bne_eq_false_iff_eq.mpr c8
  have c8b2 : (l1.length == l0.length) = true := by first | simpa using c8 | (simp at c8 ⊢; omega)
  clear c8
  by_cases c9 : 0 < (l1.length : Int)
  rotate_left
  ·rw [if_neg c9] at H
   exact absurd H (by simp)
  rw [if_pos c9] at H
  have c9b0 : decide (0 < (l1.length : Int)) = true := decide_eq_true c9
  have c9b1 : decide (0 < l1.length) = true := decide_eq_true (by omega)
  clear c9
  have H' := Aside0.mk H
  clear H
  have p177 : 0 ≤ (0 : Int) := (by omega)
  have q177 : 0 < (l1.length : Int) := of_decide_eq_true (by first | (with_reducible assumption) | assumption)
  obtain ⟨ad177, e177, hx177_0⟩ := Kd.at_int HR1.out 0 p177 q177
  cases e177
  have qi177 : (0 < l1.length) = True := eq_true (by omega)
  (try rw [show ((0 : Int)).toNat = 0 from rfl] at hx177_0)
  (try rw [Addr.add_zero'] at hx177_0)
  replace hx177_0 := (HB.out.cell (World.block_lt_of_cell? w _ hx177_0)).trans hx177_0
  replace p177 := eq_true p177
  replace q177 := eq_true q177
  go_wp2
  go_meet
  case rel => exact ⟨_, (((rd l1 0) != (-1))), (by first | rfl | (simp; done) | (simp [*]; done)), H', ⟨by first | omega | exact Nat.le_refl _⟩, ⟨by repeat (first | (with_reducible first | exact HB.out | apply below_alloc | apply pw_below_drewN | apply below_drew1) | exact HB.out)⟩⟩
 case rest =>
  clear HC4
  try clear c1
  try clear p1
  try clear q1
  try clear hx1
  try clear qi1
  try clear p2
  try clear c3
  try clear c6
  try clear c7
  try clear c7b0
  try clear c7b1
  try clear c8
  try clear c8b0
  try clear c8b1
  try clear c8b2
  try clear c9
  try clear c9b0
  try clear c9b1
  try clear hx177_0
  try clear p177
  try clear q177
  obtain ⟨kq, x34_3, rfl, HA, HJ3, HB⟩ := hcut
  cases kq with
  | zero => exact absurd HA.out (by simp [impl_StemValid.j0])
  | succ kj3 =>
   have H := HA.out
   clear HA
   simp only [impl_StemValid.j0] at H
   by_cases c10 : x34_3 = true
   ·subst c10
    have H1 : (some false) = some r := by rw [if_pos rfl] at H; exact H
    clear H
    have H := H1
    clear H1
    obtain rfl := Option.some.inj H
    go_wp2
    go_ret
    exact ⟨by first | rfl | (simp [errW_none, errW_some] <;> rfl) | (simp [*, errW_none, errW_some] <;> rfl), by repeat (first | (with_reducible first | exact HB.out | apply below_alloc | apply pw_below_drewN | apply below_drew1) | exact HB.out)⟩
   replace c10 := Bool.eq_false_iff.mpr c10
   subst c10
   have H1 : (if 1 ≤ (l1.length : Int) then (impl_StemValid.l0 kj3 (l1.drop 1) ((l1.drop 1).length : Int) 0) else (none)) = some r := by rw [if_neg (show ¬ (false = true) by decide)] at H; exact H
   clear H
   have H := H1
   clear H1
   by_cases c11 : 1 ≤ (l1.length : Int)
   rotate_left
   ·rw [if_neg c11] at H
    exact absurd H (by simp)
   rw [if_pos c11] at H
   have c11b0 := eq_true c11
   have c11b1 : decide (1 ≤ (l1.length : Int)) = true := decide_eq_true c11
   clear c11
   have H' := Aside0.mk H
   clear H
   obtain ⟨i012, hi012, _, hsz12, _⟩ := info_parts info3
   obtain ⟨A12, hcut12, hA12, hC12⟩ := print_drop_of (P := Tryd.prog) (Value.int .i64) 0 29 3 .i64 Tryd.underlying29 hi012 hsz12 A1 c1 l1 1 (by omega) (of_decide_eq_true (by first | (with_reducible assumption) | assumption)) HC1.out
   have HR178 := Aside0.mk (Kd.C_of_reads (h1 := fun _ => rfl) (hA12 _ (Kd.reads_of_C HR1.out)))
   have HC178 := Aside0.mk hC12
   clear hA12 hC12 hi012 hsz12
   go_wp2
   go_loopg [38] kj3 (fun kq v38 w' => ∃ (x38_2 : Int), v38 = .int .i64 x38_2 ∧ Aside0 (impl_StemValid.l0 kq (l1.drop 1) ((l1.drop 1).length : Int) x38_2 = some r) ∧ Aside0 (kq ≤ kj3) ∧ Aside0 (Below w.heap.size w w'))
   case atStart => exact ⟨(0), (by first | rfl | (simp; done) | (simp [*]; done)), H', ⟨Nat.le_refl _⟩, ⟨by repeat (first | (with_reducible first | exact HB.out | apply below_alloc | apply pw_below_drewN | apply below_drew1) | exact HB.out)⟩⟩
   case round =>
    clear H'
    try clear c1
    try clear p1
    try clear q1
    try clear hx1
    try clear qi1
    try clear p2
    try clear c3
    try clear c6
    try clear c7
    try clear c7b0
    try clear c7b1
    try clear c8
    try clear c8b0
    try clear c8b1
    try clear c8b2
    try clear c9
    try clear c9b0
    try clear c9b1
    try clear c10
    try clear c11
    try clear c11b0
    try clear c11b1
    try clear hx177_0
    try clear p1
    try clear p177
    try clear p2
    try clear q1
    try clear q177
    obtain ⟨x38_2, rfl, HA, HK2, HB⟩ := hrel
    cases gk with
    | zero => exact absurd HA.out (by simp [impl_StemValid.l0])
    | succ k2 =>
     have H := HA.out
     clear HA
     simp only [impl_StemValid.l0] at H
     by_cases c13 : x38_2 < ((l1.drop 1).length : Int)
     rotate_left
     ·rw [if_neg c13] at H
      have c13b0 : decide (x38_2 < ((l1.drop 1).length : Int)) = false := decide_eq_false c13
      have c13b0c := c13b0
      (try simp only [List.drop_one, List.length_drop, List.length_tail] at c13b0c)
      clear c13
      obtain rfl := Option.some.inj H
      go_wp2
      go_ret
      exact ⟨by first | rfl | (simp [errW_none, errW_some] <;> rfl) | (simp [*, errW_none, errW_some] <;> rfl), by repeat (first | (with_reducible first | exact HB.out | apply below_alloc | apply pw_below_drewN | apply below_drew1) | exact HB.out)⟩
     rw [if_pos c13] at H
     have c13b0 : decide (x38_2 < ((l1.drop 1).length : Int)) = true := decide_eq_true c13
     have c13b0c := c13b0
     (try simp only [List.drop_one, List.length_drop, List.length_tail] at c13b0c)
     clear c13
     by_cases c14 : 0 ≤ x38_2
     rotate_left
     ·rw [if_neg c14] at H
      exact absurd H (by simp)
     rw [if_pos c14] at H
     have c14b0 : decide (0 ≤ x38_2) = true := decide_eq_true c14
     clear c14
     by_cases c15 : x38_2 < ((l1.drop 1).length : Int)
     rotate_left
     ·rw [if_neg c15] at H
      exact absurd H (by simp)
     rw [if_pos c15] at H
     have c15b0 : decide (x38_2 < ((l1.drop 1).length : Int)) = true := decide_eq_true c15
     have c15b0c := c15b0
     (try simp only [List.drop_one, List.length_drop, List.length_tail] at c15b0c)
     clear c15
     by_cases c16 : (rd (l1.drop 1) x38_2) < 0
     ·rw [if_pos c16] at H
      have c16b0 : decide ((rd (l1.drop 1) x38_2) < 0) = true := decide_eq_true c16
      have c16b0c := c16b0
      (try simp only [List.drop_one, List.length_drop, List.length_tail] at c16b0c)
      clear c16
      obtain rfl := Option.some.inj H
      have p179 : 0 ≤ (x38_2 : Int) := of_decide_eq_true (by first | (with_reducible assumption) | assumption)
      have q179 : x38_2 < ((l1.drop 1).length : Int) := of_decide_eq_true (by first | (with_reducible assumption) | assumption)
      obtain ⟨ad179, e179, hx179_0⟩ := Kd.at_int HR178.out x38_2 p179 q179
      cases e179
      replace hx179_0 := (HB.out.cell (World.block_lt_of_cell? w _ hx179_0)).trans hx179_0
      replace p179 := eq_true p179
      replace q179 := eq_true q179
      have q179c := q179
      (try simp only [List.drop_one, List.length_drop, List.length_tail] at q179c)
      go_wp2
      go_ret
      exact ⟨by first | rfl | (simp [errW_none, errW_some] <;> rfl) | (simp [*, errW_none, errW_some] <;> rfl), by repeat (first | (with_reducible first | exact HB.out | apply below_alloc | apply pw_below_drewN | apply below_drew1) | exact HB.out)⟩
     rw [if_neg c16] at H
     have c16b0 : decide ((rd (l1.drop 1) x38_2) < 0) = false := decide_eq_false c16
     have c16b0c := c16b0
     (try simp only [List.drop_one, List.length_drop, List.length_tail] at c16b0c)
     clear c16
     by_cases c17 : (rd (l1.drop 1) x38_2) > x38_2
     ·rw [if_pos c17] at H
      have c17b0 : decide (x38_2 < (rd (l1.drop 1) x38_2)) = true := decide_eq_true c17
      have c17b0c := c17b0
      (try simp only [List.drop_one, List.length_drop, List.length_tail] at c17b0c)
      clear c17
      obtain rfl := Option.some.inj H
      have p179 : 0 ≤ (x38_2 : Int) := of_decide_eq_true (by first | (with_reducible assumption) | assumption)
      have q179 : x38_2 < ((l1.drop 1).length : Int) := of_decide_eq_true (by first | (with_reducible assumption) | assumption)
      obtain ⟨ad179, e179, hx179_0⟩ := Kd.at_int HR178.out x38_2 p179 q179
      cases e179
      replace hx179_0 := (HB.out.cell (World.block_lt_of_cell? w _ hx179_0)).trans hx179_0
      replace p179 := eq_true p179
      replace q179 := eq_true q179
      have q179c := q179
      (try simp only [List.drop_one, List.length_drop, List.length_tail] at q179c)
      go_wp2
      go_ret
      exact ⟨by first | rfl | (simp [errW_none, errW_some] <;> rfl) | (simp [*, errW_none, errW_some] <;> rfl), by repeat (first | (with_reducible first | exact HB.out | apply below_alloc | apply pw_below_drewN | apply below_drew1) | exact HB.out)⟩
     rw [if_neg c17] at H
     have c17b0 : decide (x38_2 < (rd (l1.drop 1) x38_2)) = false := decide_eq_false c17
     have c17b0c := c17b0
     (try simp only [List.drop_one, List.length_drop, List.length_tail] at c17b0c)
     clear c17
     have H' := Aside0.mk H
     clear H
     have p179 : 0 ≤ (x38_2 : Int) := of_decide_eq_true (by first | (with_reducible assumption) | assumption)
     have q179 : x38_2 < ((l1.drop 1).length : Int) := of_decide_eq_true (by first | (with_reducible assumption) | assumption)
     obtain ⟨ad179, e179, hx179_0⟩ := Kd.at_int HR178.out x38_2 p179 q179
     cases e179
     replace hx179_0 := (HB.out.cell (World.block_lt_of_cell? w _ hx179_0)).trans hx179_0
     replace p179 := eq_true p179
     replace q179 := eq_true q179
     have q179c := q179
     (try simp only [List.drop_one, List.length_drop, List.length_tail] at q179c)
     go_wp2
     go_roundg k2
     case measure => have := HJ3.out; have := HK2.out; omega
     case rel => exact ⟨(wrap64 (x38_2 + 1)), (by first | rfl | (simp; done) | (simp [*]; done)), H', ⟨by have := HJ3.out; have := HK2.out; omega⟩, ⟨by repeat (first | (with_reducible first | exact HB.out | apply below_alloc | apply pw_below_drewN | apply below_drew1) | exact HB.out)⟩⟩
end Go.Proofs.YtejoneninbdjbaaDoor.E
end
section
namespace Go.Proofs.YtejoneninbdjbaaDoor.E
open Go.RowKit Go.Proofs.YtejoneninbdjbaaDoorW.PrintWords Go.Proofs.YtejoneninbdjbaaDoorW.PrintLast Go.Proofs.YtejoneninbdjbaaDoorW.PrintMore
attribute [local go_sem] max2_int min2_int max_two min_two max_three min_three max_four min_four
set_option linter.unusedVariables false
set_option linter.unusedSimpArgs false
attribute [local go_sem] str_leq_ str_gtr_ str_geq_
def impl_farBetween.l0 : Nat → ByteArray → ByteArray → Int → Int → Int → Option (Int)
 | 0, _, _, _, _, _ => none
 | k + 1, x0, x1, x5, x8, x9 => if x9 < x8 then (if 0 ≤ x9 then (if x9 < (x0.size : Int) then (if x9 < (x1.size : Int) then (if (bt x0 x9) = (bt x1 x9) then (impl_farBetween.l0 k x0 x1 x5 x8 (wrap64 (x9 + 1))) else (impl_farBetween.l0 k x0 x1 (wrap64 (x5 + 1)) x8 (wrap64 (x9 + 1)))) else (none)) else (none)) else (none)) else (some x5)
def impl_farBetween.f (k : Nat) (a0 : ByteArray) (a1 : ByteArray) : Option (Int) := impl_farBetween.l0 k a0 a1 0 (a0.size : Int) 0
set_option maxHeartbeats 8000000 in
set_option maxRecDepth 100000 in
theorem impl_farBetween.calls (k : Nat) (a0 : ByteArray) (a1 : ByteArray) (r : Int) (w : World) (h : impl_farBetween.f k a0 a1 = some r) :
  Calls Tryd.prog 64 #[.string a0, .string a1] w fun e w' => e = .returned (.int .i64 r) ∧ Drawn0 w w' := by
 have H : (impl_farBetween.l0 k a0 a1 0 (a0.size : Int) 0) = some r := h
 clear h
 have H' := Aside0.mk H
 clear H
 go_enter Tryd.func64, Tryd.ntmps64
 go_wp2
 repeat (go_quiet (fail); try go_wp2)
 go_loopg [5, 9] k (fun kq v5 v9 w' => ∃ (x5_1 : Int) (x9_1 : Int), v5 = .int .i64 x5_1 ∧ v9 = .int .i64 x9_1 ∧ Aside0 (impl_farBetween.l0 kq a0 a1 x5_1 (a0.size : Int) x9_1 = some r) ∧ Aside0 (kq ≤ k) ∧ Drawn0 w w')
 case atStart => exact ⟨(0), (0), (by first | rfl | (simp; done) | (simp [*]; done)), (by first | rfl | (simp; done) | (simp [*]; done)), H', ⟨Nat.le_refl _⟩, by repeat (first | exact Drawn0.refl _ | apply Drawn0.step)⟩
 case round =>
  clear H'
  try clear p2
  obtain ⟨x5_1, x9_1, rfl, rfl, HA, HK1, ⟨m1, rfl⟩⟩ := hrel
  cases gk with
  | zero => exact absurd HA.out (by simp [impl_farBetween.l0])
  | succ k1 =>
   have H := HA.out
   clear HA
   simp only [impl_farBetween.l0] at H
   by_cases c3 : x9_1 < (a0.size : Int)
   rotate_left
   ·rw [if_neg c3] at H
    have c3b0 : decide (x9_1 < (a0.size : Int)) = false := decide_eq_false c3
    clear c3
    obtain rfl := Option.some.inj H
    go_wp2
    repeat (go_quiet (fail); try go_wp2)
    go_ret
    exact ⟨by first | rfl | (simp; done) | (simp [*]; done), by repeat (first | exact Drawn0.refl _ | apply Drawn0.step)⟩
   rw [if_pos c3] at H
   have c3b0 : decide (x9_1 < (a0.size : Int)) = true := decide_eq_true c3
   clear c3
   by_cases c4 : 0 ≤ x9_1
   rotate_left
   ·rw [if_neg c4] at H
    exact absurd H (by simp)
   rw [if_pos c4] at H
   have c4b0 : decide (0 ≤ x9_1) = true := decide_eq_true c4
   clear c4
   by_cases c5 : x9_1 < (a0.size : Int)
   rotate_left
   ·rw [if_neg c5] at H
    exact absurd H (by simp)
   rw [if_pos c5] at H
   have c5b0 : decide (x9_1 < (a0.size : Int)) = true := decide_eq_true c5
   clear c5
   by_cases c7 : x9_1 < (a1.size : Int)
   rotate_left
   ·rw [if_neg c7] at H
    exact absurd H (by simp)
   rw [if_pos c7] at H
   have c7b0 : decide (x9_1 < (a1.size : Int)) = true := decide_eq_true c7
   clear c7
   by_cases c9 : (bt a0 x9_1) = (bt a1 x9_1)
   rotate_left
   ·rw [if_neg c9] at H
    have c9b0 : ((bt a0 x9_1) == (bt a1 x9_1)) = false := beq_eq_false_iff_ne.mpr c9
    have c9b1 : ((bt a0 x9_1) != (bt a1 x9_1)) = true := bne_iff_ne.mpr c9
    have H' := Aside0.mk H
    clear H
    have p6 : 0 ≤ (x9_1 : Int) := of_decide_eq_true (by first | (with_reducible assumption) | assumption)
    have q6 : x9_1 < (a0.size : Int) := of_decide_eq_true (by first | (with_reducible assumption) | assumption)
    have hx6 := bt_at a0 x9_1
    replace p6 := eq_true p6
    replace q6 := eq_true q6
    have p8 : 0 ≤ (x9_1 : Int) := of_decide_eq_true (by first | (with_reducible assumption) | assumption)
    have q8 : x9_1 < (a1.size : Int) := of_decide_eq_true (by first | (with_reducible assumption) | assumption)
    have hx8 := bt_at a1 x9_1
    replace p8 := eq_true p8
    replace q8 := eq_true q8
    go_wp2
    repeat (go_quiet (fail); try go_wp2)
    go_roundg k1
    case measure => have := HK1.out; omega
    case rel => exact ⟨(wrap64 (x5_1 + 1)), (wrap64 (x9_1 + 1)), (by first | rfl | (simp; done) | (simp [*]; done)), (by first | rfl | (simp; done) | (simp [*]; done)), H', ⟨by have := HK1.out; omega⟩, by repeat (first | exact Drawn0.refl _ | apply Drawn0.step)⟩
   rw [if_pos c9] at H
   have c9b0 : ((bt a0 x9_1) == (bt a1 x9_1)) = true := beq_iff_eq.mpr c9
   have c9b1 : ((bt a0 x9_1) != (bt a1 x9_1)) = false := bne_eq_false_iff_eq.mpr c9
   clear c9
   have H' := Aside0.mk H
   clear H
   have p6 : 0 ≤ (x9_1 : Int) := of_decide_eq_true (by first | (with_reducible assumption) | assumption)
   have q6 : x9_1 < (a0.size : Int) := of_decide_eq_true (by first | (with_reducible assumption) | assumption)
   have hx6 := bt_at a0 x9_1
   replace p6 := eq_true p6
   replace q6 := eq_true q6
   have p8 : 0 ≤ (x9_1 : Int) := of_decide_eq_true (by first | (with_reducible assumption) | assumption)
   have q8 : x9_1 < (a1.size : Int) := of_decide_eq_true (by first | (with_reducible assumption) | assumption)
   have hx8 := bt_at a1 x9_1
   replace p8 := eq_true p8
   replace q8 := eq_true q8
   go_wp2
   repeat (go_quiet (fail); try go_wp2)
   go_roundg k1
   case measure => have := HK1.out; omega
   case rel => exact ⟨(x5_1), (wrap64 (x9_1 + 1)), (by first | rfl | (simp; done) | (simp [*]; done)), (by first | rfl | (simp; done) | (simp [*]; done)), H', ⟨by have := HK1.out; omega⟩, by repeat (first | exact Drawn0.refl _ | apply Drawn0.step)⟩
end Go.Proofs.YtejoneninbdjbaaDoor.E
end
section
namespace Go.Proofs.YtejoneninbdjbaaDoor.E
open Go.RowKit Go.Proofs.YtejoneninbdjbaaDoorW.PrintWords Go.Proofs.YtejoneninbdjbaaDoorW.PrintLast Go.Proofs.YtejoneninbdjbaaDoorW.PrintMore
attribute [local go_sem] max2_int min2_int max_two min_two max_three min_three max_four min_four
set_option linter.unusedVariables false
set_option linter.unusedSimpArgs false
attribute [local go_sem] str_leq_ str_gtr_ str_geq_
def impl_changesOf.l0 : Nat → List ByteArray → List Int → Int → Int → Option (Int)
 | 0, _, _, _, _ => none
 | k + 1, x0, x1, x5, x6 => if x6 < (x0.length : Int) then (if 0 ≤ x6 then (if x6 < (x1.length : Int) then (if 0 ≤ (rd x1 x6) then (if (rd x1 x6) < (x0.length : Int) then ((impl_farBetween.f k (rdOf ByteArray.empty x0 x6) (rdOf ByteArray.empty x0 (rd x1 x6))).bind fun t366 => (impl_changesOf.l0 k x0 x1 (wrap64 (x5 + t366)) (wrap64 (x6 + 1)))) else (none)) else (none)) else (none)) else (none)) else (some x5)
def impl_changesOf.f (k : Nat) (l0 : List ByteArray) (l1 : List Int) : Option (Int) := impl_changesOf.l0 k l0 l1 0 1
set_option maxHeartbeats 8000000 in
set_option maxRecDepth 100000 in
theorem impl_changesOf.calls (k : Nat) (A0 : Option Addr) (c0 : Nat) (l0 : List ByteArray) (A1 : Option Addr) (c1 : Nat) (l1 : List Int) (r : Int) (w : World) (hr0 : Kd.C Kd.string w A0 l0.length l0) (hc0 : l0.length ≤ c0) (hr1 : Kd.C (Kd.int .i64) w A1 l1.length l1) (hc1 : l1.length ≤ c1) (h : impl_changesOf.f k l0 l1 = some r) :
  Calls Tryd.prog 69 #[.slice A0 l0.length c0, .slice A1 l1.length c1] w fun e w' => e = .returned (.int .i64 r) ∧ Drawn0 w w' := by
 have HR0 := Aside0.mk hr0
 have HC0 := Aside0.mk hc0
 clear hr0 hc0
 have HR1 := Aside0.mk hr1
 have HC1 := Aside0.mk hc1
 clear hr1 hc1
 have H : (impl_changesOf.l0 k l0 l1 0 1) = some r := h
 clear h
 have H' := Aside0.mk H
 clear H
 go_enter Tryd.func69, Tryd.ntmps69
 go_wp2
 repeat (go_quiet (fail); try go_wp2)
 go_loopg [5, 6] k (fun kq v5 v6 w' => ∃ (x5_1 : Int) (x6_1 : Int), v5 = .int .i64 x5_1 ∧ v6 = .int .i64 x6_1 ∧ Aside0 (impl_changesOf.l0 kq l0 l1 x5_1 x6_1 = some r) ∧ Aside0 (kq ≤ k) ∧ Drawn0 w w')
 case atStart => exact ⟨(0), (1), (by first | rfl | (simp; done) | (simp [*]; done)), (by first | rfl | (simp; done) | (simp [*]; done)), H', ⟨Nat.le_refl _⟩, by repeat (first | exact Drawn0.refl _ | apply Drawn0.step)⟩
 case round =>
  clear H'
  try clear c1
  try clear p2
  obtain ⟨x5_1, x6_1, rfl, rfl, HA, HK1, ⟨m1, rfl⟩⟩ := hrel
  cases gk with
  | zero => exact absurd HA.out (by simp [impl_changesOf.l0])
  | succ k1 =>
   have H := HA.out
   clear HA
   simp only [impl_changesOf.l0] at H
   by_cases c3 : x6_1 < (l0.length : Int)
   rotate_left
   ·rw [if_neg c3] at H
    have c3b0 : decide (x6_1 < (l0.length : Int)) = false := decide_eq_false c3
    clear c3
    obtain rfl := Option.some.inj H
    go_wp2
    repeat (go_quiet (fail); try go_wp2)
    go_ret
    exact ⟨by first | rfl | (simp; done) | (simp [*]; done), by repeat (first | exact Drawn0.refl _ | apply Drawn0.step)⟩
   rw [if_pos c3] at H
   have c3b0 : decide (x6_1 < (l0.length : Int)) = true := decide_eq_true c3
   clear c3
   by_cases c4 : 0 ≤ x6_1
   rotate_left
   ·rw [if_neg c4] at H
    exact absurd H (by simp)
   rw [if_pos c4] at H
   have c4b0 : decide (0 ≤ x6_1) = true := decide_eq_true c4
   clear c4
   by_cases c5 : x6_1 < (l1.length : Int)
   rotate_left
   ·rw [if_neg c5] at H
    exact absurd H (by simp)
   rw [if_pos c5] at H
   have c5b0 : decide (x6_1 < (l1.length : Int)) = true := decide_eq_true c5
   clear c5
   by_cases c6 : 0 ≤ (rd l1 x6_1)
   rotate_left
   ·rw [if_neg c6] at H
    exact absurd H (by simp)
   rw [if_pos c6] at H
   have c6b0 : decide (0 ≤ (rd l1 x6_1)) = true := decide_eq_true c6
   clear c6
   by_cases c7 : (rd l1 x6_1) < (l0.length : Int)
   rotate_left
   ·rw [if_neg c7] at H
    exact absurd H (by simp)
   rw [if_pos c7] at H
   have c7b0 : decide ((rd l1 x6_1) < (l0.length : Int)) = true := decide_eq_true c7
   clear c7
   replace H := Option.bind_eq_some_iff.mp H
   obtain ⟨t366, A80, H⟩ := H
   replace H : (impl_changesOf.l0 k1 l0 l1 (wrap64 (x5_1 + t366)) (wrap64 (x6_1 + 1))) = some r := H
   have A8 := Aside0.mk A80
   clear A80
   have H' := Aside0.mk H
   clear H
   have p363 : 0 ≤ (x6_1 : Int) := of_decide_eq_true (by first | (with_reducible assumption) | assumption)
   have q363 : x6_1 < (l0.length : Int) := of_decide_eq_true (by first | (with_reducible assumption) | assumption)
   obtain ⟨ad363, e363, hx363_0⟩ := Kd.at_string HR0.out x6_1 p363 q363
   cases e363
   replace p363 := eq_true p363
   replace q363 := eq_true q363
   have p364 : 0 ≤ (x6_1 : Int) := of_decide_eq_true (by first | (with_reducible assumption) | assumption)
   have q364 : x6_1 < (l1.length : Int) := of_decide_eq_true (by first | (with_reducible assumption) | assumption)
   obtain ⟨ad364, e364, hx364_0⟩ := Kd.at_int HR1.out x6_1 p364 q364
   cases e364
   replace p364 := eq_true p364
   replace q364 := eq_true q364
   have p365 : 0 ≤ ((rd l1 x6_1) : Int) := of_decide_eq_true (by first | (with_reducible assumption) | assumption)
   have q365 : (rd l1 x6_1) < (l0.length : Int) := of_decide_eq_true (by first | (with_reducible assumption) | assumption)
   obtain ⟨ad365, e365, hx365_0⟩ := Kd.at_string HR0.out (rd l1 x6_1) p365 q365
   obtain rfl : ad363 = ad365 := (by injection e365)
   replace p365 := eq_true p365
   replace q365 := eq_true q365
   go_wp2_with (first | (go_at_call 64; (with_reducible refine (impl_farBetween.calls k1 (rdOf ByteArray.empty l0 x6_1) (rdOf ByteArray.empty l0 (rd l1 x6_1)) t366 _ A8.out).mono ?_); rintro e w' ⟨rfl, ⟨nd, rfl⟩⟩; (try first | exact ⟨rfl, _, World.drewN_drewN _ _ _⟩ | exact ⟨rfl, _, Eq.trans (World.drewN_drewN _ _ _) (congrArg (World.drewN _) (Nat.add_assoc _ _ _))⟩)))
   repeat (go_quiet (first | (go_at_call 64; (with_reducible refine (impl_farBetween.calls k1 (rdOf ByteArray.empty l0 x6_1) (rdOf ByteArray.empty l0 (rd l1 x6_1)) t366 _ A8.out).mono ?_); rintro e w' ⟨rfl, ⟨nd, rfl⟩⟩; (try first | exact ⟨rfl, _, World.drewN_drewN _ _ _⟩ | exact ⟨rfl, _, Eq.trans (World.drewN_drewN _ _ _) (congrArg (World.drewN _) (Nat.add_assoc _ _ _))⟩))); try go_wp2_with (first | (go_at_call 64; (with_reducible refine (impl_farBetween.calls k1 (rdOf ByteArray.empty l0 x6_1) (rdOf ByteArray.empty l0 (rd l1 x6_1)) t366 _ A8.out).mono ?_); rintro e w' ⟨rfl, ⟨nd, rfl⟩⟩; (try first | exact ⟨rfl, _, World.drewN_drewN _ _ _⟩ | exact ⟨rfl, _, Eq.trans (World.drewN_drewN _ _ _) (congrArg (World.drewN _) (Nat.add_assoc _ _ _))⟩))))
   go_roundg k1
   case measure => have := HK1.out; omega
   case rel => exact ⟨(wrap64 (x5_1 + t366)), (wrap64 (x6_1 + 1)), (by first | rfl | (simp; done) | (simp [*]; done)), (by first | rfl | (simp; done) | (simp [*]; done)), H', ⟨by have := HK1.out; omega⟩, by repeat (first | exact Drawn0.refl _ | apply Drawn0.step)⟩
end Go.Proofs.YtejoneninbdjbaaDoor.E
end
section
namespace Go.Proofs.YtejoneninbdjbaaDoor.E
open Go.RowKit Go.Proofs.YtejoneninbdjbaaDoorW.PrintWords Go.Proofs.YtejoneninbdjbaaDoorW.PrintLast Go.Proofs.YtejoneninbdjbaaDoorW.PrintMore
attribute [local go_sem] max2_int min2_int max_two min_two max_three min_three max_four min_four
set_option linter.unusedVariables false
set_option linter.unusedSimpArgs false
attribute [local go_sem] str_leq_ str_gtr_ str_geq_
def impl_StemChanges.f (k : Nat) (l0 : List ByteArray) (l1 : List Int) : Option (Int) := (impl_StemValid.f k l0 l1).bind fun t367 => (if t367 = true then ((impl_BooksValid.f k l0).bind fun t368 => (if t368 = true then ((impl_changesOf.f k l0 l1).bind fun t369 => (some t369)) else (some (-1)))) else (some (-1)))
set_option maxHeartbeats 8000000 in
set_option maxRecDepth 100000 in
theorem impl_StemChanges.calls (k : Nat) (A0 : Option Addr) (c0 : Nat) (l0 : List ByteArray) (A1 : Option Addr) (c1 : Nat) (l1 : List Int) (r : Int) (w : World) (hr0 : Kd.C Kd.string w A0 l0.length l0) (hc0 : l0.length ≤ c0) (hr1 : Kd.C (Kd.int .i64) w A1 l1.length l1) (hc1 : l1.length ≤ c1) (h : impl_StemChanges.f k l0 l1 = some r) :
  Calls Tryd.prog 39 #[.slice A0 l0.length c0, .slice A1 l1.length c1] w fun e w' => e = .returned (.int .i64 r) ∧ Below w.heap.size w w' := by
 have HR0 := Aside0.mk hr0
 have HC0 := Aside0.mk hc0
 clear hr0 hc0
 have HR1 := Aside0.mk hr1
 have HC1 := Aside0.mk hc1
 clear hr1 hc1
 have HB := Aside0.mk (Below.refl w.heap.size w)
 have H : ((impl_StemValid.f k l0 l1).bind fun t367 => (if t367 = true then ((impl_BooksValid.f k l0).bind fun t368 => (if t368 = true then ((impl_changesOf.f k l0 l1).bind fun t369 => (some t369)) else (some (-1)))) else (some (-1)))) = some r := h
 clear h
 replace H := Option.bind_eq_some_iff.mp H
 obtain ⟨t367, A30, H⟩ := H
 replace H : (if t367 = true then ((impl_BooksValid.f k l0).bind fun t368 => (if t368 = true then ((impl_changesOf.f k l0 l1).bind fun t369 => (some t369)) else (some (-1)))) else (some (-1))) = some r := H
 have A3 := Aside0.mk A30
 clear A30
 by_cases c4 : t367 = true
 rotate_left
 ·replace c4 := Bool.eq_false_iff.mpr c4
  subst c4
  have H1 : (some (-1)) = some r := by rw [if_neg (show ¬ (false = true) by decide)] at H; exact H
  clear H
  have H := H1
  clear H1
  obtain rfl := Option.some.inj H
  go_enter Tryd.func39, Tryd.ntmps39
  go_wp2_with (first | ((with_reducible refine gate_callee (f := 30) rfl ?_); refine goesL_ (some 7) rfl rfl Tryd.func30 (by kernel_rfl) rfl #[.slice A0 l0.length c0, .slice A1 l1.length c1] rfl (by (try simp only [List.map_toArray, List.map_cons, List.map_nil]); first | done | rfl | (simp only [List.length_drop, List.length_take]; rfl)) ?_; (with_reducible refine (impl_StemValid.calls k _ _ l0 _ _ l1 false _ ?side1 ?side2 ?side3 ?side4 A3.out).mono ?_); (case side1 => repeat (first | exact HR0.out | (with_reducible refine Kd.C_alloc ?_ _) | (with_reducible refine Kd.C_drewN ?_ _) | (with_reducible refine Kd.C_drew ?_))); (case side2 => exact HC0.out); (case side3 => repeat (first | exact HR1.out | (with_reducible refine Kd.C_alloc ?_ _) | (with_reducible refine Kd.C_drewN ?_ _) | (with_reducible refine Kd.C_drew ?_))); (case side4 => exact HC1.out); rintro e w12 ⟨rfl, hb⟩; refine ⟨_, rfl, ?_⟩; have n0_ := Aside0.mk (below_step (by repeat (first | (with_reducible first | exact HB.out | apply below_alloc | apply pw_below_drewN | apply below_drew1) | exact HB.out)) hb); clear HB; have HB := n0_; clear n0_; (try clear hb); (try clear hb2); (try clear hk); (try clear hi)))
  go_ret
  exact ⟨by first | rfl | (simp [errW_none, errW_some] <;> rfl) | (simp [*, errW_none, errW_some] <;> rfl), by repeat (first | (with_reducible first | exact HB.out | apply below_alloc | apply pw_below_drewN | apply below_drew1) | exact HB.out)⟩
 subst c4
 have H1 : ((impl_BooksValid.f k l0).bind fun t368 => (if t368 = true then ((impl_changesOf.f k l0 l1).bind fun t369 => (some t369)) else (some (-1)))) = some r := by rw [if_pos rfl] at H; exact H
 clear H
 have H := H1
 clear H1
 replace H := Option.bind_eq_some_iff.mp H
 obtain ⟨t368, A50, H⟩ := H
 replace H : (if t368 = true then ((impl_changesOf.f k l0 l1).bind fun t369 => (some t369)) else (some (-1))) = some r := H
 have A5 := Aside0.mk A50
 clear A50
 by_cases c6 : t368 = true
 rotate_left
 ·replace c6 := Bool.eq_false_iff.mpr c6
  subst c6
  have H1 : (some (-1)) = some r := by rw [if_neg (show ¬ (false = true) by decide)] at H; exact H
  clear H
  have H := H1
  clear H1
  obtain rfl := Option.some.inj H
  go_enter Tryd.func39, Tryd.ntmps39
  go_wp2_with (first | ((with_reducible refine gate_callee (f := 30) rfl ?_); refine goesL_ (some 7) rfl rfl Tryd.func30 (by kernel_rfl) rfl #[.slice A0 l0.length c0, .slice A1 l1.length c1] rfl (by (try simp only [List.map_toArray, List.map_cons, List.map_nil]); first | done | rfl | (simp only [List.length_drop, List.length_take]; rfl)) ?_; (with_reducible refine (impl_StemValid.calls k _ _ l0 _ _ l1 true _ ?side1 ?side2 ?side3 ?side4 A3.out).mono ?_); (case side1 => repeat (first | exact HR0.out | (with_reducible refine Kd.C_alloc ?_ _) | (with_reducible refine Kd.C_drewN ?_ _) | (with_reducible refine Kd.C_drew ?_))); (case side2 => exact HC0.out); (case side3 => repeat (first | exact HR1.out | (with_reducible refine Kd.C_alloc ?_ _) | (with_reducible refine Kd.C_drewN ?_ _) | (with_reducible refine Kd.C_drew ?_))); (case side4 => exact HC1.out); rintro e w10 ⟨rfl, hb⟩; refine ⟨_, rfl, ?_⟩; have n0_ := Aside0.mk (below_step (by repeat (first | (with_reducible first | exact HB.out | apply below_alloc | apply pw_below_drewN | apply below_drew1) | exact HB.out)) hb); clear HB; have HB := n0_; clear n0_; (try clear hb); (try clear hb2); (try clear hk); (try clear hi)) | (go_at_call 24; (with_reducible refine (impl_BooksValid.calls k _ _ l0 false _ ?side1 ?side2 A5.out).mono ?_); (case side1 => repeat (first | exact (Kd.C_below HR0.out HB.out) | (with_reducible refine Kd.C_alloc ?_ _) | (with_reducible refine Kd.C_drewN ?_ _) | (with_reducible refine Kd.C_drew ?_))); (case side2 => exact HC0.out); rintro e w11 ⟨rfl, hb⟩; have n0_ := Aside0.mk (below_step (by repeat (first | (with_reducible first | exact HB.out | apply below_alloc | apply pw_below_drewN | apply below_drew1) | exact HB.out)) hb); clear HB; have HB := n0_; clear n0_; (try clear hb); (try clear hb2); (try clear hk); (try clear hi)))
  go_ret
  exact ⟨by first | rfl | (simp [errW_none, errW_some] <;> rfl) | (simp [*, errW_none, errW_some] <;> rfl), by repeat (first | (with_reducible first | exact HB.out | apply below_alloc | apply pw_below_drewN | apply below_drew1) | exact HB.out)⟩
 subst c6
 have H1 : ((impl_changesOf.f k l0 l1).bind fun t369 => (some t369)) = some r := by rw [if_pos rfl] at H; exact H
 clear H
 have H := H1
 clear H1
 replace H := Option.bind_eq_some_iff.mp H
 obtain ⟨t369, A70, H⟩ := H
 replace H : (some t369) = some r := H
 have A7 := Aside0.mk A70
 clear A70
 obtain rfl := Option.some.inj H
 go_enter Tryd.func39, Tryd.ntmps39
 go_wp2_with (first | ((with_reducible refine gate_callee (f := 30) rfl ?_); refine goesL_ (some 7) rfl rfl Tryd.func30 (by kernel_rfl) rfl #[.slice A0 l0.length c0, .slice A1 l1.length c1] rfl (by (try simp only [List.map_toArray, List.map_cons, List.map_nil]); first | done | rfl | (simp only [List.length_drop, List.length_take]; rfl)) ?_; (with_reducible refine (impl_StemValid.calls k _ _ l0 _ _ l1 true _ ?side1 ?side2 ?side3 ?side4 A3.out).mono ?_); (case side1 => repeat (first | exact HR0.out | (with_reducible refine Kd.C_alloc ?_ _) | (with_reducible refine Kd.C_drewN ?_ _) | (with_reducible refine Kd.C_drew ?_))); (case side2 => exact HC0.out); (case side3 => repeat (first | exact HR1.out | (with_reducible refine Kd.C_alloc ?_ _) | (with_reducible refine Kd.C_drewN ?_ _) | (with_reducible refine Kd.C_drew ?_))); (case side4 => exact HC1.out); rintro e w8 ⟨rfl, hb⟩; refine ⟨_, rfl, ?_⟩; have n0_ := Aside0.mk (below_step (by repeat (first | (with_reducible first | exact HB.out | apply below_alloc | apply pw_below_drewN | apply below_drew1) | exact HB.out)) hb); clear HB; have HB := n0_; clear n0_; (try clear hb); (try clear hb2); (try clear hk); (try clear hi)) | (go_at_call 24; (with_reducible refine (impl_BooksValid.calls k _ _ l0 true _ ?side1 ?side2 A5.out).mono ?_); (case side1 => repeat (first | exact (Kd.C_below HR0.out HB.out) | (with_reducible refine Kd.C_alloc ?_ _) | (with_reducible refine Kd.C_drewN ?_ _) | (with_reducible refine Kd.C_drew ?_))); (case side2 => exact HC0.out); rintro e w9 ⟨rfl, hb⟩; have n0_ := Aside0.mk (below_step (by repeat (first | (with_reducible first | exact HB.out | apply below_alloc | apply pw_below_drewN | apply below_drew1) | exact HB.out)) hb); clear HB; have HB := n0_; clear n0_; (try clear hb); (try clear hb2); (try clear hk); (try clear hi)) | ((with_reducible refine gate_callee (f := 69) rfl ?_); refine goesL_ (some 16) rfl rfl Tryd.func69 (by kernel_rfl) rfl #[.slice A0 l0.length c0, .slice A1 l1.length c1] rfl (by (try simp only [List.map_toArray, List.map_cons, List.map_nil]); first | done | rfl | (simp only [List.length_drop, List.length_take]; rfl)) ?_; (with_reducible refine (impl_changesOf.calls k _ _ l0 _ _ l1 t369 _ ?side1 ?side2 ?side3 ?side4 A7.out).mono ?_); (case side1 => repeat (first | exact (Kd.C_below HR0.out HB.out) | (with_reducible refine Kd.C_alloc ?_ _) | (with_reducible refine Kd.C_drewN ?_ _) | (with_reducible refine Kd.C_drew ?_))); (case side2 => exact HC0.out); (case side3 => repeat (first | exact (Kd.C_below HR1.out HB.out) | (with_reducible refine Kd.C_alloc ?_ _) | (with_reducible refine Kd.C_drewN ?_ _) | (with_reducible refine Kd.C_drew ?_))); (case side4 => exact HC1.out); rintro e w' ⟨rfl, ⟨nd, rfl⟩⟩; refine ⟨_, rfl, ?_⟩))
 go_ret
 exact ⟨by first | rfl | (simp [errW_none, errW_some] <;> rfl) | (simp [*, errW_none, errW_some] <;> rfl), by repeat (first | (with_reducible first | exact HB.out | apply below_alloc | apply pw_below_drewN | apply below_drew1) | exact HB.out)⟩
end Go.Proofs.YtejoneninbdjbaaDoor.E
end
section
namespace Go.Proofs.YtejoneninbdjbaaDoor.E
open Go.RowKit Go.Proofs.YtejoneninbdjbaaDoorW.PrintWords Go.Proofs.YtejoneninbdjbaaDoorW.PrintLast Go.Proofs.YtejoneninbdjbaaDoorW.PrintMore
attribute [local go_sem] max2_int min2_int max_two min_two max_three min_three max_four min_four
set_option linter.unusedVariables false
set_option linter.unusedSimpArgs false
attribute [local go_sem] str_leq_ str_gtr_ str_geq_
mutual
def impl_StemBest.l0 : Nat → List ByteArray → List Int → Int → Option (List Int × Bool)
 | 0, _, _, _ => none
 | k + 1, x0, x4, x5 => if x5 < (x0.length : Int) then (impl_StemBest.l1 k x0 x4 x5 0 1) else (some (x4, true))
def impl_StemBest.l1 : Nat → List ByteArray → List Int → Int → Int → Int → Option (List Int × Bool)
 | 0, _, _, _, _, _ => none
 | k + 1, x0, x4, x5, x6, x7 => if x7 < x5 then (if 0 ≤ x5 then (if x5 < (x0.length : Int) then (if 0 ≤ x7 then (if x7 < (x0.length : Int) then ((impl_farBetween.f k (rdOf ByteArray.empty x0 x5) (rdOf ByteArray.empty x0 x7)).bind fun t499 => (if 0 ≤ x6 then (if x6 < (x0.length : Int) then ((impl_farBetween.f k (rdOf ByteArray.empty x0 x5) (rdOf ByteArray.empty x0 x6)).bind fun t502 => (if t499 < t502 then (impl_StemBest.l1 k x0 x4 x5 x7 (wrap64 (x7 + 1))) else (impl_StemBest.l1 k x0 x4 x5 x6 (wrap64 (x7 + 1))))) else (none)) else (none))) else (none)) else (none)) else (none)) else (none)) else (if x4.length < 17592186044416 then (impl_StemBest.l0 k x0 (x4 ++ [x6]) (wrap64 (x5 + 1))) else (none))
end
def impl_StemBest.f (k : Nat) (l0 : List ByteArray) : Option (List Int × Bool) := (impl_BooksValid.f k l0).bind fun t490 => (if t490 = true then (impl_StemBest.l0 k l0 (([(-1)] : List Int)) 1) else (some (([] : List Int), false)))
set_option maxHeartbeats 8000000 in
set_option maxRecDepth 100000 in
theorem impl_StemBest.calls (k : Nat) (A0 : Option Addr) (c0 : Nat) (l0 : List ByteArray) (r1 : List Int) (r2 : Bool) (w : World) (hr0 : Kd.C Kd.string w A0 l0.length l0) (hc0 : l0.length ≤ c0) (h : impl_StemBest.f k l0 = some (r1, r2)) :
  Calls Tryd.prog 46 #[.slice A0 l0.length c0] w fun e w' => ∃ v0_ : Value, e = .returned (.tuple #[v0_, .bool r2]) ∧ Kd.R (Kd.int .i64) 3 w' w.heap.size (fun _ => True) v0_ r1 ∧ Below w.heap.size w w' := by
 have HR0 := Aside0.mk hr0
 have HC0 := Aside0.mk hc0
 clear hr0 hc0
 have HB := Aside0.mk (Below.refl w.heap.size w)
 have H : ((impl_BooksValid.f k l0).bind fun t490 => (if t490 = true then (impl_StemBest.l0 k l0 (([(-1)] : List Int)) 1) else (some (([] : List Int), false)))) = some (r1, r2) := h
 clear h
 replace H := Option.bind_eq_some_iff.mp H
 obtain ⟨t490, A20, H⟩ := H
 replace H : (if t490 = true then (impl_StemBest.l0 k l0 (([(-1)] : List Int)) 1) else (some (([] : List Int), false))) = some (r1, r2) := H
 have A2 := Aside0.mk A20
 clear A20
 by_cases c3 : t490 = true
 rotate_left
 ·replace c3 := Bool.eq_false_iff.mpr c3
  subst c3
  have H1 : (some (([] : List Int), false)) = some (r1, r2) := by rw [if_neg (show ¬ (false = true) by decide)] at H; exact H
  clear H
  have H := H1
  clear H1
  simp only [Option.some.injEq, Prod.mk.injEq] at H
  obtain ⟨rfl, rfl⟩ := H
  go_enter Tryd.func46, Tryd.ntmps46
  go_wp2_with (first | (go_at_call 24; (with_reducible refine (impl_BooksValid.calls k _ _ l0 false _ ?side1 ?side2 A2.out).mono ?_); (case side1 => repeat (first | exact HR0.out | (with_reducible refine Kd.C_alloc ?_ _) | (with_reducible refine Kd.C_drewN ?_ _) | (with_reducible refine Kd.C_drew ?_))); (case side2 => exact HC0.out); rintro e w20 ⟨rfl, hb⟩; have n0_ := Aside0.mk (below_step (by repeat (first | (with_reducible first | exact HB.out | apply below_alloc | apply pw_below_drewN | apply below_drew1) | exact HB.out)) hb); clear HB; have HB := n0_; clear n0_; (try clear hb); (try clear hb2); (try clear hk); (try clear hi)))
  repeat (go_quiet (first | (go_at_call 24; (with_reducible refine (impl_BooksValid.calls k _ _ l0 false _ ?side1 ?side2 A2.out).mono ?_); (case side1 => repeat (first | exact HR0.out | (with_reducible refine Kd.C_alloc ?_ _) | (with_reducible refine Kd.C_drewN ?_ _) | (with_reducible refine Kd.C_drew ?_))); (case side2 => exact HC0.out); rintro e w20 ⟨rfl, hb⟩; have n0_ := Aside0.mk (below_step (by repeat (first | (with_reducible first | exact HB.out | apply below_alloc | apply pw_below_drewN | apply below_drew1) | exact HB.out)) hb); clear HB; have HB := n0_; clear n0_; (try clear hb); (try clear hb2); (try clear hk); (try clear hi))); try go_wp2_with (first | (go_at_call 24; (with_reducible refine (impl_BooksValid.calls k _ _ l0 false _ ?side1 ?side2 A2.out).mono ?_); (case side1 => repeat (first | exact HR0.out | (with_reducible refine Kd.C_alloc ?_ _) | (with_reducible refine Kd.C_drewN ?_ _) | (with_reducible refine Kd.C_drew ?_))); (case side2 => exact HC0.out); rintro e w20 ⟨rfl, hb⟩; have n0_ := Aside0.mk (below_step (by repeat (first | (with_reducible first | exact HB.out | apply below_alloc | apply pw_below_drewN | apply below_drew1) | exact HB.out)) hb); clear HB; have HB := n0_; clear n0_; (try clear hb); (try clear hb2); (try clear hk); (try clear hi))))
  go_ret2
  exact ⟨_, by first | rfl | (simp [errW_none, errW_some] <;> rfl) | (simp [*, errW_none, errW_some] <;> rfl), by first | exact Kd.R_nil _ _ _ _ _ | exact Kd.N_nil _ _ _ _ _ | exact Kd.V_nil _ _ _ _ _ | exact Kd.Q_nil _ _ _ _ _ | exact Kd.S_nil _ _ _ _ _, by repeat (first | (with_reducible first | exact HB.out | apply below_alloc | apply pw_below_drewN | apply below_drew1) | exact HB.out)⟩
 subst c3
 have H1 : (impl_StemBest.l0 k l0 (([(-1)] : List Int)) 1) = some (r1, r2) := by rw [if_pos rfl] at H; exact H
 clear H
 have H := H1
 clear H1
 obtain ⟨y491, hy491⟩ : ∃ y_ : List Int, y_ = (([(-1)] : List Int)) := ⟨_, rfl⟩
 replace H : (impl_StemBest.l0 k l0 y491 1) = some (r1, r2) := by first | (rw [hy491]; with_reducible exact H) | (have H2_ := (Option.bind_some _ _).symm.trans H; rw [hy491]; with_reducible exact H2_) | (have H2_ := (Option.bind_some _ _).symm.trans H; with_reducible exact H2_) | with_reducible exact H | (rw [hy491]; exact H) | exact H
 have Ny491 := Aside0.mk hy491
 clear hy491
 have H' := Aside0.mk H
 clear H
 go_enter Tryd.func46, Tryd.ntmps46
 go_wp2_with (first | (go_at_call 24; (with_reducible refine (impl_BooksValid.calls k _ _ l0 true _ ?side1 ?side2 A2.out).mono ?_); (case side1 => repeat (first | exact HR0.out | (with_reducible refine Kd.C_alloc ?_ _) | (with_reducible refine Kd.C_drewN ?_ _) | (with_reducible refine Kd.C_drew ?_))); (case side2 => exact HC0.out); rintro e w4 ⟨rfl, hb⟩; have n0_ := Aside0.mk (below_step (by repeat (first | (with_reducible first | exact HB.out | apply below_alloc | apply pw_below_drewN | apply below_drew1) | exact HB.out)) hb); clear HB; have HB := n0_; clear n0_; (try clear hb); (try clear hb2); (try clear hk); (try clear hi)) | ((with_reducible refine gate_dst (N := 11) rfl ?_); refine Kd.R_lit (Kd.int .i64) _ 3 ?hg (N := 11) ?hd (xs := ([(-1)] : List Int)) (inner := [.int .i64 (-1)]) (ok := fun _ => True) (okp := fun _ => True) ?hr ?hp (fun _ hk => hk) trivial (Below.refl _ _) (Nat.le_refl _) (by simp) ?_; (case hd => rfl); (case hg => rfl); (case hr => first | (go_simp; done) | (go_simp; rfl)); (case hp => exact (Reps.one (show Kd.M (Kd.int .i64) _ _ _ (-1) [.int .i64 (-1)] from rfl) (Reps.none _ _))); intro v492 w5 ho6 hb hg_ hnew_; clear hg_ hnew_; (first | rw [← Ny491.out] at ho6 | (simp only [Int.reduceToNat] at ho6; rw [← Ny491.out] at ho6)); have n0_ := Aside0.mk (Kd.R_lower ho6 (below_size (by repeat (first | (with_reducible first | exact HB.out | apply below_alloc | apply pw_below_drewN | apply below_drew1) | exact HB.out)))); have n1_ := Aside0.mk (below_step (by repeat (first | (with_reducible first | exact HB.out | apply below_alloc | apply pw_below_drewN | apply below_drew1) | exact HB.out)) hb); clear HB; have HO493 := n0_; have HB := n1_; clear n0_ n1_; clear hb ho6))
 repeat (go_quiet (first | (go_at_call 24; (with_reducible refine (impl_BooksValid.calls k _ _ l0 true _ ?side1 ?side2 A2.out).mono ?_); (case side1 => repeat (first | exact HR0.out | (with_reducible refine Kd.C_alloc ?_ _) | (with_reducible refine Kd.C_drewN ?_ _) | (with_reducible refine Kd.C_drew ?_))); (case side2 => exact HC0.out); rintro e w4 ⟨rfl, hb⟩; have n0_ := Aside0.mk (below_step (by repeat (first | (with_reducible first | exact HB.out | apply below_alloc | apply pw_below_drewN | apply below_drew1) | exact HB.out)) hb); clear HB; have HB := n0_; clear n0_; (try clear hb); (try clear hb2); (try clear hk); (try clear hi)) | ((with_reducible refine gate_dst (N := 11) rfl ?_); refine Kd.R_lit (Kd.int .i64) _ 3 ?hg (N := 11) ?hd (xs := ([(-1)] : List Int)) (inner := [.int .i64 (-1)]) (ok := fun _ => True) (okp := fun _ => True) ?hr ?hp (fun _ hk => hk) trivial (Below.refl _ _) (Nat.le_refl _) (by simp) ?_; (case hd => rfl); (case hg => rfl); (case hr => first | (go_simp; done) | (go_simp; rfl)); (case hp => exact (Reps.one (show Kd.M (Kd.int .i64) _ _ _ (-1) [.int .i64 (-1)] from rfl) (Reps.none _ _))); intro v492 w5 ho6 hb hg_ hnew_; clear hg_ hnew_; (first | rw [← Ny491.out] at ho6 | (simp only [Int.reduceToNat] at ho6; rw [← Ny491.out] at ho6)); have n0_ := Aside0.mk (Kd.R_lower ho6 (below_size (by repeat (first | (with_reducible first | exact HB.out | apply below_alloc | apply pw_below_drewN | apply below_drew1) | exact HB.out)))); have n1_ := Aside0.mk (below_step (by repeat (first | (with_reducible first | exact HB.out | apply below_alloc | apply pw_below_drewN | apply below_drew1) | exact HB.out)) hb); clear HB; have HO493 := n0_; have HB := n1_; clear n0_ n1_; clear hb ho6)); try go_wp2_with (first | (go_at_call 24; (with_reducible refine (impl_BooksValid.calls k _ _ l0 true _ ?side1 ?side2 A2.out).mono ?_); (case side1 => repeat (first | exact HR0.out | (with_reducible refine Kd.C_alloc ?_ _) | (with_reducible refine Kd.C_drewN ?_ _) | (with_reducible refine Kd.C_drew ?_))); (case side2 => exact HC0.out); rintro e w4 ⟨rfl, hb⟩; have n0_ := Aside0.mk (below_step (by repeat (first | (with_reducible first | exact HB.out | apply below_alloc | apply pw_below_drewN | apply below_drew1) | exact HB.out)) hb); clear HB; have HB := n0_; clear n0_; (try clear hb); (try clear hb2); (try clear hk); (try clear hi)) | ((with_reducible refine gate_dst (N := 11) rfl ?_); refine Kd.R_lit (Kd.int .i64) _ 3 ?hg (N := 11) ?hd (xs := ([(-1)] : List Int)) (inner := [.int .i64 (-1)]) (ok := fun _ => True) (okp := fun _ => True) ?hr ?hp (fun _ hk => hk) trivial (Below.refl _ _) (Nat.le_refl _) (by simp) ?_; (case hd => rfl); (case hg => rfl); (case hr => first | (go_simp; done) | (go_simp; rfl)); (case hp => exact (Reps.one (show Kd.M (Kd.int .i64) _ _ _ (-1) [.int .i64 (-1)] from rfl) (Reps.none _ _))); intro v492 w5 ho6 hb hg_ hnew_; clear hg_ hnew_; (first | rw [← Ny491.out] at ho6 | (simp only [Int.reduceToNat] at ho6; rw [← Ny491.out] at ho6)); have n0_ := Aside0.mk (Kd.R_lower ho6 (below_size (by repeat (first | (with_reducible first | exact HB.out | apply below_alloc | apply pw_below_drewN | apply below_drew1) | exact HB.out)))); have n1_ := Aside0.mk (below_step (by repeat (first | (with_reducible first | exact HB.out | apply below_alloc | apply pw_below_drewN | apply below_drew1) | exact HB.out)) hb); clear HB; have HO493 := n0_; have HB := n1_; clear n0_ n1_; clear hb ho6)))
 go_loopg [4, 5] k (fun kq v4 v5 w' => ∃ (x4_1 : List Int) (x5_1 : Int), v5 = .int .i64 x5_1 ∧ Aside0 (impl_StemBest.l0 kq l0 x4_1 x5_1 = some (r1, r2)) ∧ Aside0 (kq ≤ k) ∧ Aside0 (Kd.R (Kd.int .i64) 3 w' w.heap.size (fun _ => True) v4 x4_1) ∧ Aside0 (Below w.heap.size w w'))
 case atStart => exact ⟨(y491), (1), (by first | rfl | (simp; done) | (simp [*]; done)), H', ⟨Nat.le_refl _⟩, ⟨by (with_reducible repeat (first | apply Kd.R_alloc | apply Kd.R_drewN | apply Kd.R_drew)); exact HO493.out⟩, ⟨by repeat (first | (with_reducible first | exact HB.out | apply below_alloc | apply pw_below_drewN | apply below_drew1) | exact HB.out)⟩⟩
 case round =>
  clear H'
  try clear p2
  try clear c3
  try clear c4
  obtain ⟨x4_1, x5_1, rfl, HA, HK1, HO_4, HB⟩ := hrel
  cases gk with
  | zero => exact absurd HA.out (by simp [impl_StemBest.l0])
  | succ k1 =>
   have H := HA.out
   clear HA
   simp only [impl_StemBest.l0] at H
   by_cases c7 : x5_1 < (l0.length : Int)
   rotate_left
   ·rw [if_neg c7] at H
    have c7b0 : decide (x5_1 < (l0.length : Int)) = false := decide_eq_false c7
    clear c7
    simp only [Option.some.injEq, Prod.mk.injEq] at H
    obtain ⟨rfl, rfl⟩ := H
    go_wp2
    repeat (go_quiet (fail); try go_wp2)
    go_ret2
    exact ⟨_, by first | rfl | (simp [errW_none, errW_some] <;> rfl) | (simp [*, errW_none, errW_some] <;> rfl), by (with_reducible repeat (first | apply Kd.R_alloc | apply Kd.R_drewN | apply Kd.R_drew)); exact HO_4.out, by repeat (first | (with_reducible first | exact HB.out | apply below_alloc | apply pw_below_drewN | apply below_drew1) | exact HB.out)⟩
   rw [if_pos c7] at H
   have c7b0 : decide (x5_1 < (l0.length : Int)) = true := decide_eq_true c7
   clear c7
   have H' := Aside0.mk H
   clear H
   go_wp2
   repeat (go_quiet (fail); try go_wp2)
   go_loopg [6, 7] k1 (fun kq v6 v7 w' => ∃ (x6_2 : Int) (x7_2 : Int), v6 = .int .i64 x6_2 ∧ v7 = .int .i64 x7_2 ∧ Aside0 (impl_StemBest.l1 kq l0 x4_1 x5_1 x6_2 x7_2 = some (r1, r2)) ∧ Aside0 (kq ≤ k1) ∧ Aside0 (Kd.R (Kd.int .i64) 3 w' w.heap.size (fun _ => True) u4 x4_1) ∧ Aside0 (Below w.heap.size w w'))
   case atStart => exact ⟨(0), (1), (by first | rfl | (simp; done) | (simp [*]; done)), (by first | rfl | (simp; done) | (simp [*]; done)), H', ⟨Nat.le_refl _⟩, ⟨by (with_reducible repeat (first | apply Kd.R_alloc | apply Kd.R_drewN | apply Kd.R_drew)); exact HO_4.out⟩, ⟨by repeat (first | (with_reducible first | exact HB.out | apply below_alloc | apply pw_below_drewN | apply below_drew1) | exact HB.out)⟩⟩
   case round =>
    clear H'
    try clear p2
    try clear c3
    try clear c4
    try clear c7
    try clear c7b0
    try clear p2
    obtain ⟨x6_2, x7_2, rfl, rfl, HA, HK2, HO_4, HB⟩ := hrel
    cases gk with
    | zero => exact absurd HA.out (by simp [impl_StemBest.l1])
    | succ k2 =>
     have H := HA.out
     clear HA
     simp only [impl_StemBest.l1] at H
     by_cases c8 : x7_2 < x5_1
     rotate_left
     ·rw [if_neg c8] at H
      have c8b0 : decide (x7_2 < x5_1) = false := decide_eq_false c8
      clear c8
      by_cases c18 : x4_1.length < 17592186044416
      rotate_left
      ·rw [if_neg c18] at H
       exact absurd H (by simp)
      rw [if_pos c18] at H
      have LMc18 := Aside0.mk c18
      clear c18
      obtain ⟨y494, hy494⟩ : ∃ y_ : List Int, y_ = (x4_1 ++ [x6_2]) := ⟨_, rfl⟩
      replace H : (impl_StemBest.l0 k2 l0 y494 (wrap64 (x5_1 + 1))) = some (r1, r2) := by first | (rw [hy494]; with_reducible exact H) | (have H2_ := (Option.bind_some _ _).symm.trans H; rw [hy494]; with_reducible exact H2_) | (have H2_ := (Option.bind_some _ _).symm.trans H; with_reducible exact H2_) | with_reducible exact H | (rw [hy494]; exact H) | exact H
      have Ny494 := Aside0.mk hy494
      clear hy494
      have H' := Aside0.mk H
      clear H
      go_wp2_with (first | ((with_reducible refine gate_builtin (b := .append) (xs := #[.tmp 43, .tmp 45]) rfl ?_); at_builtin; refine Kd.R_append (Kd.int .i64) (w0 := w) w.heap.size rfl (.tmp 43) (.tmp 45) 29 3 (.int .i64 0) 8 rfl Tryd.underlying29 info3 rfl (by decide) (by omega) u4 x4_1 x6_2 [.int .i64 x6_2] (fun _ => True) (fun _ => False) rfl rfl ?aP (fun _ hk => hk.elim) ?aF ?aO ?aB ?aS ?aL ?_; (case aP => exact rfl); (case aB => exact (by repeat (first | (with_reducible first | exact HB.out | apply below_alloc | apply pw_below_drewN | apply below_drew1) | exact HB.out))); (case aF => exact (fun _ _ => trivial)); (case aO => exact (by (with_reducible repeat (first | apply Kd.R_alloc | apply Kd.R_drewN | apply Kd.R_drew)); exact HO_4.out)); (case aS => exact (below_size (by repeat (first | (with_reducible first | exact HB.out | apply below_alloc | apply pw_below_drewN | apply below_drew1) | exact HB.out)))); (case aL => have := LMc18.out; omega); intro v495 w19 ho hb hg hat; rw [← Ny494.out] at ho; have n0_ := Aside0.mk (hb); have n1_ := Aside0.mk (ho); clear HB; clear HO_4; have HB := n0_; have HO496 := n1_; clear n0_ n1_; clear ho hb hg hat))
      repeat (go_quiet (first | ((with_reducible refine gate_builtin (b := .append) (xs := #[.tmp 43, .tmp 45]) rfl ?_); at_builtin; refine Kd.R_append (Kd.int .i64) (w0 := w) w.heap.size rfl (.tmp 43) (.tmp 45) 29 3 (.int .i64 0) 8 rfl Tryd.underlying29 info3 rfl (by decide) (by omega) u4 x4_1 x6_2 [.int .i64 x6_2] (fun _ => True) (fun _ => False) rfl rfl ?aP (fun _ hk => hk.elim) ?aF ?aO ?aB ?aS ?aL ?_; (case aP => exact rfl); (case aB => exact (by repeat (first | (with_reducible first | exact HB.out | apply below_alloc | apply pw_below_drewN | apply below_drew1) | exact HB.out))); (case aF => exact (fun _ _ => trivial)); (case aO => exact (by (with_reducible repeat (first | apply Kd.R_alloc | apply Kd.R_drewN | apply Kd.R_drew)); exact HO_4.out)); (case aS => exact (below_size (by repeat (first | (with_reducible first | exact HB.out | apply below_alloc | apply pw_below_drewN | apply below_drew1) | exact HB.out)))); (case aL => have := LMc18.out; omega); intro v495 w19 ho hb hg hat; rw [← Ny494.out] at ho; have n0_ := Aside0.mk (hb); have n1_ := Aside0.mk (ho); clear HB; clear HO_4; have HB := n0_; have HO496 := n1_; clear n0_ n1_; clear ho hb hg hat)); try go_wp2_with (first | ((with_reducible refine gate_builtin (b := .append) (xs := #[.tmp 43, .tmp 45]) rfl ?_); at_builtin; refine Kd.R_append (Kd.int .i64) (w0 := w) w.heap.size rfl (.tmp 43) (.tmp 45) 29 3 (.int .i64 0) 8 rfl Tryd.underlying29 info3 rfl (by decide) (by omega) u4 x4_1 x6_2 [.int .i64 x6_2] (fun _ => True) (fun _ => False) rfl rfl ?aP (fun _ hk => hk.elim) ?aF ?aO ?aB ?aS ?aL ?_; (case aP => exact rfl); (case aB => exact (by repeat (first | (with_reducible first | exact HB.out | apply below_alloc | apply pw_below_drewN | apply below_drew1) | exact HB.out))); (case aF => exact (fun _ _ => trivial)); (case aO => exact (by (with_reducible repeat (first | apply Kd.R_alloc | apply Kd.R_drewN | apply Kd.R_drew)); exact HO_4.out)); (case aS => exact (below_size (by repeat (first | (with_reducible first | exact HB.out | apply below_alloc | apply pw_below_drewN | apply below_drew1) | exact HB.out)))); (case aL => have := LMc18.out; omega); intro v495 w19 ho hb hg hat; rw [← Ny494.out] at ho; have n0_ := Aside0.mk (hb); have n1_ := Aside0.mk (ho); clear HB; clear HO_4; have HB := n0_; have HO496 := n1_; clear n0_ n1_; clear ho hb hg hat)))
      go_roundg k2
      case measure => have := HK1.out; have := HK2.out; omega
      case rel => exact ⟨(y494), (wrap64 (x5_1 + 1)), (by first | rfl | (simp; done) | (simp [*]; done)), H', ⟨by have := HK1.out; have := HK2.out; omega⟩, ⟨by (with_reducible repeat (first | apply Kd.R_alloc | apply Kd.R_drewN | apply Kd.R_drew)); exact HO496.out⟩, ⟨by repeat (first | (with_reducible first | exact HB.out | apply below_alloc | apply pw_below_drewN | apply below_drew1) | exact HB.out)⟩⟩
     rw [if_pos c8] at H
     have c8b0 : decide (x7_2 < x5_1) = true := decide_eq_true c8
     clear c8
     by_cases c9 : 0 ≤ x5_1
     rotate_left
     ·rw [if_neg c9] at H
      exact absurd H (by simp)
     rw [if_pos c9] at H
     have c9b0 : decide (0 ≤ x5_1) = true := decide_eq_true c9
     clear c9
     by_cases c10 : x5_1 < (l0.length : Int)
     rotate_left
     ·rw [if_neg c10] at H
      exact absurd H (by simp)
     rw [if_pos c10] at H
     have c10b0 : decide (x5_1 < (l0.length : Int)) = true := decide_eq_true c10
     clear c10
     by_cases c11 : 0 ≤ x7_2
     rotate_left
     ·rw [if_neg c11] at H
      exact absurd H (by simp)
     rw [if_pos c11] at H
     have c11b0 : decide (0 ≤ x7_2) = true := decide_eq_true c11
     clear c11
     by_cases c12 : x7_2 < (l0.length : Int)
     rotate_left
     ·rw [if_neg c12] at H
      exact absurd H (by simp)
     rw [if_pos c12] at H
     have c12b0 : decide (x7_2 < (l0.length : Int)) = true := decide_eq_true c12
     clear c12
     replace H := Option.bind_eq_some_iff.mp H
     obtain ⟨t499, A130, H⟩ := H
     replace H : (if 0 ≤ x6_2 then (if x6_2 < (l0.length : Int) then ((impl_farBetween.f k2 (rdOf ByteArray.empty l0 x5_1) (rdOf ByteArray.empty l0 x6_2)).bind fun t502 => (if t499 < t502 then (impl_StemBest.l1 k2 l0 x4_1 x5_1 x7_2 (wrap64 (x7_2 + 1))) else (impl_StemBest.l1 k2 l0 x4_1 x5_1 x6_2 (wrap64 (x7_2 + 1))))) else (none)) else (none)) = some (r1, r2) := H
     have A13 := Aside0.mk A130
     clear A130
     by_cases c14 : 0 ≤ x6_2
     rotate_left
     ·rw [if_neg c14] at H
      exact absurd H (by simp)
     rw [if_pos c14] at H
     have c14b0 : decide (0 ≤ x6_2) = true := decide_eq_true c14
     clear c14
     by_cases c15 : x6_2 < (l0.length : Int)
     rotate_left
     ·rw [if_neg c15] at H
      exact absurd H (by simp)
     rw [if_pos c15] at H
     have c15b0 : decide (x6_2 < (l0.length : Int)) = true := decide_eq_true c15
     clear c15
     replace H := Option.bind_eq_some_iff.mp H
     obtain ⟨t502, A160, H⟩ := H
     replace H : (if t499 < t502 then (impl_StemBest.l1 k2 l0 x4_1 x5_1 x7_2 (wrap64 (x7_2 + 1))) else (impl_StemBest.l1 k2 l0 x4_1 x5_1 x6_2 (wrap64 (x7_2 + 1)))) = some (r1, r2) := H
     have A16 := Aside0.mk A160
     clear A160
     by_cases c17 : t499 < t502
     rotate_left
     ·rw [if_neg c17] at H
      have c17b0 : decide (t499 < t502) = false := decide_eq_false c17
      clear c17
      have H' := Aside0.mk H
      clear H
      have p497 : 0 ≤ (x5_1 : Int) := of_decide_eq_true (by first | (with_reducible assumption) | assumption)
      have q497 : x5_1 < (l0.length : Int) := of_decide_eq_true (by first | (with_reducible assumption) | assumption)
      obtain ⟨ad497, e497, hx497_0⟩ := Kd.at_string HR0.out x5_1 p497 q497
      cases e497
      replace hx497_0 := (HB.out.cell (World.block_lt_of_cell? w _ hx497_0)).trans hx497_0
      replace p497 := eq_true p497
      replace q497 := eq_true q497
      have p498 : 0 ≤ (x7_2 : Int) := of_decide_eq_true (by first | (with_reducible assumption) | assumption)
      have q498 : x7_2 < (l0.length : Int) := of_decide_eq_true (by first | (with_reducible assumption) | assumption)
      obtain ⟨ad498, e498, hx498_0⟩ := Kd.at_string HR0.out x7_2 p498 q498
      obtain rfl : ad497 = ad498 := (by injection e498)
      replace hx498_0 := (HB.out.cell (World.block_lt_of_cell? w _ hx498_0)).trans hx498_0
      replace p498 := eq_true p498
      replace q498 := eq_true q498
      go_wp2_with (first | (go_at_call 64; (with_reducible refine (impl_farBetween.calls k2 (rdOf ByteArray.empty l0 x5_1) (rdOf ByteArray.empty l0 x7_2) t499 _ A13.out).mono ?_); rintro e w' ⟨rfl, ⟨nd, rfl⟩⟩; (try first | exact ⟨rfl, _, World.drewN_drewN _ _ _⟩ | exact ⟨rfl, _, Eq.trans (World.drewN_drewN _ _ _) (congrArg (World.drewN _) (Nat.add_assoc _ _ _))⟩); have p500 : 0 ≤ (x5_1 : Int) := of_decide_eq_true (by first | (with_reducible assumption) | assumption); have q500 : x5_1 < (l0.length : Int) := of_decide_eq_true (by first | (with_reducible assumption) | assumption); obtain ⟨ad500, e500, hx500_0⟩ := Kd.at_string HR0.out x5_1 p500 q500; obtain rfl : ad497 = ad500 := (by injection e500); replace hx500_0 := (HB.out.cell (World.block_lt_of_cell? w _ hx500_0)).trans hx500_0; replace p500 := eq_true p500; replace q500 := eq_true q500; have p501 : 0 ≤ (x6_2 : Int) := of_decide_eq_true (by first | (with_reducible assumption) | assumption); have q501 : x6_2 < (l0.length : Int) := of_decide_eq_true (by first | (with_reducible assumption) | assumption); obtain ⟨ad501, e501, hx501_0⟩ := Kd.at_string HR0.out x6_2 p501 q501; obtain rfl : ad497 = ad501 := (by injection e501); replace hx501_0 := (HB.out.cell (World.block_lt_of_cell? w _ hx501_0)).trans hx501_0; replace p501 := eq_true p501; replace q501 := eq_true q501) | (go_at_call 64; (with_reducible refine (impl_farBetween.calls k2 (rdOf ByteArray.empty l0 x5_1) (rdOf ByteArray.empty l0 x6_2) t502 _ A16.out).mono ?_); rintro e w' ⟨rfl, ⟨nd, rfl⟩⟩; (try first | exact ⟨rfl, _, World.drewN_drewN _ _ _⟩ | exact ⟨rfl, _, Eq.trans (World.drewN_drewN _ _ _) (congrArg (World.drewN _) (Nat.add_assoc _ _ _))⟩)))
      repeat (go_quiet (first | (go_at_call 64; (with_reducible refine (impl_farBetween.calls k2 (rdOf ByteArray.empty l0 x5_1) (rdOf ByteArray.empty l0 x7_2) t499 _ A13.out).mono ?_); rintro e w' ⟨rfl, ⟨nd, rfl⟩⟩; (try first | exact ⟨rfl, _, World.drewN_drewN _ _ _⟩ | exact ⟨rfl, _, Eq.trans (World.drewN_drewN _ _ _) (congrArg (World.drewN _) (Nat.add_assoc _ _ _))⟩); have p500 : 0 ≤ (x5_1 : Int) := of_decide_eq_true (by first | (with_reducible assumption) | assumption); have q500 : x5_1 < (l0.length : Int) := of_decide_eq_true (by first | (with_reducible assumption) | assumption); obtain ⟨ad500, e500, hx500_0⟩ := Kd.at_string HR0.out x5_1 p500 q500; obtain rfl : ad497 = ad500 := (by injection e500); replace hx500_0 := (HB.out.cell (World.block_lt_of_cell? w _ hx500_0)).trans hx500_0; replace p500 := eq_true p500; replace q500 := eq_true q500; have p501 : 0 ≤ (x6_2 : Int) := of_decide_eq_true (by first | (with_reducible assumption) | assumption); have q501 : x6_2 < (l0.length : Int) := of_decide_eq_true (by first | (with_reducible assumption) | assumption); obtain ⟨ad501, e501, hx501_0⟩ := Kd.at_string HR0.out x6_2 p501 q501; obtain rfl : ad497 = ad501 := (by injection e501); replace hx501_0 := (HB.out.cell (World.block_lt_of_cell? w _ hx501_0)).trans hx501_0; replace p501 := eq_true p501; replace q501 := eq_true q501) | (go_at_call 64; (with_reducible refine (impl_farBetween.calls k2 (rdOf ByteArray.empty l0 x5_1) (rdOf ByteArray.empty l0 x6_2) t502 _ A16.out).mono ?_); rintro e w' ⟨rfl, ⟨nd, rfl⟩⟩; (try first | exact ⟨rfl, _, World.drewN_drewN _ _ _⟩ | exact ⟨rfl, _, Eq.trans (World.drewN_drewN _ _ _) (congrArg (World.drewN _) (Nat.add_assoc _ _ _))⟩))); try go_wp2_with (first | (go_at_call 64; (with_reducible refine (impl_farBetween.calls k2 (rdOf ByteArray.empty l0 x5_1) (rdOf ByteArray.empty l0 x7_2) t499 _ A13.out).mono ?_); rintro e w' ⟨rfl, ⟨nd, rfl⟩⟩; (try first | exact ⟨rfl, _, World.drewN_drewN _ _ _⟩ | exact ⟨rfl, _, Eq.trans (World.drewN_drewN _ _ _) (congrArg (World.drewN _) (Nat.add_assoc _ _ _))⟩); have p500 : 0 ≤ (x5_1 : Int) := of_decide_eq_true (by first | (with_reducible assumption) | assumption); have q500 : x5_1 < (l0.length : Int) := of_decide_eq_true (by first | (with_reducible assumption) | assumption); obtain ⟨ad500, e500, hx500_0⟩ := Kd.at_string HR0.out x5_1 p500 q500; obtain rfl : ad497 = ad500 := (by injection e500); replace hx500_0 := (HB.out.cell (World.block_lt_of_cell? w _ hx500_0)).trans hx500_0; replace p500 := eq_true p500; replace q500 := eq_true q500; have p501 : 0 ≤ (x6_2 : Int) := of_decide_eq_true (by first | (with_reducible assumption) | assumption); have q501 : x6_2 < (l0.length : Int) := of_decide_eq_true (by first | (with_reducible assumption) | assumption); obtain ⟨ad501, e501, hx501_0⟩ := Kd.at_string HR0.out x6_2 p501 q501; obtain rfl : ad497 = ad501 := (by injection e501); replace hx501_0 := (HB.out.cell (World.block_lt_of_cell? w _ hx501_0)).trans hx501_0; replace p501 := eq_true p501; replace q501 := eq_true q501) | (go_at_call 64; (with_reducible refine (impl_farBetween.calls k2 (rdOf ByteArray.empty l0 x5_1) (rdOf ByteArray.empty l0 x6_2) t502 _ A16.out).mono ?_); rintro e w' ⟨rfl, ⟨nd, rfl⟩⟩; (try first | exact ⟨rfl, _, World.drewN_drewN _ _ _⟩ | exact ⟨rfl, _, Eq.trans (World.drewN_drewN _ _ _) (congrArg (World.drewN _) (Nat.add_assoc _ _ _))⟩))))
      go_roundg k2
      case measure => have := HK1.out; have := HK2.out; omega
      case rel => exact ⟨(x6_2), (wrap64 (x7_2 + 1)), (by first | rfl | (simp; done) | (simp [*]; done)), (by first | rfl | (simp; done) | (simp [*]; done)), H', ⟨by have := HK1.out; have := HK2.out; omega⟩, ⟨by (with_reducible repeat (first | apply Kd.R_alloc | apply Kd.R_drewN | apply Kd.R_drew)); exact HO_4.out⟩, ⟨by repeat (first | (with_reducible first | exact HB.out | apply below_alloc | apply pw_below_drewN | apply below_drew1) | exact HB.out)⟩⟩
     rw [if_pos c17] at H
     have c17b0 : decide (t499 < t502) = true := decide_eq_true c17
     clear c17
     have H' := Aside0.mk H
     clear H
     have p497 : 0 ≤ (x5_1 : Int) := of_decide_eq_true (by first | (with_reducible assumption) | assumption)
     have q497 : x5_1 < (l0.length : Int) := of_decide_eq_true (by first | (with_reducible assumption) | assumption)
     obtain ⟨ad497, e497, hx497_0⟩ := Kd.at_string HR0.out x5_1 p497 q497
     cases e497
     replace hx497_0 := (HB.out.cell (World.block_lt_of_cell? w _ hx497_0)).trans hx497_0
     replace p497 := eq_true p497
     replace q497 := eq_true q497
     have p498 : 0 ≤ (x7_2 : Int) := of_decide_eq_true (by first | (with_reducible assumption) | assumption)
     have q498 : x7_2 < (l0.length : Int) := of_decide_eq_true (by first | (with_reducible assumption) | assumption)
     obtain ⟨ad498, e498, hx498_0⟩ := Kd.at_string HR0.out x7_2 p498 q498
     obtain rfl : ad497 = ad498 := (by injection e498)
     replace hx498_0 := (HB.out.cell (World.block_lt_of_cell? w _ hx498_0)).trans hx498_0
     replace p498 := eq_true p498
     replace q498 := eq_true q498
     go_wp2_with (first | (go_at_call 64; (with_reducible refine (impl_farBetween.calls k2 (rdOf ByteArray.empty l0 x5_1) (rdOf ByteArray.empty l0 x7_2) t499 _ A13.out).mono ?_); rintro e w' ⟨rfl, ⟨nd, rfl⟩⟩; (try first | exact ⟨rfl, _, World.drewN_drewN _ _ _⟩ | exact ⟨rfl, _, Eq.trans (World.drewN_drewN _ _ _) (congrArg (World.drewN _) (Nat.add_assoc _ _ _))⟩); have p500 : 0 ≤ (x5_1 : Int) := of_decide_eq_true (by first | (with_reducible assumption) | assumption); have q500 : x5_1 < (l0.length : Int) := of_decide_eq_true (by first | (with_reducible assumption) | assumption); obtain ⟨ad500, e500, hx500_0⟩ := Kd.at_string HR0.out x5_1 p500 q500; obtain rfl : ad497 = ad500 := (by injection e500); replace hx500_0 := (HB.out.cell (World.block_lt_of_cell? w _ hx500_0)).trans hx500_0; replace p500 := eq_true p500; replace q500 := eq_true q500; have p501 : 0 ≤ (x6_2 : Int) := of_decide_eq_true (by first | (with_reducible assumption) | assumption); have q501 : x6_2 < (l0.length : Int) := of_decide_eq_true (by first | (with_reducible assumption) | assumption); obtain ⟨ad501, e501, hx501_0⟩ := Kd.at_string HR0.out x6_2 p501 q501; obtain rfl : ad497 = ad501 := (by injection e501); replace hx501_0 := (HB.out.cell (World.block_lt_of_cell? w _ hx501_0)).trans hx501_0; replace p501 := eq_true p501; replace q501 := eq_true q501) | (go_at_call 64; (with_reducible refine (impl_farBetween.calls k2 (rdOf ByteArray.empty l0 x5_1) (rdOf ByteArray.empty l0 x6_2) t502 _ A16.out).mono ?_); rintro e w' ⟨rfl, ⟨nd, rfl⟩⟩; (try first | exact ⟨rfl, _, World.drewN_drewN _ _ _⟩ | exact ⟨rfl, _, Eq.trans (World.drewN_drewN _ _ _) (congrArg (World.drewN _) (Nat.add_assoc _ _ _))⟩)))
     repeat (go_quiet (first | (go_at_call 64; (with_reducible refine (impl_farBetween.calls k2 (rdOf ByteArray.empty l0 x5_1) (rdOf ByteArray.empty l0 x7_2) t499 _ A13.out).mono ?_); rintro e w' ⟨rfl, ⟨nd, rfl⟩⟩; (try first | exact ⟨rfl, _, World.drewN_drewN _ _ _⟩ | exact ⟨rfl, _, Eq.trans (World.drewN_drewN _ _ _) (congrArg (World.drewN _) (Nat.add_assoc _ _ _))⟩); have p500 : 0 ≤ (x5_1 : Int) := of_decide_eq_true (by first | (with_reducible assumption) | assumption); have q500 : x5_1 < (l0.length : Int) := of_decide_eq_true (by first | (with_reducible assumption) | assumption); obtain ⟨ad500, e500, hx500_0⟩ := Kd.at_string HR0.out x5_1 p500 q500; obtain rfl : ad497 = ad500 := (by injection e500); replace hx500_0 := (HB.out.cell (World.block_lt_of_cell? w _ hx500_0)).trans hx500_0; replace p500 := eq_true p500; replace q500 := eq_true q500; have p501 : 0 ≤ (x6_2 : Int) := of_decide_eq_true (by first | (with_reducible assumption) | assumption); have q501 : x6_2 < (l0.length : Int) := of_decide_eq_true (by first | (with_reducible assumption) | assumption); obtain ⟨ad501, e501, hx501_0⟩ := Kd.at_string HR0.out x6_2 p501 q501; obtain rfl : ad497 = ad501 := (by injection e501); replace hx501_0 := (HB.out.cell (World.block_lt_of_cell? w _ hx501_0)).trans hx501_0; replace p501 := eq_true p501; replace q501 := eq_true q501) | (go_at_call 64; (with_reducible refine (impl_farBetween.calls k2 (rdOf ByteArray.empty l0 x5_1) (rdOf ByteArray.empty l0 x6_2) t502 _ A16.out).mono ?_); rintro e w' ⟨rfl, ⟨nd, rfl⟩⟩; (try first | exact ⟨rfl, _, World.drewN_drewN _ _ _⟩ | exact ⟨rfl, _, Eq.trans (World.drewN_drewN _ _ _) (congrArg (World.drewN _) (Nat.add_assoc _ _ _))⟩))); try go_wp2_with (first | (go_at_call 64; (with_reducible refine (impl_farBetween.calls k2 (rdOf ByteArray.empty l0 x5_1) (rdOf ByteArray.empty l0 x7_2) t499 _ A13.out).mono ?_); rintro e w' ⟨rfl, ⟨nd, rfl⟩⟩; (try first | exact ⟨rfl, _, World.drewN_drewN _ _ _⟩ | exact ⟨rfl, _, Eq.trans (World.drewN_drewN _ _ _) (congrArg (World.drewN _) (Nat.add_assoc _ _ _))⟩); have p500 : 0 ≤ (x5_1 : Int) := of_decide_eq_true (by first | (with_reducible assumption) | assumption); have q500 : x5_1 < (l0.length : Int) := of_decide_eq_true (by first | (with_reducible assumption) | assumption); obtain ⟨ad500, e500, hx500_0⟩ := Kd.at_string HR0.out x5_1 p500 q500; obtain rfl : ad497 = ad500 := (by injection e500); replace hx500_0 := (HB.out.cell (World.block_lt_of_cell? w _ hx500_0)).trans hx500_0; replace p500 := eq_true p500; replace q500 := eq_true q500; have p501 : 0 ≤ (x6_2 : Int) := of_decide_eq_true (by first | (with_reducible assumption) | assumption); have q501 : x6_2 < (l0.length : Int) := of_decide_eq_true (by first | (with_reducible assumption) | assumption); obtain ⟨ad501, e501, hx501_0⟩ := Kd.at_string HR0.out x6_2 p501 q501; obtain rfl : ad497 = ad501 := (by injection e501); replace hx501_0 := (HB.out.cell (World.block_lt_of_cell? w _ hx501_0)).trans hx501_0; replace p501 := eq_true p501; replace q501 := eq_true q501) | (go_at_call 64; (with_reducible refine (impl_farBetween.calls k2 (rdOf ByteArray.empty l0 x5_1) (rdOf ByteArray.empty l0 x6_2) t502 _ A16.out).mono ?_); rintro e w' ⟨rfl, ⟨nd, rfl⟩⟩; (try first | exact ⟨rfl, _, World.drewN_drewN _ _ _⟩ | exact ⟨rfl, _, Eq.trans (World.drewN_drewN _ _ _) (congrArg (World.drewN _) (Nat.add_assoc _ _ _))⟩))))
     go_roundg k2
     case measure => have := HK1.out; have := HK2.out; omega
     case rel => exact ⟨(x7_2), (wrap64 (x7_2 + 1)), (by first | rfl | (simp; done) | (simp [*]; done)), (by first | rfl | (simp; done) | (simp [*]; done)), H', ⟨by have := HK1.out; have := HK2.out; omega⟩, ⟨by (with_reducible repeat (first | apply Kd.R_alloc | apply Kd.R_drewN | apply Kd.R_drew)); exact HO_4.out⟩, ⟨by repeat (first | (with_reducible first | exact HB.out | apply below_alloc | apply pw_below_drewN | apply below_drew1) | exact HB.out)⟩⟩
end Go.Proofs.YtejoneninbdjbaaDoor.E
end
section
namespace Go.Proofs.YtejoneninbdjbaaDoor.E
open Go.RowKit Go.Proofs.YtejoneninbdjbaaDoorW.PrintWords Go.Proofs.YtejoneninbdjbaaDoorW.PrintLast Go.Proofs.YtejoneninbdjbaaDoorW.PrintMore
attribute [local go_sem] max2_int min2_int max_two min_two max_three min_three max_four min_four
set_option linter.unusedVariables false
set_option linter.unusedSimpArgs false
attribute [local go_sem] str_leq_ str_gtr_ str_geq_
def banQ (q : Bool) (t : ByteArray) (p x : Nat) : Int := if q = true then 0 else if bt t (p : Int) = 97 + (x : Int) then 0 else 1000
theorem ndx_ch (t : ByteArray) (f v : Value) (c : Nat → Int) (y : Int) {x : Nat} (hx : x < 4) {w : World} {g : Nat} (h : w.heap[g]? = some (ndx t f v c y)) : w.cell? ⟨g, 3 + x, none⟩ = some (.int .i64 (c x)) := by
 rw [blk_cell h]
 obtain rfl | rfl | rfl | rfl : x = 0 ∨ x = 1 ∨ x = 2 ∨ x = 3 := by omega
 all_goals rfl
theorem bt_ix (t : ByteArray) (p : Nat) (h : p < t.size) : bt t (p : Int) = ((t[p]'h).toNat : Int) := by
 unfold bt
 rw [show ((p : Int)).toNat = p from rfl, dif_pos h]
theorem upd_upd {α : Type} (f : Nat → α) (j : Nat) (a b : α) : upd (upd f j a) j b = upd f j b := by
 funext m
 unfold upd
 split <;> rfl
theorem TreeF.setCh2 {l : List ByteArray} {st : List Int} {w : World} {B n : Nat} {na : Nat → Nat} {fr vs : Nat → Value} {nv : Value} {ch : Nat → Nat → Int} {lt : Nat → Int} {j : Nat} {c : Nat → Int} (h : TreeF l st w B n na fr vs nv (upd ch j c) lt) (hj : j < n) {x : Nat} (hx : x < 4) (z : Int) :
  TreeF l st (w.setCell ⟨na j, 3 + x, none⟩ (.int .i64 z)) B n na fr vs nv (upd ch j (upd c x z)) lt := by
 have := h.setCh j hj x hx z
 rw [upd_upd, upd_eq] at this
 exact this
theorem kid_at {st : List Int} {na : Nat → Nat} {n j i : Nat} (hS : ∀ k : Nat, 1 ≤ k → k < n → rd st (k : Int) < k) (hi : i < (kids st na n j).length) : ∃ kk, rdOf 0 (kids st na n j) (i : Int) = na kk ∧ (kidx st n j).take (i + 1) = (kidx st n j).take i ++ [kk] ∧ j < kk ∧ kk < n := by
 have hl : (kids st na n j).length = (kidx st n j).length := by rw [kids_map, List.length_map]
 have hi' : i < (kidx st n j).length := by omega
 refine ⟨(kidx st n j)[i], ?_, ?_, ?_, ?_⟩
 ·unfold rdOf
  rw [show ((i : Int)).toNat = i from rfl, List.getD_eq_getElem?_getD, kids_map, List.getElem?_map, List.getElem?_eq_getElem hi']
  rfl
 ·exact List.take_succ_eq_append_getElem hi'
 ·have m := kidx_mem (List.getElem_mem hi')
  have := hS _ m.1 m.2.1
  omega
 ·exact (kidx_mem (List.getElem_mem hi')).2.1
theorem count_up {x : Nat} {c d : Nat → Int} {F : Nat → Int} (h : ∀ z, z < x → c z = F z) (hd : ∀ z, z < x → d z = c z) (e : d x = F x) : ∀ z, z < x + 1 → d z = F z := by
 intro z hz
 by_cases g : z = x
 rotate_left
 ·rw [hd z (by omega), h z (by omega)]
 subst g; exact e
theorem w_up2 {n : Nat} (h : n + 1 ≤ 1000) : Value.int .i64 (wrap64 ((n : Int) + 1)) = Value.int .i64 ((n + 1 : Nat) : Int) := by
 have : wrap64 ((n : Int) + 1) = ((n + 1 : Nat) : Int) := by unfold wrap64; omega
 rw [this]
theorem banQ_same {t : ByteArray} {p x : Nat} (h : bt t (p : Int) = 97 + (x : Int)) : banQ false t p x = 0 := by unfold banQ; rw [if_neg (by decide), if_pos h]
theorem banQ_other {t : ByteArray} {p x : Nat} (h : ¬ bt t (p : Int) = 97 + (x : Int)) : banQ false t p x = 1000 := by unfold banQ; rw [if_neg (by decide), if_neg h]
theorem cnt_snoc (ch : Nat → Nat → Int) (x : Nat) (b : Int) (ks : List Nat) (k : Nat) : cnt ch x b (ks ++ [k]) = wrap64 (cnt ch x b ks + (bestTo (ch k) (x : Int) 4).2) := by
 unfold cnt
 rw [List.foldl_append]
 rfl
set_option maxHeartbeats 8000000 in
set_option maxRecDepth 100000 in
theorem stemNode_count.calls {l : List ByteArray} {st : List Int} {w : World} {B n : Nat} {na : Nat → Nat} {fr vs : Nat → Value} {nv : Value} {ch : Nat → Nat → Int} {lt : Nat → Int} (j : Nat) (h : TreeF l st w B n na fr vs nv ch lt) {Φ : World → Prop} (hB : Φ w) (hset : ∀ W i v, Φ W → Φ (W.setCell ⟨na j, i, none⟩ v)) (hbel : ∀ W W', Φ W → Below W.heap.size W W' → Φ W')
  (hS : ∀ k : Nat, 1 ≤ k → k < n → 0 ≤ rd st (k : Int) ∧ rd st (k : Int) < k) (hn : n ≤ 1000) (hj : j < n) (p : Nat) (hp : p < (rdOf ByteArray.empty l (j : Int)).size) (q : Bool) (hq : impl_isLost.f (rdOf ByteArray.empty l (j : Int)) = some q) :
  Calls Tryd.prog 75 #[.pointer (some ⟨na j, 0, none⟩), .int .i64 p] w fun e w' => e = .returned (.tuple #[]) ∧ ∃ c : Nat → Int, TreeF l st w' B n na fr vs nv (upd ch j c) lt ∧ (∀ x, x < 4 → c x = cnt ch x (banQ q (rdOf ByteArray.empty l (j : Int)) p x) (kidx st n j)) ∧ Φ w' := by
 have HT := Aside0.mk h
 have HB := Aside0.mk hB
 have HS := Aside0.mk hS
 have HQ := Aside0.mk hq
 have HSET := Aside0.mk hset
 have HBEL := Aside0.mk hbel
 clear h hB hS hq hset hbel
 go_enter Tryd.func75, Tryd.ntmps75
 go_wp2
 go_loopg [9] 4 (fun kq v9 w' => ∃ (x : Nat) (c : Nat → Int), v9 = .int .i64 x ∧ x + kq = 4 ∧ Aside0 (TreeF l st w' B n na fr vs nv (upd ch j c) lt) ∧ Aside0 (∀ z, z < x → c z = cnt ch z (banQ q (rdOf ByteArray.empty l (j : Int)) p z) (kidx st n j)) ∧ Aside0 (Φ w'))
 case atStart => exact ⟨0, ch j, rfl, rfl, ⟨by rw [upd_self]; exact HT.out⟩, ⟨fun z hz => absurd hz (Nat.not_lt_zero z)⟩, HB⟩
 case round =>
  obtain ⟨x, c, rfl, HX, HT, HC, HB⟩ := hrel
  cases gk with
  | zero =>
   obtain rfl : x = 4 := by omega
   go_wp2
   go_end0
   exact ⟨rfl, c, HT.out, HC.out, HB.out⟩
  | succ k1 =>
   have hx : x < 4 := by omega
   have HX4 := Aside0.mk hx
   have c7 := decide_eq_true (show (x : Int) < 4 by omega)
   have c6 := eq_true (show (0 : Int) ≤ (x : Int) by omega)
   have c8 := eq_true (show (x : Int) < 4 by omega)
   have nd := HT.out.nd j hj
   rw [upd_eq] at nd
   have f1 := blk_frozen nd (3 + x)
   have g1 := ndx_ch _ _ _ _ _ hx nd
   have HT1 := Aside0.mk (HT.out.setCh2 hj hx 0)
   have nd1 := HT1.out.nd j hj
   have g2 : (wr.setCell ⟨na j, 3 + x, none⟩ (.int .i64 0)).cell? ⟨na j, 0, none⟩ = some (.string (rdOf ByteArray.empty l (j : Int))) := (blk_cell nd1 0).trans rfl
   obtain ⟨Ao, co, eo⟩ := Kd.R_slice (show Kd.R kp 67 _ _ _ (vs j) (kids st na n j) from HT.out.rows j hj)
   have EO := Aside0.mk eo
   have pr1 := eq_true (show (0 : Int) ≤ (p : Int) by omega)
   have pr2 := eq_true (show (p : Int) < ((rdOf ByteArray.empty l (j : Int)).size : Int) by omega)
   clear nd nd1 hx eo
   cases q with
   | true =>
    go_wp2_with (first | (go_at_call 79; (with_reducible refine (impl_isLost.calls _ true _ HQ.out).mono ?_); rintro e w4 ⟨rfl, hb⟩; have HT2 := Aside0.mk (HT1.out.below hb); have HB2 : Aside0 (Φ w4) := ⟨HBEL.out _ _ (HSET.out _ _ _ HB.out) hb⟩; have nd2 := HT2.out.nd j hj; rw [upd_eq] at nd2; have g3 : w4.cell? ⟨na j, 2, none⟩ = some (.slice Ao (kids st na n j).length co) := (blk_cell nd2 2).trans (by rw [EO.out]; rfl); clear nd2 hb))
    go_loopg [45] (kids st na n j).length (fun kq v45 w' => ∃ (i : Nat) (d : Nat → Int), v45 = .int .i64 i ∧ i + kq = (kids st na n j).length ∧ Aside0 (TreeF l st w' B n na fr vs nv (upd ch j d) lt) ∧ Aside0 ((∀ z, z < x → d z = c z) ∧ d x = cnt ch x 0 ((kidx st n j).take i)) ∧ Aside0 (Φ w'))
    case atStart => exact ⟨0, _, rfl, by omega, HT2, ⟨fun z hz => upd_ne _ _ (by omega), upd_eq _ _ _⟩, HB2⟩
    case round =>
     obtain ⟨i, d, rfl, HI, HTi, HDi, HBi⟩ := hrel
     cases gk with
     | zero =>
      have c46 := decide_eq_false (show ¬ ((i : Int) < ((kids st na n j).length : Int)) by omega)
      have ei : Aside0 (i = (kids st na n j).length) := ⟨by omega⟩
      go_wp2
      go_roundg k1
      case measure => omega
      case rel => exact ⟨x + 1, d, rfl, by omega, HTi, ⟨count_up HC.out HDi.out.1 (by rw [HDi.out.2, ei.out, kids_map, List.length_map, List.take_length]; rfl)⟩, HBi⟩
     | succ k2 =>
      have hi : i < (kids st na n j).length := by omega
      have c46 := decide_eq_true (show (i : Int) < ((kids st na n j).length : Int) by omega)
      have c47 := eq_true (show (i : Int) < ((kids st na n j).length : Int) by omega)
      have c48 := eq_true (show (0 : Int) ≤ (i : Int) by omega)
      have c49 := eq_true hi
      obtain ⟨kk, ek, ekk, hkj, hkn⟩ := kid_at (st := st) (na := na) (n := n) (j := j) (fun k h0 h1 => (HS.out k h0 h1).2) hi
      have EK := Aside0.mk ekk
      have PRr := Aside0.mk (show PR wr B (.slice Ao (kids st na n j).length co) (kids st na n j) from by have := HTi.out.rows j hj; rw [EO.out] at this; exact this)
      obtain ⟨gn, cn, en, gb, gl, clls, HG⟩ := Kd.R_form (show Kd.R kp 67 _ _ _ (.slice Ao (kids st na n j).length co) (kids st na n j) from PRr.out) (by omega)
      simp only [Value.slice.injEq] at en
      obtain ⟨eA, _, eC⟩ := en
      subst eA eC
      obtain ⟨hx3, hf3⟩ := Kd.R_celln (0 : Nat) (show (Kd.scalar ptr (fun _ => rfl)).R 67 _ _ _ (.slice (some ⟨gn, 0, none⟩) (kids st na n j).length co) _ from PRr.out) (i : Int) (by omega) (by omega)
      rw [ek] at hx3
      simp only [ptr, Int.toNat_natCast] at hx3 hf3
      have ndk := Aside0.mk (HTi.out.nd kk hkn)
      rw [upd_ne _ _ (by omega)] at ndk
      clear gb gl HG ek hi
      go_wp2_with (first | (go_at_call 84; (with_reducible refine (stemNode_best.calls (na kk) _ _ _ (ch kk) (lt kk) (x : Int) _ ndk.out).mono ?_); rintro e w5 ⟨rfl, ⟨nd, rfl⟩⟩; have HTk := Aside0.mk (HTi.out.drewN (nd + 1)); have HBk : Aside0 (Φ (wr.drewN (nd + 1))) := ⟨HBEL.out _ _ HBi.out (pw_below_drewN (Below.refl _ _) _)⟩; have ndj := HTk.out.nd j hj; rw [upd_eq] at ndj; have g7 := ndx_ch _ _ _ _ _ HX4.out ndj; have f7 := blk_frozen ndj (3 + x); clear ndj))
      go_region
      go_wp2
      go_roundg k2
      case measure => omega
      case rel => exact ⟨i + 1, upd d x _, w_up2 (by have := kids_len st na n j; omega), by omega, ⟨HTk.out.setCh2 hj HX4.out _⟩, ⟨fun z hz => (upd_ne _ _ (Nat.ne_of_lt hz)).trans (HDi.out.1 z hz), by rw [upd_eq, EK.out, cnt_snoc, ← HDi.out.2]⟩, ⟨HSET.out _ _ _ HBk.out⟩⟩
   | false =>
    by_cases cb : bt (rdOf ByteArray.empty l (j : Int)) (p : Int) = 97 + (x : Int)
    rotate_left
    ·have CB := Aside0.mk cb
     rw [bt_ix _ _ hp] at cb
     have cb2 : (((rdOf ByteArray.empty l (j : Int))[p].toNat : Int) != 97 + (x : Int)) = true := bne_iff_ne.mpr cb
     clear cb
     go_wp2_with (first | (go_at_call 79; (with_reducible refine (impl_isLost.calls _ false _ HQ.out).mono ?_); rintro e w4 ⟨rfl, hb⟩; have HT2 := Aside0.mk (HT1.out.below hb); have HB2 : Aside0 (Φ w4) := ⟨HBEL.out _ _ (HSET.out _ _ _ HB.out) hb⟩; have nd2 := HT2.out.nd j hj; rw [upd_eq] at nd2; have g3 : w4.cell? ⟨na j, 2, none⟩ = some (.slice Ao (kids st na n j).length co) := (blk_cell nd2 2).trans (by rw [EO.out]; rfl); have g4 : w4.cell? ⟨na j, 0, none⟩ = some (.string (rdOf ByteArray.empty l (j : Int))) := (blk_cell nd2 0).trans rfl; have g5 := ndx_ch _ _ _ _ _ HX4.out nd2; have f5 := blk_frozen nd2 (3 + x); have HT3 := Aside0.mk (HT2.out.setCh2 hj HX4.out 1000); have nd3 := HT3.out.nd j hj; have g6 : (w4.setCell ⟨na j, 3 + x, none⟩ (.int .i64 1000)).cell? ⟨na j, 2, none⟩ = some (.slice Ao (kids st na n j).length co) := (blk_cell nd3 2).trans (by rw [EO.out]; rfl); clear nd3; clear nd2 hb))
     go_loopg [45] (kids st na n j).length (fun kq v45 w' => ∃ (i : Nat) (d : Nat → Int), v45 = .int .i64 i ∧ i + kq = (kids st na n j).length ∧ Aside0 (TreeF l st w' B n na fr vs nv (upd ch j d) lt) ∧ Aside0 ((∀ z, z < x → d z = c z) ∧ d x = cnt ch x 1000 ((kidx st n j).take i)) ∧ Aside0 (Φ w'))
     case atStart => exact ⟨0, _, rfl, by omega, HT3, ⟨fun z hz => (upd_ne _ _ (by omega)).trans (upd_ne _ _ (by omega)), upd_eq _ _ _⟩, ⟨HSET.out _ _ _ HB2.out⟩⟩
     case round =>
      obtain ⟨i, d, rfl, HI, HTi, HDi, HBi⟩ := hrel
      cases gk with
      | zero =>
       have c46 := decide_eq_false (show ¬ ((i : Int) < ((kids st na n j).length : Int)) by omega)
       have ei : Aside0 (i = (kids st na n j).length) := ⟨by omega⟩
       go_wp2
       go_roundg k1
       case measure => omega
       case rel => exact ⟨x + 1, d, rfl, by omega, HTi, ⟨count_up HC.out HDi.out.1 (by rw [HDi.out.2, ei.out, kids_map, List.length_map, List.take_length, banQ_other CB.out])⟩, HBi⟩
      | succ k2 =>
       have hi : i < (kids st na n j).length := by omega
       have c46 := decide_eq_true (show (i : Int) < ((kids st na n j).length : Int) by omega)
       have c47 := eq_true (show (i : Int) < ((kids st na n j).length : Int) by omega)
       have c48 := eq_true (show (0 : Int) ≤ (i : Int) by omega)
       have c49 := eq_true hi
       obtain ⟨kk, ek, ekk, hkj, hkn⟩ := kid_at (st := st) (na := na) (n := n) (j := j) (fun k h0 h1 => (HS.out k h0 h1).2) hi
       have EK := Aside0.mk ekk
       have PRr := Aside0.mk (show PR wr B (.slice Ao (kids st na n j).length co) (kids st na n j) from by have := HTi.out.rows j hj; rw [EO.out] at this; exact this)
       obtain ⟨gn, cn, en, gb, gl, clls, HG⟩ := Kd.R_form (show Kd.R kp 67 _ _ _ (.slice Ao (kids st na n j).length co) (kids st na n j) from PRr.out) (by omega)
       simp only [Value.slice.injEq] at en
       obtain ⟨eA, _, eC⟩ := en
       subst eA eC
       obtain ⟨hx3, hf3⟩ := Kd.R_celln (0 : Nat) (show (Kd.scalar ptr (fun _ => rfl)).R 67 _ _ _ (.slice (some ⟨gn, 0, none⟩) (kids st na n j).length co) _ from PRr.out) (i : Int) (by omega) (by omega)
       rw [ek] at hx3
       simp only [ptr, Int.toNat_natCast] at hx3 hf3
       have ndk := Aside0.mk (HTi.out.nd kk hkn)
       rw [upd_ne _ _ (by omega)] at ndk
       clear gb gl HG ek hi
       go_wp2_with (first | (go_at_call 84; (with_reducible refine (stemNode_best.calls (na kk) _ _ _ (ch kk) (lt kk) (x : Int) _ ndk.out).mono ?_); rintro e w5 ⟨rfl, ⟨nd, rfl⟩⟩; have HTk := Aside0.mk (HTi.out.drewN (nd + 1)); have HBk : Aside0 (Φ (wr.drewN (nd + 1))) := ⟨HBEL.out _ _ HBi.out (pw_below_drewN (Below.refl _ _) _)⟩; have ndj := HTk.out.nd j hj; rw [upd_eq] at ndj; have g7 := ndx_ch _ _ _ _ _ HX4.out ndj; have f7 := blk_frozen ndj (3 + x); clear ndj))
       go_region
       go_wp2
       go_roundg k2
       case measure => omega
       case rel => exact ⟨i + 1, upd d x _, w_up2 (by have := kids_len st na n j; omega), by omega, ⟨HTk.out.setCh2 hj HX4.out _⟩, ⟨fun z hz => (upd_ne _ _ (Nat.ne_of_lt hz)).trans (HDi.out.1 z hz), by rw [upd_eq, EK.out, cnt_snoc, ← HDi.out.2]⟩, ⟨HSET.out _ _ _ HBk.out⟩⟩
    have CB := Aside0.mk cb
    rw [bt_ix _ _ hp] at cb
    have cb2 : (((rdOf ByteArray.empty l (j : Int))[p].toNat : Int) != 97 + (x : Int)) = false := bne_eq_false_iff_eq.mpr cb
    clear cb
    go_wp2_with (first | (go_at_call 79; (with_reducible refine (impl_isLost.calls _ false _ HQ.out).mono ?_); rintro e w4 ⟨rfl, hb⟩; have HT2 := Aside0.mk (HT1.out.below hb); have HB2 : Aside0 (Φ w4) := ⟨HBEL.out _ _ (HSET.out _ _ _ HB.out) hb⟩; have nd2 := HT2.out.nd j hj; rw [upd_eq] at nd2; have g3 : w4.cell? ⟨na j, 2, none⟩ = some (.slice Ao (kids st na n j).length co) := (blk_cell nd2 2).trans (by rw [EO.out]; rfl); have g4 : w4.cell? ⟨na j, 0, none⟩ = some (.string (rdOf ByteArray.empty l (j : Int))) := (blk_cell nd2 0).trans rfl; clear nd2 hb))
    go_loopg [45] (kids st na n j).length (fun kq v45 w' => ∃ (i : Nat) (d : Nat → Int), v45 = .int .i64 i ∧ i + kq = (kids st na n j).length ∧ Aside0 (TreeF l st w' B n na fr vs nv (upd ch j d) lt) ∧ Aside0 ((∀ z, z < x → d z = c z) ∧ d x = cnt ch x 0 ((kidx st n j).take i)) ∧ Aside0 (Φ w'))
    case atStart => exact ⟨0, _, rfl, by omega, HT2, ⟨fun z hz => upd_ne _ _ (by omega), upd_eq _ _ _⟩, HB2⟩
    case round =>
     obtain ⟨i, d, rfl, HI, HTi, HDi, HBi⟩ := hrel
     cases gk with
     | zero =>
      have c46 := decide_eq_false (show ¬ ((i : Int) < ((kids st na n j).length : Int)) by omega)
      have ei : Aside0 (i = (kids st na n j).length) := ⟨by omega⟩
      go_wp2
      go_roundg k1
      case measure => omega
      case rel => exact ⟨x + 1, d, rfl, by omega, HTi, ⟨count_up HC.out HDi.out.1 (by rw [HDi.out.2, ei.out, kids_map, List.length_map, List.take_length, banQ_same CB.out])⟩, HBi⟩
     | succ k2 =>
      have hi : i < (kids st na n j).length := by omega
      have c46 := decide_eq_true (show (i : Int) < ((kids st na n j).length : Int) by omega)
      have c47 := eq_true (show (i : Int) < ((kids st na n j).length : Int) by omega)
      have c48 := eq_true (show (0 : Int) ≤ (i : Int) by omega)
      have c49 := eq_true hi
      obtain ⟨kk, ek, ekk, hkj, hkn⟩ := kid_at (st := st) (na := na) (n := n) (j := j) (fun k h0 h1 => (HS.out k h0 h1).2) hi
      have EK := Aside0.mk ekk
      have PRr := Aside0.mk (show PR wr B (.slice Ao (kids st na n j).length co) (kids st na n j) from by have := HTi.out.rows j hj; rw [EO.out] at this; exact this)
      obtain ⟨gn, cn, en, gb, gl, clls, HG⟩ := Kd.R_form (show Kd.R kp 67 _ _ _ (.slice Ao (kids st na n j).length co) (kids st na n j) from PRr.out) (by omega)
      simp only [Value.slice.injEq] at en
      obtain ⟨eA, _, eC⟩ := en
      subst eA eC
      obtain ⟨hx3, hf3⟩ := Kd.R_celln (0 : Nat) (show (Kd.scalar ptr (fun _ => rfl)).R 67 _ _ _ (.slice (some ⟨gn, 0, none⟩) (kids st na n j).length co) _ from PRr.out) (i : Int) (by omega) (by omega)
      rw [ek] at hx3
      simp only [ptr, Int.toNat_natCast] at hx3 hf3
      have ndk := Aside0.mk (HTi.out.nd kk hkn)
      rw [upd_ne _ _ (by omega)] at ndk
      clear gb gl HG ek hi
      go_wp2_with (first | (go_at_call 84; (with_reducible refine (stemNode_best.calls (na kk) _ _ _ (ch kk) (lt kk) (x : Int) _ ndk.out).mono ?_); rintro e w5 ⟨rfl, ⟨nd, rfl⟩⟩; have HTk := Aside0.mk (HTi.out.drewN (nd + 1)); have HBk : Aside0 (Φ (wr.drewN (nd + 1))) := ⟨HBEL.out _ _ HBi.out (pw_below_drewN (Below.refl _ _) _)⟩; have ndj := HTk.out.nd j hj; rw [upd_eq] at ndj; have g7 := ndx_ch _ _ _ _ _ HX4.out ndj; have f7 := blk_frozen ndj (3 + x); clear ndj))
      go_region
      go_wp2
      go_roundg k2
      case measure => omega
      case rel => exact ⟨i + 1, upd d x _, w_up2 (by have := kids_len st na n j; omega), by omega, ⟨HTk.out.setCh2 hj HX4.out _⟩, ⟨fun z hz => (upd_ne _ _ (Nat.ne_of_lt hz)).trans (HDi.out.1 z hz), by rw [upd_eq, EK.out, cnt_snoc, ← HDi.out.2]⟩, ⟨HSET.out _ _ _ HBk.out⟩⟩
set_option maxHeartbeats 8000000 in
set_option maxRecDepth 100000 in
theorem stemNode_choose.calls {l : List ByteArray} {st : List Int} {w : World} {B n : Nat} {na : Nat → Nat} {fr vs : Nat → Value} {nv : Value} {ch : Nat → Nat → Int} {lt : Nat → Int} (j : Nat) (h : TreeF l st w B n na fr vs nv ch lt) {Φ : World → Prop} (hB : Φ w) (hset : ∀ W i v, Φ W → Φ (W.setCell ⟨na j, i, none⟩ v)) (hbel : ∀ W W', Φ W → Below W.heap.size W W' → Φ W') (hj : j < n) (q : Int)
  (hq : (fr j = .pointer none ∧ q = -1) ∨ ∃ s, s < n ∧ fr j = ptr (na s) ∧ q = lt s) :
  Calls Tryd.prog 76 #[.pointer (some ⟨na j, 0, none⟩)] w fun e w' => e = .returned (.tuple #[]) ∧ TreeF l st w' B n na fr vs nv ch (upd lt j (bestTo (ch j) q 4).1) ∧ Φ w' := by
 have hd := h.nd j hj
 have HSET := Aside0.mk hset
 have HBEL := Aside0.mk hbel
 have HT := Aside0.mk h
 have HB := Aside0.mk hB
 have hf := blk_frozen hd 7
 have h7 : w.cell? ⟨na j, 7, none⟩ = some (.int .i64 (lt j)) := (blk_cell hd 7).trans rfl
 clear h hB hset hbel
 rcases hq with ⟨e1, rfl⟩ | ⟨s, hs, e1, rfl⟩
 ·have h1 : w.cell? ⟨na j, 1, none⟩ = some (.pointer none) := (blk_cell hd 1).trans (by rw [e1]; rfl)
  clear e1
  have HD := Aside0.mk hd
  clear hd
  go_enter Tryd.func76, Tryd.ntmps76
  go_wp2_with (first | (go_at_call 84; (with_reducible refine (stemNode_best.calls (na j) _ _ _ (ch j) (lt j) (-1) _ HD.out).mono ?_); rintro e w' ⟨rfl, ⟨nd, rfl⟩⟩; (try first | exact ⟨rfl, _, World.drewN_drewN _ _ _⟩)))
  go_end0
  have HT2 := (HT.out.drewN nd).setLt j hj (bestTo (ch j) (-1) 4).1
  have HB2 : Φ (w.drewN nd) := HBEL.out _ _ HB.out (pw_below_drewN (Below.refl _ _) _)
  exact ⟨rfl, HT2, HSET.out _ _ _ HB2⟩
 ·have h1 : w.cell? ⟨na j, 1, none⟩ = some (.pointer (some ⟨na s, 0, none⟩)) := (blk_cell hd 1).trans (by rw [e1]; rfl)
  clear e1
  have hs7 : w.cell? ⟨na s, 7, none⟩ = some (.int .i64 (lt s)) := (blk_cell (HT.out.nd s hs) 7).trans rfl
  have HD := Aside0.mk hd
  clear hd
  go_enter Tryd.func76, Tryd.ntmps76
  go_wp2_with (first | (go_at_call 84; (with_reducible refine (stemNode_best.calls (na j) _ _ _ (ch j) (lt j) (lt s) _ HD.out).mono ?_); rintro e w' ⟨rfl, ⟨nd, rfl⟩⟩; (try first | exact ⟨rfl, _, World.drewN_drewN _ _ _⟩)))
  go_end0
  have HT2 := (HT.out.drewN nd).setLt j hj (bestTo (ch j) (lt s) 4).1
  have HB2 : Φ (w.drewN nd) := HBEL.out _ _ HB.out (pw_below_drewN (Below.refl _ _) _)
  exact ⟨rfl, HT2, HSET.out _ _ _ HB2⟩
def lostQ (t : ByteArray) : Bool := decide (impl_isLost.f t = some true)
theorem lostQ_some {t : ByteArray} (h : (impl_isLost.f t).isSome = true) : impl_isLost.f t = some (lostQ t) := by
 obtain ⟨b, hb⟩ := Option.isSome_iff_exists.mp h
 unfold lostQ
 rw [hb]
 cases b <;> rfl
def banP (l : List ByteArray) (p j x : Nat) : Int := banQ (lostQ (rdOf ByteArray.empty l (j : Int))) (rdOf ByteArray.empty l (j : Int)) p x
def tabP (l : List ByteArray) (st : List Int) (p : Nat) : Nat → Nat → Int := chP st l.length (banP l p) l.length
def letP (l : List ByteArray) (st : List Int) (p j : Nat) : Int := ltP (tabP l st p) st j
def stOkF (l : List ByteArray) (st : List Int) : Bool := decide (st.length = l.length) && decide (l.length ≤ 1000) && (List.range st.length).all (fun j => decide (j = 0) || (decide (0 ≤ rd st (j : Int)) && decide (rd st (j : Int) < j)))
def fillOk (l : List ByteArray) (st : List Int) : Bool := stOkF l st && (decide (0 < l.length) && l.all (fun t => decide (t.size = (rdOf ByteArray.empty l 0).size) && (impl_isLost.f t).isSome && decide (t.size ≤ 1000)))
theorem stOkF_of {l : List ByteArray} {st : List Int} (h : stOkF l st = true) : stOk l st := by
 unfold stOkF at h
 rw [Bool.and_eq_true, Bool.and_eq_true] at h
 refine ⟨of_decide_eq_true h.1.1, of_decide_eq_true h.1.2, fun j h1 h2 => ?_⟩
 have := List.all_eq_true.mp h.2 j (List.mem_range.mpr h2)
 rw [Bool.or_eq_true, Bool.and_eq_true] at this
 rcases this with e | e
 ·have := of_decide_eq_true e; omega
 ·exact ⟨of_decide_eq_true e.1, of_decide_eq_true e.2⟩
structure FillH (l : List ByteArray) (st : List Int) : Prop where
 ok : stOk l st
 pos : 0 < l.length
 sz : ∀ j : Nat, j < l.length → (rdOf ByteArray.empty l (j : Int)).size = (rdOf ByteArray.empty l 0).size
 lost : ∀ j : Nat, j < l.length → impl_isLost.f (rdOf ByteArray.empty l (j : Int)) = some (lostQ (rdOf ByteArray.empty l (j : Int)))
 small : (rdOf ByteArray.empty l 0).size ≤ 1000
theorem fillH_of {l : List ByteArray} {st : List Int} (h : fillOk l st = true) : FillH l st := by
 unfold fillOk at h
 rw [Bool.and_eq_true, Bool.and_eq_true] at h
 have hp := of_decide_eq_true h.2.1
 have hm : ∀ j : Nat, j < l.length → rdOf ByteArray.empty l (j : Int) ∈ l := fun j hj => by
  unfold rdOf
  rw [show ((j : Int)).toNat = j from rfl, List.getD_eq_getElem?_getD, List.getElem?_eq_getElem hj]
  exact List.getElem_mem hj
 have ha : ∀ j : Nat, j < l.length → (rdOf ByteArray.empty l (j : Int)).size = (rdOf ByteArray.empty l 0).size ∧ (impl_isLost.f (rdOf ByteArray.empty l (j : Int))).isSome = true ∧ (rdOf ByteArray.empty l (j : Int)).size ≤ 1000 := fun j hj => by
  have := List.all_eq_true.mp h.2.2 _ (hm j hj)
  rw [Bool.and_eq_true, Bool.and_eq_true] at this
  exact ⟨of_decide_eq_true this.1.1, this.1.2, of_decide_eq_true this.2⟩
 exact ⟨stOkF_of h.1, hp, fun j hj => (ha j hj).1, fun j hj => lostQ_some (ha j hj).2.1, (ha 0 hp).2.2⟩
def impl_StemFill.f (k : Nat) (l0 : List ByteArray) (l1 : List Int) : Option (List ByteArray × Bool) := (impl_StemValid.f k l0 l1).bind fun t => (if t = true then (if fillOk l0 l1 = true then (some (fillM (letP l0 l1) l0.length (fun _ => (rdOf ByteArray.empty l0 0).size), true)) else none) else (some (([] : List ByteArray), false)))
def PhiF (w0 : World) (B : Nat) (vf : Value) (xs : List ByteArray) (W : World) : Prop := Below B w0 W ∧ B ≤ W.heap.size ∧ Kd.R Kd.string 9 W B (fun _ => True) vf xs
theorem PhiF.below {w0 W W' : World} {B : Nat} {vf : Value} {xs : List ByteArray} (h : PhiF w0 B vf xs W) (hb : Below W.heap.size W W') : PhiF w0 B vf xs W' :=
 ⟨h.1.trans ⟨hb.os, hb.tape, hb.output, hb.size, fun k hk => hb.block k (by have := h.2.1; omega)⟩, Nat.le_trans h.2.1 hb.size, Kd.R_of_own (own_move (Kd.own_of_R h.2.2) (fun b hb' => hb.block b (by obtain ⟨_, g⟩ := own_typed (Kd.own_of_R h.2.2) b hb'; exact blk_lt g))) (fun _ _ => trivial)⟩
theorem PhiF.set {w0 W : World} {B g : Nat} {vf : Value} {xs : List ByteArray} (h : PhiF w0 B vf xs W) (hg : B ≤ g) (hne : ∀ b, vf.ownBlock = some b → b ≠ g) (i : Nat) (v : Value) : PhiF w0 B vf xs (W.setCell ⟨g, i, none⟩ v) :=
 ⟨below_setG h.1 hg v, by rw [setCell_size]; exact h.2.1, Kd.R_of_own (own_move (Kd.own_of_R h.2.2) (fun b hb' => Below.heap_setCell W _ v b (hne b hb'))) (fun _ _ => trivial)⟩
theorem up_step (j i p : Nat) : upd (fun j => if j < i then p + 1 else p) i (p + 1) j = if j < i + 1 then p + 1 else p := by
 by_cases e : j = i
 ·subst e; rw [upd_eq, if_pos (Nat.lt_succ_self j)]
 rw [upd_ne _ _ e]
 by_cases h : j < i
 rotate_left
 ·rw [if_neg h, if_neg (by omega)]
 rw [if_pos h, if_pos (by omega)]
theorem let_up {lt : Nat → Int} {F : Nat → Int} {i : Nat} (h : ∀ j, j < i → lt j = F j) : ∀ j, j < i + 1 → upd lt i (F i) j = F j := by
 intro j hj
 by_cases e : j = i
 rotate_left
 ·rw [upd_ne _ _ e]; exact h j (by omega)
 subst e; exact upd_eq _ _ _
theorem TreeF.far {l : List ByteArray} {st : List Int} {w : World} {B C n : Nat} {na : Nat → Nat} {fr vs : Nat → Value} {nv : Value} {ch : Nat → Nat → Int} {lt : Nat → Int} {g m c : Nat} {xs : List ByteArray} (h : TreeF l st w B n na fr vs nv ch lt) (hg : Kd.R Kd.string 9 w C (fun _ => True) (.slice (some ⟨g, 0, none⟩) m c) xs) (i : Nat) (v : Value) : TreeF l st (w.setCell ⟨g, i, none⟩ v) B n na fr vs nv ch lt := by
 obtain ⟨cs, hc⟩ := own_typed (Kd.own_of_R hg) g rfl
 have hr : ∀ {v' : Value} {xs : List Nat}, PR w B v' xs → ∀ b, v'.ownBlock = some b → b ≠ g := fun hp b hb => by
  obtain ⟨_, hq⟩ := hp.typed hb
  exact blk_ne hq hc (by decide)
 exact ⟨fun j hj => blk_far (h.nd j hj) (blk_ne (h.nd j hj) hc (by decide)) v, h.ge, h.inj, fun j hj => (h.rows j hj).move (fun b hb => Below.heap_setCell w _ v b (hr (h.rows j hj) b hb)), h.nr.move (fun b hb => Below.heap_setCell w _ v b (hr h.nr b hb))⟩
theorem PhiF.put {w0 W : World} {B g n c : Nat} {xs : List ByteArray} (h : PhiF w0 B (.slice (some ⟨g, 0, none⟩) n c) xs W) (i : Nat) (x : ByteArray) : PhiF w0 B (.slice (some ⟨g, 0, none⟩) n c) (xs.set i x) (W.setCell ⟨g, i, none⟩ (.string x)) :=
 ⟨below_setG h.1 (Kd.R_base h.2.2 g rfl) _, by rw [setCell_size]; exact h.2.1, (Kd.R_putg h.2.2 (i : Int) x).1⟩
theorem str_one (x : Int) : (strOfNums [x]).size = 1 := rfl
theorem conv_one {w : World} {g : Nat} (hg : w.heap.size = g) {x : Int} : (convert 35 9 (.slice (some ⟨g, 0, none⟩) 1 1)).run Tryd.prog (w.alloc (.cells #[.int .u8 x] 5)).drew = .ok (.string (strOfNums [x])) (w.alloc (.cells #[.int .u8 x] 5)).drew := by
 subst hg
 refine own_string (e := 5) (e' := 5) (base := w.heap.size) Tryd.underlying35 Tryd.underlying5 Tryd.underlying9 ⟨rfl, .inr ⟨w.heap.size, 1, #[.int .u8 x], rfl, Nat.le_refl _, ?_, Nat.le_refl _, by decide, rfl, rfl⟩⟩
 exact Array.getElem?_push_size
theorem fillM_zero (L : Nat → Nat → Int) {n : Nat} : List.replicate n (⟨#[]⟩ : ByteArray) = fillM L n (fun _ => 0) := by
 refine List.ext_getElem? (fun j => ?_)
 by_cases hj : j < n
 rotate_left
 ·rw [List.getElem?_replicate, if_neg hj, List.getElem?_eq_none (by rw [fillM_len]; omega)]
 rw [fillM_get L n _ j hj, List.getElem?_replicate, if_pos hj]
 rfl
theorem w_down {n : Nat} (h : n ≤ 1000) : Value.int .i64 (wrap64 ((n : Int) - 1)) = Value.int .i64 ((n : Int) - 1) := by
 have : wrap64 ((n : Int) - 1) = (n : Int) - 1 := by unfold wrap64; omega
 rw [this]
theorem letter_from {l : List ByteArray} {st : List Int} {p i : Nat} {na : Nat → Nat} {fr : Nat → Value} {lt : Nat → Int} (hS : stOk l st) (hF : frOk st na fr l.length) (hi : i < l.length) (hL : ∀ j, j < i → lt j = letP l st p j) :
  ∃ q, ((fr i = .pointer none ∧ q = -1) ∨ ∃ s, s < l.length ∧ fr i = ptr (na s) ∧ q = lt s) ∧ letP l st p i = (bestTo (tabP l st p i) q 4).1 := by
 have hf := hF i hi
 by_cases h0 : i = 0
 ·subst h0
  rw [if_pos rfl] at hf
  exact ⟨-1, .inl ⟨hf, rfl⟩, ltP_zero _ _⟩
 rw [if_neg h0] at hf
 have hs := hS.2.2 i (by omega) (by have := hS.1; omega)
 obtain ⟨s, es⟩ : ∃ s : Nat, rd st (i : Int) = (s : Int) := ⟨(rd st (i : Int)).toNat, by omega⟩
 rw [es, show ((s : Int)).toNat = s from rfl] at hf
 refine ⟨lt s, .inr ⟨s, by omega, hf, rfl⟩, ?_⟩
 rw [hL s (by omega)]
 exact ltP_step _ st (by omega) es (by omega)
theorem tab_up {l : List ByteArray} {st : List Int} {p k : Nat} {ch : Nat → Nat → Int} {c : Nat → Int} (hS : stOk l st) (hk : k < l.length) (h : ∀ j, k + 1 ≤ j → j < l.length → ∀ x, x < 4 → ch j x = tabP l st p j x) (hc : ∀ x, x < 4 → c x = cnt ch x (banQ (lostQ (rdOf ByteArray.empty l (k : Int))) (rdOf ByteArray.empty l (k : Int)) p x) (kidx st l.length k)) :
  ∀ j, k ≤ j → j < l.length → ∀ x, x < 4 → upd ch k c j x = tabP l st p j x := by
 intro j h1 h2 x hx
 by_cases e : j = k
 rotate_left
 ·rw [upd_ne _ _ e]
  exact h j (by omega) h2 x hx
 subst e
 rw [upd_eq, hc x hx]
 unfold tabP
 have hS2 : ∀ k : Nat, 1 ≤ k → k < l.length → rd st (k : Int) < k := fun k h0 h1 => (hS.2.2 k h0 (by have := hS.1; omega)).2
 rw [chP_eq hS2 j x hk]
 refine cnt_congr _ _ (fun q hq z hz => ?_)
 have m := kidx_mem hq
 have := hS2 q m.1 m.2.1
 exact h q (by omega) m.2.1 z hz
set_option maxHeartbeats 8000000 in
set_option maxRecDepth 100000 in
theorem impl_StemFill.calls (k : Nat) (A0 : Option Addr) (c0 : Nat) (l0 : List ByteArray) (A1 : Option Addr) (c1 : Nat) (l1 : List Int) (r1 : List ByteArray) (r2 : Bool) (w : World) (hr0 : Kd.C Kd.string w A0 l0.length l0) (hc0 : l0.length ≤ c0) (hr1 : Kd.C (Kd.int .i64) w A1 l1.length l1) (hc1 : l1.length ≤ c1) (h : impl_StemFill.f k l0 l1 = some (r1, r2)) :
  Calls Tryd.prog 54 #[.slice A0 l0.length c0, .slice A1 l1.length c1] w fun e w' => ∃ v0_ : Value, e = .returned (.tuple #[v0_, .bool r2]) ∧ Kd.R Kd.string 9 w' w.heap.size (fun _ => True) v0_ r1 ∧ Below w.heap.size w w' := by
 have HR0 := Aside0.mk hr0
 have HC0 := Aside0.mk hc0
 have HR1 := Aside0.mk hr1
 have HC1 := Aside0.mk hc1
 clear hr0 hc0 hr1 hc1
 have HB := Aside0.mk (Below.refl w.heap.size w)
 unfold impl_StemFill.f at h
 obtain ⟨t, A20, H⟩ := Option.bind_eq_some_iff.mp h
 clear h
 have A2 := Aside0.mk A20
 clear A20
 by_cases c3 : t = true
 rotate_left
 ·replace c3 := Bool.eq_false_iff.mpr c3
  subst c3
  rw [if_neg (show ¬ (false = true) by decide)] at H
  simp only [Option.some.injEq, Prod.mk.injEq] at H
  obtain ⟨rfl, rfl⟩ := H
  go_enter Tryd.func54, Tryd.ntmps54
  go_wp2_with (first | (go_at_call 30; (with_reducible refine (impl_StemValid.calls k _ _ l0 _ _ l1 false _ ?s1 ?s2 ?s3 ?s4 A2.out).mono ?_); (case s1 => repeat (first | exact (Kd.C_below HR0.out HB.out) | exact HR0.out | (with_reducible refine Kd.C_alloc ?_ _) | (with_reducible refine Kd.C_drewN ?_ _) | (with_reducible refine Kd.C_drew ?_))); (case s2 => exact HC0.out); (case s3 => repeat (first | exact (Kd.C_below HR1.out HB.out) | exact HR1.out | (with_reducible refine Kd.C_alloc ?_ _) | (with_reducible refine Kd.C_drewN ?_ _) | (with_reducible refine Kd.C_drew ?_))); (case s4 => exact HC1.out); rintro e w4 ⟨rfl, hb⟩; have n0_ := Aside0.mk (below_step (by repeat (first | (with_reducible first | exact HB.out | apply below_alloc | apply pw_below_drewN | apply below_drew1) | exact HB.out)) hb); clear HB; have HB := n0_; clear n0_; (try clear hb)))
  go_ret2
  exact ⟨_, rfl, Kd.R_nil _ _ _ _ _, (by repeat (first | (with_reducible first | exact HB.out | apply below_alloc | apply pw_below_drewN | apply below_drew1) | exact HB.out))⟩
 subst c3
 rw [if_pos rfl] at H
 by_cases c6 : fillOk l0 l1 = true
 rotate_left
 ·rw [if_neg c6] at H
  cases H
 rw [if_pos c6] at H
 simp only [Option.some.injEq, Prod.mk.injEq] at H
 obtain ⟨rfl, rfl⟩ := H
 have HH := Aside0.mk (fillH_of c6)
 have HS := Aside0.mk HH.out.ok
 clear c6
 have q478 : (0 : Int) < (l0.length : Int) := by have := HH.out.pos; omega
 obtain ⟨ad478, e478, hx478_0⟩ := Kd.at_string HR0.out 0 (Int.le_refl _) q478
 cases e478
 have HX478 : Aside0 (w.cell? ad478 = some (.string (rdOf ByteArray.empty l0 0))) := ⟨by simpa [Addr.add] using hx478_0⟩
 clear hx478_0
 replace q478 := eq_true q478
 have q479 := eq_true HH.out.pos
 go_enter Tryd.func54, Tryd.ntmps54
 go_wp2_with (first | (go_at_call 30; (with_reducible refine (impl_StemValid.calls k _ _ l0 _ _ l1 true _ ?s1 ?s2 ?s3 ?s4 A2.out).mono ?_); (case s1 => repeat (first | exact (Kd.C_below HR0.out HB.out) | exact HR0.out | (with_reducible refine Kd.C_alloc ?_ _) | (with_reducible refine Kd.C_drewN ?_ _) | (with_reducible refine Kd.C_drew ?_))); (case s2 => exact HC0.out); (case s3 => repeat (first | exact (Kd.C_below HR1.out HB.out) | exact HR1.out | (with_reducible refine Kd.C_alloc ?_ _) | (with_reducible refine Kd.C_drewN ?_ _) | (with_reducible refine Kd.C_drew ?_))); (case s4 => exact HC1.out); rintro e w4 ⟨rfl, hb⟩; have n0_ := Aside0.mk (below_step (by repeat (first | (with_reducible first | exact HB.out | apply below_alloc | apply pw_below_drewN | apply below_drew1) | exact HB.out)) hb); clear HB; have HB := n0_; clear n0_; (try clear hb)) | (go_at_call 68; (with_reducible refine (impl_stemTree.calls _ _ l0 _ _ l1 _ ?s1 ?s2 ?s3 ?s4 HS.out).mono ?_); (case s1 => repeat (first | exact (Kd.C_below HR0.out HB.out) | exact HR0.out | (with_reducible refine Kd.C_alloc ?_ _) | (with_reducible refine Kd.C_drewN ?_ _) | (with_reducible refine Kd.C_drew ?_))); (case s2 => exact HC0.out); (case s3 => repeat (first | exact (Kd.C_below HR1.out HB.out) | exact HR1.out | (with_reducible refine Kd.C_alloc ?_ _) | (with_reducible refine Kd.C_drewN ?_ _) | (with_reducible refine Kd.C_drew ?_))); (case s4 => exact HC1.out); rintro e w7 ⟨na, fr, vs, nv, rfl, ht, hf, hb⟩; have HBW := Aside0.mk ((by repeat (first | (with_reducible first | exact HB.out | apply below_alloc | apply pw_below_drewN | apply below_drew1) | exact HB.out))); have HTB := Aside0.mk (TreeF.start ht); have HF := Aside0.mk hf; have HBT := Aside0.mk hb; have n0_ := Aside0.mk (below_step (by repeat (first | (with_reducible first | exact HB.out | apply below_alloc | apply pw_below_drewN | apply below_drew1) | exact HB.out)) hb); have HSZ := Aside0.mk (below_size (by repeat (first | (with_reducible first | exact HB.out | apply below_alloc | apply pw_below_drewN | apply below_drew1) | exact HB.out))); clear HB; have HB := n0_; clear n0_; clear hb ht hf) | ((with_reducible refine gate_dst (N := 21) rfl ?_); refine Kd.R_make Kd.string _ 9 rfl (N := 21) rfl 22 _ _ rfl (l0.length : Int) rfl rfl Tryd.underlying22 (.string ⟨#[]⟩) 16 info9 rfl (by decide) (by omega) (⟨#[]⟩ : ByteArray) (ok := fun _ => True) (okp := fun _ => True) rfl (fun _ hk => hk) trivial (Int.natCast_nonneg _) (by rw [Int.toNat_natCast]; have := HS.out.2.1; omega) (Below.refl _ _) (Nat.le_refl _) ?_; intro vf w8 ho hb hg_ hnew_; clear hg_ hnew_; rw [Int.toNat_natCast] at ho; have HT := Aside0.mk (HTB.out.below hb); have HO := Aside0.mk (Kd.R_lower ho (below_size HBT.out)); have HBT2 := Aside0.mk (below_step HBT.out hb); have n0_ := Aside0.mk (below_step HB.out hb); clear HB; have HB := n0_; clear n0_; have hx478 := (HB.out.cell (World.block_lt_of_cell? w _ HX478.out)).trans HX478.out; clear ho hb))
 obtain ⟨gn, cn, en, gb, gl, clls, HG⟩ := Kd.R_form (show Kd.R kp 67 _ _ _ nv (addrs na l0.length) from HT.out.nr) (by rw [addrs_len]; have := HH.out.pos; omega)
 rw [addrs_len] at en
 subst en
 obtain ⟨gv, cv, ev, gbv, glv, clv, HGv⟩ := Kd.R_form HO.out (by rw [List.length_replicate]; have := HH.out.pos; omega)
 rw [List.length_replicate] at ev
 subst ev
 clear gb gl HG gbv glv HGv hx478
 rw [fillM_zero (letP l0 l1)] at HO
 have HS2 : Aside0 (∀ z : Nat, 1 ≤ z → z < l0.length → 0 ≤ rd l1 (z : Int) ∧ rd l1 (z : Int) < z) := ⟨fun z h0 h1 => HS.out.2.2 z h0 (by have := HS.out.1; omega)⟩
 have HS3 : Aside0 (l0.length ≤ 1000) := ⟨HS.out.2.1⟩
 go_loopg [26] (rdOf ByteArray.empty l0 0).size (fun kq v26 w' => ∃ (p : Nat) (ch : Nat → Nat → Int) (lt : Nat → Int), v26 = .int .i64 p ∧ p + kq = (rdOf ByteArray.empty l0 0).size ∧ Aside0 (TreeF l0 l1 w' w4.heap.size l0.length na fr vs (.slice (some ⟨gn, 0, none⟩) l0.length cn) ch lt) ∧ Aside0 (PhiF w4 w4.heap.size (.slice (some ⟨gv, 0, none⟩) l0.length cv) (fillM (letP l0 l1) l0.length (fun _ => p)) w'))
 case atStart => exact ⟨0, _, _, rfl, by omega, HT, ⟨⟨HBT2.out, below_size HBT2.out, HO.out⟩⟩⟩
 case round =>
  clear HT HO HBT HBT2 HTB
  obtain ⟨p, ch, lt, rfl, HP, HT, HPhi⟩ := hrel
  cases gk with
  | zero =>
   have c27 := decide_eq_false (show ¬ ((p : Int) < ((rdOf ByteArray.empty l0 0).size : Int)) by omega)
   have EP : Aside0 (p = (rdOf ByteArray.empty l0 0).size) := ⟨by omega⟩
   go_wp2
   go_ret2
   exact ⟨_, rfl, by rw [← EP.out]; exact Kd.R_lower HPhi.out.2.2 HSZ.out, below_step HBW.out HPhi.out.1⟩
  | succ k1 =>
   have c27 := decide_eq_true (show (p : Int) < ((rdOf ByteArray.empty l0 0).size : Int) by omega)
   have HPS : Aside0 (p < (rdOf ByteArray.empty l0 0).size) := ⟨by omega⟩
   have c28 := eq_true HPS.out
   go_wp2
   go_loopg [9] l0.length (fun kq v9 w' => ∃ (i : Int) (ch' : Nat → Nat → Int), v9 = .int .i64 i ∧ i + 1 = kq ∧ kq ≤ l0.length ∧ Aside0 (TreeF l0 l1 w' w4.heap.size l0.length na fr vs (.slice (some ⟨gn, 0, none⟩) l0.length cn) ch' lt) ∧ Aside0 (∀ j, kq ≤ j → j < l0.length → ∀ x, x < 4 → ch' j x = tabP l0 l1 p j x) ∧ Aside0 (PhiF w4 w4.heap.size (.slice (some ⟨gv, 0, none⟩) l0.length cv) (fillM (letP l0 l1) l0.length (fun _ => p)) w'))
   case atStart => exact ⟨_, ch, rfl, by have := HS.out.2.1; unfold wrap64; omega, Nat.le_refl _, HT, ⟨fun j h1 h2 => by omega⟩, HPhi⟩
   case round =>
    clear HT HPhi
    obtain ⟨i, ch, rfl, HI, HIL, HT, HC, HPhi⟩ := hrel
    cases gk with
    | zero =>
     have c33 := decide_eq_false (show ¬ (i ≥ 0) by omega)
     replace HC : Aside0 (∀ j, j < l0.length → ∀ x, x < 4 → ch j x = tabP l0 l1 p j x) := ⟨fun j h => HC.out j (Nat.zero_le _) h⟩
     go_wp2
     go_loopg [44] l0.length (fun kq v44 w' => ∃ (i : Nat) (lt' : Nat → Int), v44 = .int .i64 i ∧ i + kq = l0.length ∧ Aside0 (TreeF l0 l1 w' w4.heap.size l0.length na fr vs (.slice (some ⟨gn, 0, none⟩) l0.length cn) ch lt') ∧ Aside0 (∀ j, j < i → lt' j = letP l0 l1 p j) ∧ Aside0 (PhiF w4 w4.heap.size (.slice (some ⟨gv, 0, none⟩) l0.length cv) (fillM (letP l0 l1) l0.length (fun j => if j < i then p + 1 else p)) w'))
     case atStart => exact ⟨0, lt, rfl, by omega, HT, ⟨fun j h => absurd h (Nat.not_lt_zero j)⟩, ⟨by rw [fillM_congr _ _ (fun j => if j < 0 then p + 1 else p) (fun _ => p) (fun j _ => if_neg (Nat.not_lt_zero j))]; exact HPhi.out⟩⟩
     case round =>
      clear HT HPhi
      obtain ⟨i, lt, rfl, HI, HT, HL, HPhi⟩ := hrel
      cases gk with
      | zero =>
       have c45 := decide_eq_false (show ¬ ((i : Int) < (l0.length : Int)) by omega)
       have EI : Aside0 (i = l0.length) := ⟨by omega⟩
       go_wp2
       go_roundg k1
       case measure => omega
       case rel => exact ⟨p + 1, ch, lt, w_up2 (by have := HH.out.small; have := HPS.out; omega), by omega, HT, ⟨by rw [← fillM_congr _ _ (fun j => if j < i then p + 1 else p) (fun _ => p + 1) (fun j hj => if_pos (by rw [EI.out]; exact hj))]; exact HPhi.out⟩⟩
      | succ k2 =>
       have c45 := decide_eq_true (show (i : Int) < (l0.length : Int) by omega)
       have c46 := eq_true (show (i : Int) < (l0.length : Int) by omega)
       have c47 := eq_true (show (0 : Int) ≤ (i : Int) by omega)
       have c48 := eq_true (show i < l0.length by omega)
       have HIL : Aside0 (i < l0.length) := ⟨by omega⟩
       obtain ⟨hx3, hf3⟩ := Kd.R_celln (0 : Nat) (show (Kd.scalar ptr (fun _ => rfl)).R 67 _ _ _ (.slice (some ⟨gn, 0, none⟩) l0.length cn) _ from HT.out.nr) (i : Int) (by omega) (by have := HIL.out; omega)
       rw [addrs_rd _ _ _ HIL.out] at hx3
       simp only [ptr, Int.toNat_natCast] at hx3 hf3
       have HNE : Aside0 (∀ j, j < l0.length → ∀ b, (Value.slice (some ⟨gv, 0, none⟩) l0.length cv).ownBlock = some b → b ≠ na j) := ⟨fun j hj b hb => by obtain ⟨_, g⟩ := own_typed (Kd.own_of_R HPhi.out.2.2) b hb; exact blk_ne g (HT.out.nd j hj) (by decide)⟩
       obtain ⟨q, hq, eq_⟩ := letter_from (l := l0) (st := l1) (p := p) HS.out HF.out HIL.out HL.out
       have HQ := Aside0.mk hq
       have HEQ := Aside0.mk eq_
       clear hq eq_
       go_wp2_with (first | (go_at_call 76; go_loud ((with_reducible refine (stemNode_choose.calls i HT.out HPhi.out (fun W z v h => h.set (HT.out.ge i HIL.out) (HNE.out i HIL.out) z v) (fun W W' h hb => h.below hb) HIL.out q HQ.out).mono ?_); rintro e w9 ⟨rfl, ht, hphi⟩; have HT2 := Aside0.mk ht; have HPhi2 := Aside0.mk hphi; clear ht hphi; rw [bestTo_congr 4 (HC.out i HIL.out), ← HEQ.out] at HT2)))
       have HG := Aside0.mk HPhi2.out.2.2
       obtain ⟨go9, co9, eo9, gb9, gl9, cl9, HG9⟩ := Kd.R_form HG.out (by rw [fillM_len]; have := HIL.out; omega)
       obtain ⟨hx9, hf9⟩ := Kd.R_celln ByteArray.empty HG.out (i : Int) (by omega) (by have := HIL.out; omega)
       have hx7 : w9.cell? ⟨na i, 7, none⟩ = some (.int .i64 (letP l0 l1 p i)) := (blk_cell (HT2.out.nd i HIL.out) 7).trans (by rw [upd_eq]; rfl)
       rw [fillM_rd _ _ _ _ HIL.out, if_neg (Nat.lt_irrefl i)] at hx9
       clear gb9 gl9 HG9 eo9
       simp only [Int.toNat_natCast] at hx9 hf9
       have hcv : ∀ x : Int, (convert 35 9 (.slice (some ⟨w9.heap.size, 0, none⟩) 1 1)).run Tryd.prog (w9.alloc (.cells #[.int .u8 x] 5)).drew = .ok (.string (strOfNums [x])) (w9.alloc (.cells #[.int .u8 x] 5)).drew := fun x => conv_one rfl
       have hbd : ∀ x : Int, (9223372036854775807 < (fillT (fun p => letP l0 l1 p i) p).size + (strOfNums [x]).size) = False := fun x => eq_false (by rw [fillT_len, str_one]; have := HH.out.small; have := HPS.out; omega)
       have hzz : ∀ x : Int, (w9.alloc (.cells #[.int .u8 x] 5)).drew.cell? ⟨gv, i, none⟩ = some (.string (fillT (fun p => letP l0 l1 p i) p)) ∧ (w9.alloc (.cells #[.int .u8 x] 5)).drew.frozen? ⟨gv, i, none⟩ = false := fun x => by
        have hh := Kd.R_celln ByteArray.empty (Kd.R_drew (Kd.R_alloc HG.out (.cells #[.int .u8 x] 5))) (i : Int) (by omega) (by have := HIL.out; omega)
        rw [fillM_rd _ _ _ _ HIL.out, if_neg (Nat.lt_irrefl i)] at hh
        simp only [Int.toNat_natCast] at hh
        exact hh
       have hz9 := fun x => (hzz x).1
       have hzf := fun x => (hzz x).2
       have hz7 : ∀ x : Int, (w9.alloc (.cells #[.int .u8 x] 5)).drew.cell? ⟨na i, 7, none⟩ = some (.int .i64 (letP l0 l1 p i)) := fun x => (blk_cell (blk_drew (blk_alloc (HT2.out.nd i HIL.out) (.cells #[.int .u8 x] 5))) 7).trans (by rw [upd_eq]; rfl)
       clear hzz
       go_region
       have HT3 := (HT2.out.alloc (.cells #[.int .u8 ((97 + letP l0 l1 p i) % 256)] 5)).drew
       have HP3 := HPhi2.out.below (below_drew (below_alloc (Below.refl _ _) (.cells #[.int .u8 ((97 + letP l0 l1 p i) % 256)] 5)))
       have HT4 := Aside0.mk (HT3.far HP3.2.2 (i : Int).toNat (.string (fillT (fun p => letP l0 l1 p i) (p + 1))))
       have HP4 := Aside0.mk (HP3.put i (fillT (fun p => letP l0 l1 p i) (p + 1)))
       rw [fillM_set _ _ _ _ HIL.out, fillM_congr _ _ (upd (fun j => if j < i then p + 1 else p) i (p + 1)) (fun j => if j < i + 1 then p + 1 else p) (fun j _ => up_step j i p)] at HP4
       clear HT3 HP3 hcv hbd hz9 hzf hz7 hx9 hf9 hx7
       go_wp2
       go_roundg k2
       case measure => omega
       case rel => exact ⟨i + 1, upd lt i (letP l0 l1 p i), w_up2 (by have := HS3.out; have := HIL.out; omega), by omega, HT4, ⟨fun j hj => let_up HL.out j hj⟩, HP4⟩
    | succ k2 =>
     obtain rfl : i = (k2 : Int) := by omega
     have c33 := decide_eq_true (show (k2 : Int) ≥ 0 by omega)
     have c46 := eq_true (show (k2 : Int) < (l0.length : Int) by omega)
     have c47 := eq_true (show (0 : Int) ≤ (k2 : Int) by omega)
     have c48 := eq_true (show k2 < l0.length by omega)
     have HKL : Aside0 (k2 < l0.length) := ⟨by omega⟩
     obtain ⟨hx3, hf3⟩ := Kd.R_celln (0 : Nat) (show (Kd.scalar ptr (fun _ => rfl)).R 67 _ _ _ (.slice (some ⟨gn, 0, none⟩) l0.length cn) _ from HT.out.nr) (k2 : Int) (by omega) (by have := HKL.out; omega)
     rw [addrs_rd _ _ _ HKL.out] at hx3
     simp only [ptr, Int.toNat_natCast] at hx3 hf3
     have HNE : Aside0 (∀ j, j < l0.length → ∀ b, (Value.slice (some ⟨gv, 0, none⟩) l0.length cv).ownBlock = some b → b ≠ na j) := ⟨fun j hj b hb => by obtain ⟨_, g⟩ := own_typed (Kd.own_of_R HPhi.out.2.2) b hb; exact blk_ne g (HT.out.nd j hj) (by decide)⟩
     go_wp2_with (first | (go_at_call 75; go_loud ((with_reducible refine (stemNode_count.calls k2 HT.out HPhi.out (fun W z v h => h.set (HT.out.ge k2 HKL.out) (HNE.out k2 HKL.out) z v) (fun W W' h hb => h.below hb) HS2.out HS3.out HKL.out p (by rw [HH.out.sz k2 HKL.out]; exact HPS.out) _ (HH.out.lost k2 HKL.out)).mono ?_); rintro e w9 ⟨rfl, c, ht, hc, hphi⟩; have HT2 := Aside0.mk ht; have HPhi2 := Aside0.mk hphi; have HC2 := Aside0.mk hc; clear ht hphi hc)))
     go_roundg k2
     case measure => omega
     case rel => exact ⟨(k2 : Int) - 1, upd ch k2 c, w_down (by have := HS.out.2.1; have := HKL.out; omega), by omega, by omega, HT2, ⟨tab_up HS.out HKL.out HC.out HC2.out⟩, HPhi2⟩
end Go.Proofs.YtejoneninbdjbaaDoor.E
end
section
namespace Go.Proofs.YtejoneninbdjbaaDoor.E
open Go.RowKit Go.Proofs.YtejoneninbdjbaaDoorW.PrintWords Go.Proofs.YtejoneninbdjbaaDoorW.PrintLast Go.Proofs.YtejoneninbdjbaaDoorW.PrintMore
attribute [local go_sem] max2_int min2_int max_two min_two max_three min_three max_four min_four
set_option linter.unusedVariables false
set_option linter.unusedSimpArgs false
attribute [local go_sem] str_leq_ str_gtr_ str_geq_
def impl_StemFewest.f (k : Nat) (l0 : List ByteArray) (l1 : List Int) : Option (Int) := (impl_StemFill.f k l0 l1).bind fun bt651 => (if bt651.2 = true then ((impl_changesOf.f k bt651.1 l1).bind fun t655 => (some t655)) else (some (-1)))
set_option maxHeartbeats 8000000 in
set_option maxRecDepth 100000 in
theorem impl_StemFewest.calls (k : Nat) (A0 : Option Addr) (c0 : Nat) (l0 : List ByteArray) (A1 : Option Addr) (c1 : Nat) (l1 : List Int) (r : Int) (w : World) (hr0 : Kd.C Kd.string w A0 l0.length l0) (hc0 : l0.length ≤ c0) (hr1 : Kd.C (Kd.int .i64) w A1 l1.length l1) (hc1 : l1.length ≤ c1) (h : impl_StemFewest.f k l0 l1 = some r) :
  Calls Tryd.prog 51 #[.slice A0 l0.length c0, .slice A1 l1.length c1] w fun e w' => e = .returned (.int .i64 r) ∧ Below w.heap.size w w' := by
 have HR0 := Aside0.mk hr0
 have HC0 := Aside0.mk hc0
 clear hr0 hc0
 have HR1 := Aside0.mk hr1
 have HC1 := Aside0.mk hc1
 clear hr1 hc1
 have HB := Aside0.mk (Below.refl w.heap.size w)
 have H : ((impl_StemFill.f k l0 l1).bind fun bt651 => (if bt651.2 = true then ((impl_changesOf.f k bt651.1 l1).bind fun t655 => (some t655)) else (some (-1)))) = some r := h
 clear h
 replace H := Option.bind_eq_some_iff.mp H
 obtain ⟨⟨t651, t652⟩, A30, H⟩ := H
 replace H : (if t652 = true then ((impl_changesOf.f k t651 l1).bind fun t655 => (some t655)) else (some (-1))) = some r := H
 have A3 := Aside0.mk A30
 clear A30
 by_cases c4 : t652 = true
 rotate_left
 ·replace c4 := Bool.eq_false_iff.mpr c4
  subst c4
  have H1 : (some (-1)) = some r := by rw [if_neg (show ¬ (false = true) by decide)] at H; exact H
  clear H
  have H := H1
  clear H1
  obtain rfl := Option.some.inj H
  go_enter Tryd.func51, Tryd.ntmps51
  go_wp2_with (first | ((with_reducible refine gate_callee (f := 54) rfl ?_); refine goesL_ (some 10) rfl rfl Tryd.func54 (by kernel_rfl) rfl #[.slice A0 l0.length c0, .slice A1 l1.length c1] rfl (by (try simp only [List.map_toArray, List.map_cons, List.map_nil]); first | done | rfl | (simp only [List.length_drop, List.length_take]; rfl)) ?_; (with_reducible refine (impl_StemFill.calls k _ _ l0 _ _ l1 t651 false _ ?side1 ?side2 ?side3 ?side4 A3.out).mono ?_); (case side1 => repeat (first | exact HR0.out | (with_reducible refine Kd.C_alloc ?_ _) | (with_reducible refine Kd.C_drewN ?_ _) | (with_reducible refine Kd.C_drew ?_))); (case side2 => exact HC0.out); (case side3 => repeat (first | exact HR1.out | (with_reducible refine Kd.C_alloc ?_ _) | (with_reducible refine Kd.C_drewN ?_ _) | (with_reducible refine Kd.C_drew ?_))); (case side4 => exact HC1.out); rintro e w8 ⟨v653, rfl, ho0, hb⟩; refine ⟨_, rfl, ?_⟩; have n0_ := Aside0.mk (Kd.R_lower ho0 (below_size (by repeat (first | (with_reducible first | exact HB.out | apply below_alloc | apply pw_below_drewN | apply below_drew1) | exact HB.out)))); have n1_ := Aside0.mk (below_step (by repeat (first | (with_reducible first | exact HB.out | apply below_alloc | apply pw_below_drewN | apply below_drew1) | exact HB.out)) hb); clear HB; have HO654 := n0_; have HB := n1_; clear n0_ n1_; (try clear hb); (try clear hb2); (try clear hk); (try clear hi); (try clear ho0)))
  go_ret
  exact ⟨by first | rfl | (simp [errW_none, errW_some] <;> rfl) | (simp [*, errW_none, errW_some] <;> rfl), by repeat (first | (with_reducible first | exact HB.out | apply below_alloc | apply pw_below_drewN | apply below_drew1) | exact HB.out)⟩
 subst c4
 have H1 : ((impl_changesOf.f k t651 l1).bind fun t655 => (some t655)) = some r := by rw [if_pos rfl] at H; exact H
 clear H
 have H := H1
 clear H1
 replace H := Option.bind_eq_some_iff.mp H
 obtain ⟨t655, A50, H⟩ := H
 replace H : (some t655) = some r := H
 have A5 := Aside0.mk A50
 clear A50
 obtain rfl := Option.some.inj H
 go_enter Tryd.func51, Tryd.ntmps51
 go_wp2_with (first | ((with_reducible refine gate_callee (f := 54) rfl ?_); refine goesL_ (some 10) rfl rfl Tryd.func54 (by kernel_rfl) rfl #[.slice A0 l0.length c0, .slice A1 l1.length c1] rfl (by (try simp only [List.map_toArray, List.map_cons, List.map_nil]); first | done | rfl | (simp only [List.length_drop, List.length_take]; rfl)) ?_; (with_reducible refine (impl_StemFill.calls k _ _ l0 _ _ l1 t651 true _ ?side1 ?side2 ?side3 ?side4 A3.out).mono ?_); (case side1 => repeat (first | exact HR0.out | (with_reducible refine Kd.C_alloc ?_ _) | (with_reducible refine Kd.C_drewN ?_ _) | (with_reducible refine Kd.C_drew ?_))); (case side2 => exact HC0.out); (case side3 => repeat (first | exact HR1.out | (with_reducible refine Kd.C_alloc ?_ _) | (with_reducible refine Kd.C_drewN ?_ _) | (with_reducible refine Kd.C_drew ?_))); (case side4 => exact HC1.out); rintro e w6 ⟨v653, rfl, ho0, hb⟩; refine ⟨_, rfl, ?_⟩; have n0_ := Aside0.mk (Kd.R_lower ho0 (below_size (by repeat (first | (with_reducible first | exact HB.out | apply below_alloc | apply pw_below_drewN | apply below_drew1) | exact HB.out)))); have n1_ := Aside0.mk (below_step (by repeat (first | (with_reducible first | exact HB.out | apply below_alloc | apply pw_below_drewN | apply below_drew1) | exact HB.out)) hb); clear HB; have HO654 := n0_; have HB := n1_; clear n0_ n1_; (try clear hb); (try clear hb2); (try clear hk); (try clear hi); (try clear ho0); obtain ⟨Ao7, co7, eo7⟩ := Kd.R_slice HO654.out; subst eo7) | ((with_reducible refine gate_callee (f := 69) rfl ?_); refine goesL_ (some 17) rfl rfl Tryd.func69 (by kernel_rfl) rfl #[.slice Ao7 t651.length co7, .slice A1 l1.length c1] rfl (by (try simp only [List.map_toArray, List.map_cons, List.map_nil]); first | done | rfl | (simp only [List.length_drop, List.length_take]; rfl)) ?_; (with_reducible refine (impl_changesOf.calls k _ _ t651 _ _ l1 t655 _ ?side1 ?side2 ?side3 ?side4 A5.out).mono ?_); (case side1 => repeat (first | exact (Kd.R_reads' HO654.out).2.2 | (with_reducible refine Kd.C_alloc ?_ _) | (with_reducible refine Kd.C_drewN ?_ _) | (with_reducible refine Kd.C_drew ?_))); (case side2 => exact (Kd.R_reads' HO654.out).2.1); (case side3 => repeat (first | exact (Kd.C_below HR1.out HB.out) | (with_reducible refine Kd.C_alloc ?_ _) | (with_reducible refine Kd.C_drewN ?_ _) | (with_reducible refine Kd.C_drew ?_))); (case side4 => exact HC1.out); rintro e w' ⟨rfl, ⟨nd, rfl⟩⟩; refine ⟨_, rfl, ?_⟩))
 go_ret
 exact ⟨by first | rfl | (simp [errW_none, errW_some] <;> rfl) | (simp [*, errW_none, errW_some] <;> rfl), by repeat (first | (with_reducible first | exact HB.out | apply below_alloc | apply pw_below_drewN | apply below_drew1) | exact HB.out)⟩
end Go.Proofs.YtejoneninbdjbaaDoor.E
end
section
namespace Go.Proofs.YtejoneninbdjbaaDoor.E
open Go.RowKit Go.Proofs.YtejoneninbdjbaaDoorW.PrintWords Go.Proofs.YtejoneninbdjbaaDoorW.PrintLast Go.Proofs.YtejoneninbdjbaaDoorW.PrintMore
attribute [local go_sem] max2_int min2_int max_two min_two max_three min_three max_four min_four
set_option linter.unusedVariables false
set_option linter.unusedSimpArgs false
attribute [local go_sem] str_leq_ str_gtr_ str_geq_
def IsS79 (w0 W : World) (g : Nat) (f0 : List Int) (f1 : Int) : Prop := ∃ A0 c0, W.heap[g]? = some (.cells #[.slice A0 f0.length c0, .int .i64 f1] 79 (0, 0)) ∧ w0.heap.size ≤ g ∧ Kd.C (Kd.int .u8) w0 A0 f0.length f0
theorem IsS79.grown {w0 W : World} {g : Nat} {f0 : List Int} {f1 : Int} {W1 : World} {row : Option Nat} (h : IsS79 w0 W g f0 f1) (hw : W.grownBy W1 row) (hne : some g ≠ row) : IsS79 w0 W1 g f0 f1 := by
 obtain ⟨A0, c0, hb, hg, hr0⟩ := h
 exact ⟨A0, c0, blk_grown hb hw hne, hg, hr0⟩
theorem IsS79.below {w0 W : World} {g : Nat} {f0 : List Int} {f1 : Int} {W1 : World} (h : IsS79 w0 W g f0 f1) (hw : Below W.heap.size W W1) : IsS79 w0 W1 g f0 f1 := h.grown (grown_of_below hw none) (by simp)
theorem IsS79.drewN {w0 W : World} {g : Nat} {f0 : List Int} {f1 : Int} (h : IsS79 w0 W g f0 f1) (m : Nat) : IsS79 w0 (W.drewN m) g f0 f1 := h
theorem IsS79.apart {w0 W : World} {g : Nat} {f0 : List Int} {f1 : Int} {α : Type} {d : Kd α} {e : Nat} {base : Nat} {ok : Nat → Prop} {v : Value} {xs : List α} (h : IsS79 w0 W g f0 f1) (ho : d.R e W base ok v xs) (ht : ∀ q, q ∈ e :: d.E → q ≠ 79) : d.R e W base (fun k => ok k ∧ k ≠ g) v xs := by
 obtain ⟨A0, c0, hb, hg, hr0⟩ := h
 exact Kd.R_types ho hb ht
theorem IsS79.own_ne {w0 W : World} {g : Nat} {f0 : List Int} {f1 : Int} {α : Type} {d : Kd α} {e : Nat} {base : Nat} {ok : Nat → Prop} {v : Value} {xs : List α} (h : IsS79 w0 W g f0 f1) (ho : d.R e W base ok v xs) (ht : e ≠ 79) : some g ≠ v.ownBlock := by
 obtain ⟨A0, c0, hb, hg, hr0⟩ := h
 exact Kd.R_ne ho hb ht
theorem IsS79.ge {w0 W : World} {g : Nat} {f0 : List Int} {f1 : Int} (h : IsS79 w0 W g f0 f1) : w0.heap.size ≤ g := by
 obtain ⟨A0, c0, hb, hg, hr0⟩ := h
 exact hg
theorem cellS79_0 {W : World} {g : Nat} {A0 : Option Addr} {c0 : Nat} {f0 : List Int} {f1 : Int} (h : W.heap[g]? = some (.cells #[.slice A0 f0.length c0, .int .i64 f1] 79 (0, 0))) : W.cell? ⟨g, 0, none⟩ = some (.slice A0 f0.length c0) := (blk_cell h 0).trans rfl
theorem cellS79_1 {W : World} {g : Nat} {A0 : Option Addr} {c0 : Nat} {f0 : List Int} {f1 : Int} (h : W.heap[g]? = some (.cells #[.slice A0 f0.length c0, .int .i64 f1] 79 (0, 0))) : W.cell? ⟨g, 1, none⟩ = some (.int .i64 f1) := (blk_cell h 1).trans rfl
theorem IsS79.set_1 {w0 W : World} {g : Nat} {f0 : List Int} {f1 : Int} (h : IsS79 w0 W g f0 f1) (x : Int) : IsS79 w0 (W.setCell ⟨g, 1, none⟩ (.int .i64 x)) g f0 x := by
 obtain ⟨A0, c0, hb, hg, hr0⟩ := h
 exact ⟨A0, c0, by simpa using blk_set hb 1 (.int .i64 x), hg, hr0⟩
def spec_l6Open.f (l0 : List Int) : Option (List Int × Int) := if (l0.length : Int) > 2000 then (if 2000 ≤ (l0.length : Int) then (some (l0.take 2000, 0)) else (none)) else (some (l0, 0))
set_option maxHeartbeats 8000000 in
set_option maxRecDepth 100000 in
theorem spec_l6Open.calls (A0 : Option Addr) (c0 : Nat) (l0 : List Int) (r1 : List Int) (r2 : Int) (w0 w : World) (hB : Below w0.heap.size w0 w) (hr0 : Kd.C (Kd.int .u8) w0 A0 l0.length l0) (hc0 : l0.length ≤ c0) (h : spec_l6Open.f l0 = some (r1, r2)) :
  Calls Tryd.prog 65 #[.slice A0 l0.length c0] w fun e w' => ∃ g_ : Nat, e = .returned (.pointer (some ⟨g_, 0, none⟩)) ∧ IsS79 w0 w' g_ r1 r2 ∧ Below w0.heap.size w0 w' ∧ Below w.heap.size w w' := by
 have hu79 := Tryd.underlying79
 have HR0 := Aside0.mk hr0
 have HC0 := Aside0.mk hc0
 clear hr0 hc0
 have HBW := Aside0.mk (Below.refl w.heap.size w)
 have HW0 := Aside0.mk hB.size
 have HB := Aside0.mk hB
 clear hB
 have H : (if (l0.length : Int) > 2000 then (if 2000 ≤ (l0.length : Int) then (some (l0.take 2000, 0)) else (none)) else (some (l0, 0))) = some (r1, r2) := h
 clear h
 by_cases c2 : (l0.length : Int) > 2000
 rotate_left
 ·rw [if_neg c2] at H
  have c2b0 : decide (2000 < (l0.length : Int)) = false := decide_eq_false c2
  have c2b1 : decide (2000 < l0.length) = false := decide_eq_false (by omega)
  clear c2
  simp only [Option.some.injEq, Prod.mk.injEq] at H
  obtain ⟨rfl, rfl⟩ := H
  go_enter Tryd.func65, Tryd.ntmps65
  go_wp2_with (first | ((with_reducible refine gate_dst (N := 10) rfl ?_); refine box_event ?hg (N := 10) ?hd (cs := #[.slice A0 l0.length c0, .int .i64 0]) (t := 79) ?hr ?_; (case hd => rfl); (case hg => rfl); (case hr => first | (go_simp; done) | (go_simp; rfl)); intro gb225 hg w6 hbox hb; have n0_ := Aside0.mk (below_step HBW.out hb); have n1_ := Aside0.mk (below_step (by repeat (first | (with_reducible first | exact HB.out | apply below_alloc | apply pw_below_drewN | apply below_drew1) | exact HB.out)) hb); have n2_ := Aside0.mk (hbox); have n3_ := Aside0.mk ((by rw [hg]; exact (below_size (by repeat (first | (with_reducible first | exact HBW.out | apply below_alloc | apply pw_below_drewN | apply below_drew1) | exact HBW.out))) : w.heap.size ≤ gb225)); have n4_ := Aside0.mk ((Nat.le_trans HW0.out (by rw [hg]; exact (below_size (by repeat (first | (with_reducible first | exact HBW.out | apply below_alloc | apply pw_below_drewN | apply below_drew1) | exact HBW.out))) : w.heap.size ≤ gb225) : w0.heap.size ≤ gb225)); clear HBW; clear HB; have HBW := n0_; have HB := n1_; have BK225 := n2_; have GW225 := n3_; have GE225 := n4_; clear n0_ n1_ n2_ n3_ n4_; clear hb hbox hg))
  go_ret
  exact ⟨_, rfl, (show IsS79 w0 _ gb225 l0 0 from ⟨_, _, by (with_reducible repeat (first | refine blk_drewN ?_ _ | refine blk_drew ?_ | refine blk_alloc ?_ _)); exact BK225.out, GE225.out, HR0.out⟩), by repeat (first | (with_reducible first | exact HB.out | apply below_alloc | apply pw_below_drewN | apply below_drew1 | refine below_set ?_ GE225.out) | exact HB.out), by repeat (first | (with_reducible first | exact HBW.out | apply below_alloc | apply pw_below_drewN | apply below_drew1 | refine below_set ?_ GW225.out) | exact HBW.out)⟩
 rw [if_pos c2] at H
 have c2b0 : decide (2000 < (l0.length : Int)) = true := decide_eq_true c2
 have c2b1 : decide (2000 < l0.length) = true := decide_eq_true (by omega)
 clear c2
 by_cases c3 : 2000 ≤ (l0.length : Int)
 rotate_left
 ·rw [if_neg c3] at H
  exact absurd H (by simp)
 rw [if_pos c3] at H
 have c3b0 := eq_true c3
 have c3b1 : decide (2000 ≤ (l0.length : Int)) = true := decide_eq_true c3
 clear c3
 simp only [Option.some.injEq, Prod.mk.injEq] at H
 obtain ⟨rfl, rfl⟩ := H
 obtain ⟨i04, hi04, _, hsz4, _⟩ := info_parts info5
 obtain ⟨hcut4, hA4, hC4⟩ := print_take_of (P := Tryd.prog) (Value.int .u8) 0 35 5 .i64 Tryd.underlying35 hi04 hsz4 A0 c0 l0 2000 (by omega) (of_decide_eq_true (by first | (with_reducible assumption) | assumption)) HC0.out
 have HR223 := Aside0.mk (Kd.C_of_reads (h1 := fun _ => rfl) (hA4 _ (Kd.reads_of_C HR0.out)))
 have HC223 := Aside0.mk hC4
 clear hA4 hC4 hi04 hsz4
 go_enter Tryd.func65, Tryd.ntmps65
 go_wp2_with (first | ((with_reducible refine gate_dst (N := 10) rfl ?_); refine box_event ?hg (N := 10) ?hd (cs := #[.slice A0 (l0.take 2000).length c0, .int .i64 0]) (t := 79) ?hr ?_; (case hd => rfl); (case hg => rfl); (case hr => first | (go_simp; done) | (go_simp; rfl)); intro gb224 hg w5 hbox hb; have n0_ := Aside0.mk (below_step HBW.out hb); have n1_ := Aside0.mk (below_step (by repeat (first | (with_reducible first | exact HB.out | apply below_alloc | apply pw_below_drewN | apply below_drew1) | exact HB.out)) hb); have n2_ := Aside0.mk (hbox); have n3_ := Aside0.mk ((by rw [hg]; exact (below_size (by repeat (first | (with_reducible first | exact HBW.out | apply below_alloc | apply pw_below_drewN | apply below_drew1) | exact HBW.out))) : w.heap.size ≤ gb224)); have n4_ := Aside0.mk ((Nat.le_trans HW0.out (by rw [hg]; exact (below_size (by repeat (first | (with_reducible first | exact HBW.out | apply below_alloc | apply pw_below_drewN | apply below_drew1) | exact HBW.out))) : w.heap.size ≤ gb224) : w0.heap.size ≤ gb224)); clear HBW; clear HB; have HBW := n0_; have HB := n1_; have BK224 := n2_; have GW224 := n3_; have GE224 := n4_; clear n0_ n1_ n2_ n3_ n4_; clear hb hbox hg))
 go_ret
 exact ⟨_, rfl, (show IsS79 w0 _ gb224 (l0.take 2000) 0 from ⟨_, _, by (with_reducible repeat (first | refine blk_drewN ?_ _ | refine blk_drew ?_ | refine blk_alloc ?_ _)); exact BK224.out, GE224.out, HR223.out⟩), by repeat (first | (with_reducible first | exact HB.out | apply below_alloc | apply pw_below_drewN | apply below_drew1 | refine below_set ?_ GE224.out) | exact HB.out), by repeat (first | (with_reducible first | exact HBW.out | apply below_alloc | apply pw_below_drewN | apply below_drew1 | refine below_set ?_ GW224.out) | exact HBW.out)⟩
end Go.Proofs.YtejoneninbdjbaaDoor.E
end
section
namespace Go.Proofs.YtejoneninbdjbaaDoor.E
open Go.RowKit Go.Proofs.YtejoneninbdjbaaDoorW.PrintWords Go.Proofs.YtejoneninbdjbaaDoorW.PrintLast Go.Proofs.YtejoneninbdjbaaDoorW.PrintMore
attribute [local go_sem] max2_int min2_int max_two min_two max_three min_three max_four min_four
set_option linter.unusedVariables false
set_option linter.unusedSimpArgs false
attribute [local go_sem] str_leq_ str_gtr_ str_geq_
def spec_l6Rd_pick.j0 : Nat → Int → Bool → List Int → Int → Option (Int × Int)
 | 0, _, _, _, _ => none
 | k + 1, x1, x24, x1000, x1001 => if x24 = true then (some (0, x1001)) else (if (wrap64 (x1001 - 1)) < (x1000.length : Int) then (if 0 ≤ (wrap64 (x1001 - 1)) then (if x1 = 0 then (none) else (some (Int.tmod (wrap64 (rd x1000 (wrap64 (x1001 - 1)))) x1, x1001))) else (none)) else (if (x1000.length : Int) = 0 then (none) else (if 0 ≤ (Int.tmod (wrap64 (x1001 - 1)) (x1000.length : Int)) then (if (Int.tmod (wrap64 (x1001 - 1)) (x1000.length : Int)) < (x1000.length : Int) then (if 0 ≤ (Int.tmod (wrap64 ((wrap64 ((wrap64 (x1001 - 1)) * 7)) + 3)) (x1000.length : Int)) then (if (Int.tmod (wrap64 ((wrap64 ((wrap64 (x1001 - 1)) * 7)) + 3)) (x1000.length : Int)) < (x1000.length : Int) then (if x1 = 0 then (none) else (some (Int.tmod (Go.bits .xor .i64 (wrap64 ((wrap64 ((wrap64 ((wrap64 ((wrap64 (rd x1000 (Int.tmod (wrap64 (x1001 - 1)) (x1000.length : Int)))) * 131)) + (wrap64 ((wrap64 (rd x1000 (Int.tmod (wrap64 ((wrap64 ((wrap64 (x1001 - 1)) * 7)) + 3)) (x1000.length : Int)))) * 1117)))) + (wrap64 ((wrap64 (x1001 - 1)) * 29)))) + (wrap64 ((wrap64 (Int.tdiv (wrap64 (x1001 - 1)) (x1000.length : Int))) * 53)))) (wrap64 (Int.tdiv (wrap64 ((wrap64 ((wrap64 ((wrap64 ((wrap64 (rd x1000 (Int.tmod (wrap64 (x1001 - 1)) (x1000.length : Int)))) * 131)) + (wrap64 ((wrap64 (rd x1000 (Int.tmod (wrap64 ((wrap64 ((wrap64 (x1001 - 1)) * 7)) + 3)) (x1000.length : Int)))) * 1117)))) + (wrap64 ((wrap64 (x1001 - 1)) * 29)))) + (wrap64 ((wrap64 (Int.tdiv (wrap64 (x1001 - 1)) (x1000.length : Int))) * 53)))) 64))) x1, x1001))) else (none)) else (none)) else (none)) else (none))))
def spec_l6Rd_pick.f (k : Nat) (s0_0 : List Int) (s0_1 : Int) (a1 : Int) : Option (Int × Int) := if a1 < 1 then (spec_l6Rd_pick.j0 k a1 true s0_0 (wrap64 (s0_1 + 1))) else (spec_l6Rd_pick.j0 k a1 ((s0_0.length : Int) == 0) s0_0 (wrap64 (s0_1 + 1)))
set_option maxHeartbeats 8000000 in
set_option maxRecDepth 100000 in
theorem spec_l6Rd_pick.calls (k : Nat) (g : Nat) (s0_0 : List Int) (s0_1 : Int) (a1 : Int) (r1 : Int) (r2 : Int) (w0 w : World) (hI : IsS79 w0 w g s0_0 s0_1) (hB : Below w0.heap.size w0 w) (h : spec_l6Rd_pick.f k s0_0 s0_1 a1 = some (r1, r2)) :
  Calls Tryd.prog 81 #[.pointer (some ⟨g, 0, none⟩), .int .i64 a1] w fun e w' => e = .returned (.int .i64 r1) ∧ IsS79 w0 w' g s0_0 r2 ∧ Below w0.heap.size w0 w' ∧ KeepBut w w' g none := by
 have HI0 := Aside0.mk hI
 have HK := Aside0.mk (KeepBut.refl w g none)
 have HL := Aside0.mk hB.size
 clear hI
 have HW0 := Aside0.mk hB.size
 have HB := Aside0.mk hB
 clear hB
 have H : (if a1 < 1 then (spec_l6Rd_pick.j0 k a1 true s0_0 (wrap64 (s0_1 + 1))) else (spec_l6Rd_pick.j0 k a1 ((s0_0.length : Int) == 0) s0_0 (wrap64 (s0_1 + 1)))) = some (r1, r2) := h
 clear h
 have HC3 := Aside0.mk H
 clear H
 obtain ⟨ASz4_0, cSz4_0, HGz4, hgz4, HSz4_0⟩ := HI0.out
 have hcz4_0 := cellS79_0 HGz4
 have hcz4_1 := cellS79_1 HGz4
 have hfz4_1 := blk_frozen HGz4 1
 clear HGz4 hgz4
 go_enter Tryd.func81, Tryd.ntmps81
 go_upto_region 2 with (fail)
 repeat (go_quiet (fail); go_upto_region 2 with (fail))
 go_cut [24] (fun v24 wc => ∃ (kq : Nat) (x24_2 : Bool), v24 = .bool x24_2 ∧ Aside0 (spec_l6Rd_pick.j0 kq a1 x24_2 s0_0 (wrap64 (s0_1 + 1)) = some (r1, r2)) ∧ Aside0 (kq ≤ k) ∧ Aside0 (IsS79 w0 wc g s0_0 (wrap64 (s0_1 + 1))) ∧ Aside0 (KeepBut w wc g none) ∧ Aside0 (Below w0.heap.size w0 wc))
 case first =>
  have H := HC3.out
  clear HC3
  by_cases c5 : a1 < 1
  ·rw [if_pos c5] at H
   have c5b0 : decide (a1 < 1) = true := decide_eq_true c5
   clear c5
   (first | rw [c5b0] | (simp only [i64_w, i32_w]; rw [c5b0]) | skip)
   have H' := Aside0.mk H
   clear H
   go_wp2
   repeat (go_quiet (fail); try go_wp2)
   go_meet
   case rel => exact ⟨_, (true), (by first | rfl | (simp; done) | (simp [*]; done)), H', ⟨by first | omega | exact Nat.le_refl _⟩, ⟨by repeat (first | (with_reducible first | exact HI0.out | apply IsS79.alloc | apply IsS79.drewN | apply IsS79.drew | apply IsS79.set_1) | exact HI0.out)⟩, ⟨by repeat (first | (with_reducible first | exact HK.out | apply KeepBut.set_ | apply keep_drewN | apply keep_drew | apply keep_alloc) | exact HK.out)⟩, ⟨by repeat (first | (with_reducible first | exact HB.out | apply below_alloc | apply pw_below_drewN | apply below_drew1 | refine below_set ?_ (IsS79.ge HI0.out)) | exact HB.out)⟩⟩
  rw [if_neg c5] at H
  have c5b0 : decide (a1 < 1) = false := decide_eq_false c5
  clear c5
  (first | rw [c5b0] | (simp only [i64_w, i32_w]; rw [c5b0]) | skip)
  have H' := Aside0.mk H
  clear H
  obtain ⟨ASz6_0, cSz6_0, HGz6, hgz6, HSz6_0⟩ := HI0.out
  have hcz6_0 := cellS79_0 HGz6
  have hcz6_1 := cellS79_1 HGz6
  have hfz6_1 := blk_frozen HGz6 1
  clear HGz6 hgz6
  go_wp2
  repeat (go_quiet (fail); try go_wp2)
  go_meet
  case rel => exact ⟨_, (((s0_0.length : Int) == 0)), (by first | rfl | (simp; done) | (simp [*]; done)), H', ⟨by first | omega | exact Nat.le_refl _⟩, ⟨by repeat (first | (with_reducible first | exact HI0.out | apply IsS79.alloc | apply IsS79.drewN | apply IsS79.drew | apply IsS79.set_1) | exact HI0.out)⟩, ⟨by repeat (first | (with_reducible first | exact HK.out | apply KeepBut.set_ | apply keep_drewN | apply keep_drew | apply keep_alloc) | exact HK.out)⟩, ⟨by repeat (first | (with_reducible first | exact HB.out | apply below_alloc | apply pw_below_drewN | apply below_drew1 | refine below_set ?_ (IsS79.ge HI0.out)) | exact HB.out)⟩⟩
 case rest =>
  clear HC3
  try clear p2
  try clear c5
  try clear c5b0
  try clear p6
  try clear hcz4_0
  try clear hcz4_1
  try clear hcz6_0
  try clear hcz6_1
  try clear hfz4_1
  try clear hfz6_1
  obtain ⟨kq, x24_2, rfl, HA, HJ2, HI0, HK, HB⟩ := hcut
  cases kq with
  | zero => exact absurd HA.out (by simp [spec_l6Rd_pick.j0])
  | succ kj2 =>
   have H := HA.out
   clear HA
   simp only [spec_l6Rd_pick.j0] at H
   by_cases c7 : x24_2 = true
   ·subst c7
    have H1 : (some (0, (wrap64 (s0_1 + 1)))) = some (r1, r2) := by rw [if_pos rfl] at H; exact H
    clear H
    have H := H1
    clear H1
    simp only [Option.some.injEq, Prod.mk.injEq] at H
    obtain ⟨rfl, rfl⟩ := H
    go_wp2
    repeat (go_quiet (fail); try go_wp2)
    go_ret
    exact ⟨by first | rfl | (simp [errW_none, errW_some] <;> rfl) | (simp [*, errW_none, errW_some] <;> rfl), by repeat (first | (with_reducible first | exact HI0.out | apply IsS79.alloc | apply IsS79.drewN | apply IsS79.drew | apply IsS79.set_1) | exact HI0.out), by repeat (first | (with_reducible first | exact HB.out | apply below_alloc | apply pw_below_drewN | apply below_drew1 | refine below_set ?_ (IsS79.ge HI0.out)) | exact HB.out), by repeat (first | (with_reducible first | exact HK.out | apply KeepBut.set_ | apply keep_drewN | apply keep_drew | apply keep_alloc) | exact HK.out)⟩
   replace c7 := Bool.eq_false_iff.mpr c7
   subst c7
   have H1 : (if (wrap64 ((wrap64 (s0_1 + 1)) - 1)) < (s0_0.length : Int) then (if 0 ≤ (wrap64 ((wrap64 (s0_1 + 1)) - 1)) then (if a1 = 0 then (none) else (some (Int.tmod (wrap64 (rd s0_0 (wrap64 ((wrap64 (s0_1 + 1)) - 1)))) a1, (wrap64 (s0_1 + 1))))) else (none)) else (if (s0_0.length : Int) = 0 then (none) else (if 0 ≤ (Int.tmod (wrap64 ((wrap64 (s0_1 + 1)) - 1)) (s0_0.length : Int)) then (if (Int.tmod (wrap64 ((wrap64 (s0_1 + 1)) - 1)) (s0_0.length : Int)) < (s0_0.length : Int) then (if 0 ≤ (Int.tmod (wrap64 ((wrap64 ((wrap64 ((wrap64 (s0_1 + 1)) - 1)) * 7)) + 3)) (s0_0.length : Int)) then (if (Int.tmod (wrap64 ((wrap64 ((wrap64 ((wrap64 (s0_1 + 1)) - 1)) * 7)) + 3)) (s0_0.length : Int)) < (s0_0.length : Int) then (if a1 = 0 then (none) else (some (Int.tmod (Go.bits .xor .i64 (wrap64 ((wrap64 ((wrap64 ((wrap64 ((wrap64 (rd s0_0 (Int.tmod (wrap64 ((wrap64 (s0_1 + 1)) - 1)) (s0_0.length : Int)))) * 131)) + (wrap64 ((wrap64 (rd s0_0 (Int.tmod (wrap64 ((wrap64 ((wrap64 ((wrap64 (s0_1 + 1)) - 1)) * 7)) + 3)) (s0_0.length : Int)))) * 1117)))) + (wrap64 ((wrap64 ((wrap64 (s0_1 + 1)) - 1)) * 29)))) + (wrap64 ((wrap64 (Int.tdiv (wrap64 ((wrap64 (s0_1 + 1)) - 1)) (s0_0.length : Int))) * 53)))) (wrap64 (Int.tdiv (wrap64 ((wrap64 ((wrap64 ((wrap64 ((wrap64 (rd s0_0 (Int.tmod (wrap64 ((wrap64 (s0_1 + 1)) - 1)) (s0_0.length : Int)))) * 131)) + (wrap64 ((wrap64 (rd s0_0 (Int.tmod (wrap64 ((wrap64 ((wrap64 ((wrap64 (s0_1 + 1)) - 1)) * 7)) + 3)) (s0_0.length : Int)))) * 1117)))) + (wrap64 ((wrap64 ((wrap64 (s0_1 + 1)) - 1)) * 29)))) + (wrap64 ((wrap64 (Int.tdiv (wrap64 ((wrap64 (s0_1 + 1)) - 1)) (s0_0.length : Int))) * 53)))) 64))) a1, (wrap64 (s0_1 + 1))))) else (none)) else (none)) else (none)) else (none)))) = some (r1, r2) := by rw [if_neg (show ¬ (false = true) by decide)] at H; exact H
   clear H
   have H := H1
   clear H1
   by_cases c8 : (wrap64 ((wrap64 (s0_1 + 1)) - 1)) < (s0_0.length : Int)
   ·rw [if_pos c8] at H
    have c8b0 : decide ((wrap64 ((wrap64 (s0_1 + 1)) - 1)) < (s0_0.length : Int)) = true := decide_eq_true c8
    clear c8
    obtain ⟨ji9, hji9⟩ : ∃ j_ : Int, (wrap64 ((wrap64 (s0_1 + 1)) - 1)) = j_ := ⟨_, rfl⟩
    replace H : (if 0 ≤ (ji9) then (if a1 = 0 then (none) else (some (Int.tmod (wrap64 (rd s0_0 (ji9))) a1, (wrap64 (s0_1 + 1))))) else (none)) = some (r1, r2) := by first | (rw [hji9] at H; exact H) | (simp only [hji9] at H ⊢; exact H)
    (try rw [hji9] at c8b0)
    have hji9w : (IntKind.i64.wrap ((wrap64 (s0_1 + 1)) - 1)) = ji9 := (i64_w _).trans hji9
    by_cases c10 : 0 ≤ (ji9)
    rotate_left
    ·rw [if_neg c10] at H
     exact absurd H (by simp)
    rw [if_pos c10] at H
    have c10b0 : decide (0 ≤ (ji9)) = true := decide_eq_true c10
    clear c10
    by_cases c11 : a1 = 0
    ·rw [if_pos c11] at H
     exact absurd H (by simp)
    rw [if_neg c11] at H
    have c11b0 : (a1 == 0) = false := beq_eq_false_iff_ne.mpr c11
    have c11b1 : (a1 != 0) = true := bne_iff_ne.mpr c11
    simp only [Option.some.injEq, Prod.mk.injEq] at H
    obtain ⟨rfl, rfl⟩ := H
    obtain ⟨ASz12_0, cSz12_0, HGz12, hgz12, HSz12_0⟩ := HI0.out
    have hcz12_0 := cellS79_0 HGz12
    have hcz12_1 := cellS79_1 HGz12
    have hfz12_1 := blk_frozen HGz12 1
    clear HGz12 hgz12
    have p226 : 0 ≤ ((ji9) : Int) := of_decide_eq_true (by first | (with_reducible assumption) | assumption)
    have q226 : (ji9) < (s0_0.length : Int) := of_decide_eq_true (by first | (with_reducible assumption) | assumption)
    obtain ⟨ad226, e226, hx226_0⟩ := Kd.at_int HSz12_0 (ji9) p226 q226
    cases e226
    replace hx226_0 := pw_cell_below HB.out hx226_0
    replace p226 := eq_true p226
    replace q226 := eq_true q226
    go_wp2
    repeat (go_quiet (fail); try go_wp2)
    go_ret
    exact ⟨by first | rfl | (simp [errW_none, errW_some] <;> rfl) | (simp only [← hji9]; first | rfl | (simp [errW_none, errW_some] <;> rfl)) | (simp [*, errW_none, errW_some] <;> rfl), by repeat (first | (with_reducible first | exact HI0.out | apply IsS79.alloc | apply IsS79.drewN | apply IsS79.drew | apply IsS79.set_1) | exact HI0.out), by repeat (first | (with_reducible first | exact HB.out | apply below_alloc | apply pw_below_drewN | apply below_drew1 | refine below_set ?_ (IsS79.ge HI0.out)) | exact HB.out), by repeat (first | (with_reducible first | exact HK.out | apply KeepBut.set_ | apply keep_drewN | apply keep_drew | apply keep_alloc) | exact HK.out)⟩
   rw [if_neg c8] at H
   have c8b0 : decide ((wrap64 ((wrap64 (s0_1 + 1)) - 1)) < (s0_0.length : Int)) = false := decide_eq_false c8
   clear c8
   by_cases c13 : (s0_0.length : Int) = 0
   ·rw [if_pos c13] at H
    exact absurd H (by simp)
   rw [if_neg c13] at H
   have c13b0 : ((s0_0.length : Int) == 0) = false := beq_eq_false_iff_ne.mpr c13
   have c13b1 : ((s0_0.length : Int) != 0) = true := bne_iff_ne.mpr c13
   have c13b2 : ¬ (s0_0 = []) := fun h_ => c13 (by rw [h_]; rfl)
   obtain ⟨ji14, hji14⟩ : ∃ j_ : Int, (Int.tmod (wrap64 ((wrap64 (s0_1 + 1)) - 1)) (s0_0.length : Int)) = j_ := ⟨_, rfl⟩
   replace H : (if 0 ≤ (ji14) then (if (ji14) < (s0_0.length : Int) then (if 0 ≤ (Int.tmod (wrap64 ((wrap64 ((wrap64 ((wrap64 (s0_1 + 1)) - 1)) * 7)) + 3)) (s0_0.length : Int)) then (if (Int.tmod (wrap64 ((wrap64 ((wrap64 ((wrap64 (s0_1 + 1)) - 1)) * 7)) + 3)) (s0_0.length : Int)) < (s0_0.length : Int) then (if a1 = 0 then (none) else (some (Int.tmod (Go.bits .xor .i64 (wrap64 ((wrap64 ((wrap64 ((wrap64 ((wrap64 (rd s0_0 (ji14))) * 131)) + (wrap64 ((wrap64 (rd s0_0 (Int.tmod (wrap64 ((wrap64 ((wrap64 ((wrap64 (s0_1 + 1)) - 1)) * 7)) + 3)) (s0_0.length : Int)))) * 1117)))) + (wrap64 ((wrap64 ((wrap64 (s0_1 + 1)) - 1)) * 29)))) + (wrap64 ((wrap64 (Int.tdiv (wrap64 ((wrap64 (s0_1 + 1)) - 1)) (s0_0.length : Int))) * 53)))) (wrap64 (Int.tdiv (wrap64 ((wrap64 ((wrap64 ((wrap64 ((wrap64 (rd s0_0 (ji14))) * 131)) + (wrap64 ((wrap64 (rd s0_0 (Int.tmod (wrap64 ((wrap64 ((wrap64 ((wrap64 (s0_1 + 1)) - 1)) * 7)) + 3)) (s0_0.length : Int)))) * 1117)))) + (wrap64 ((wrap64 ((wrap64 (s0_1 + 1)) - 1)) * 29)))) + (wrap64 ((wrap64 (Int.tdiv (wrap64 ((wrap64 (s0_1 + 1)) - 1)) (s0_0.length : Int))) * 53)))) 64))) a1, (wrap64 (s0_1 + 1))))) else (none)) else (none)) else (none)) else (none)) = some (r1, r2) := by first | (rw [hji14] at H; exact H) | (simp only [hji14] at H ⊢; exact H)
   by_cases c15 : 0 ≤ (ji14)
   rotate_left
   ·rw [if_neg c15] at H
    exact absurd H (by simp)
   rw [if_pos c15] at H
   have c15b0 : decide (0 ≤ (ji14)) = true := decide_eq_true c15
   clear c15
   by_cases c16 : (ji14) < (s0_0.length : Int)
   rotate_left
   ·rw [if_neg c16] at H
    exact absurd H (by simp)
   rw [if_pos c16] at H
   have c16b0 : decide ((ji14) < (s0_0.length : Int)) = true := decide_eq_true c16
   clear c16
   obtain ⟨ji17, hji17⟩ : ∃ j_ : Int, (Int.tmod (wrap64 ((wrap64 ((wrap64 ((wrap64 (s0_1 + 1)) - 1)) * 7)) + 3)) (s0_0.length : Int)) = j_ := ⟨_, rfl⟩
   replace H : (if 0 ≤ (ji17) then (if (ji17) < (s0_0.length : Int) then (if a1 = 0 then (none) else (some (Int.tmod (Go.bits .xor .i64 (wrap64 ((wrap64 ((wrap64 ((wrap64 ((wrap64 (rd s0_0 (ji14))) * 131)) + (wrap64 ((wrap64 (rd s0_0 (ji17))) * 1117)))) + (wrap64 ((wrap64 ((wrap64 (s0_1 + 1)) - 1)) * 29)))) + (wrap64 ((wrap64 (Int.tdiv (wrap64 ((wrap64 (s0_1 + 1)) - 1)) (s0_0.length : Int))) * 53)))) (wrap64 (Int.tdiv (wrap64 ((wrap64 ((wrap64 ((wrap64 ((wrap64 (rd s0_0 (ji14))) * 131)) + (wrap64 ((wrap64 (rd s0_0 (ji17))) * 1117)))) + (wrap64 ((wrap64 ((wrap64 (s0_1 + 1)) - 1)) * 29)))) + (wrap64 ((wrap64 (Int.tdiv (wrap64 ((wrap64 (s0_1 + 1)) - 1)) (s0_0.length : Int))) * 53)))) 64))) a1, (wrap64 (s0_1 + 1))))) else (none)) else (none)) = some (r1, r2) := by first | (rw [hji17] at H; exact H) | (simp only [hji17] at H ⊢; exact H)
   by_cases c18 : 0 ≤ (ji17)
   rotate_left
   ·rw [if_neg c18] at H
    exact absurd H (by simp)
   rw [if_pos c18] at H
   have c18b0 : decide (0 ≤ (ji17)) = true := decide_eq_true c18
   clear c18
   by_cases c19 : (ji17) < (s0_0.length : Int)
   rotate_left
   ·rw [if_neg c19] at H
    exact absurd H (by simp)
   rw [if_pos c19] at H
   have c19b0 : decide ((ji17) < (s0_0.length : Int)) = true := decide_eq_true c19
   clear c19
   by_cases c20 : a1 = 0
   ·rw [if_pos c20] at H
    exact absurd H (by simp)
   rw [if_neg c20] at H
   have c20b0 : (a1 == 0) = false := beq_eq_false_iff_ne.mpr c20
   have c20b1 : (a1 != 0) = true := bne_iff_ne.mpr c20
   simp only [Option.some.injEq, Prod.mk.injEq] at H
   obtain ⟨rfl, rfl⟩ := H
   obtain ⟨ASz21_0, cSz21_0, HGz21, hgz21, HSz21_0⟩ := HI0.out
   have hcz21_0 := cellS79_0 HGz21
   have hcz21_1 := cellS79_1 HGz21
   have hfz21_1 := blk_frozen HGz21 1
   clear HGz21 hgz21
   have p227 : 0 ≤ ((ji14) : Int) := of_decide_eq_true (by first | (with_reducible assumption) | assumption)
   have q227 : (ji14) < (s0_0.length : Int) := of_decide_eq_true (by first | (with_reducible assumption) | assumption)
   obtain ⟨ad227, e227, hx227_0⟩ := Kd.at_int HSz21_0 (ji14) p227 q227
   cases e227
   replace hx227_0 := pw_cell_below HB.out hx227_0
   replace p227 := eq_true p227
   replace q227 := eq_true q227
   have p228 : 0 ≤ ((ji17) : Int) := of_decide_eq_true (by first | (with_reducible assumption) | assumption)
   have q228 : (ji17) < (s0_0.length : Int) := of_decide_eq_true (by first | (with_reducible assumption) | assumption)
   obtain ⟨ad228, e228, hx228_0⟩ := Kd.at_int HSz21_0 (ji17) p228 q228
   obtain rfl : ad227 = ad228 := (by injection e228)
   replace hx228_0 := pw_cell_below HB.out hx228_0
   replace p228 := eq_true p228
   replace q228 := eq_true q228
   go_wp2
   repeat (go_quiet (fail); try go_wp2)
   go_ret
   exact ⟨by first | rfl | (simp [errW_none, errW_some] <;> rfl) | (simp only [← hji14, ← hji17]; first | rfl | (simp [errW_none, errW_some] <;> rfl)) | (simp [*, errW_none, errW_some] <;> rfl), by repeat (first | (with_reducible first | exact HI0.out | apply IsS79.alloc | apply IsS79.drewN | apply IsS79.drew | apply IsS79.set_1) | exact HI0.out), by repeat (first | (with_reducible first | exact HB.out | apply below_alloc | apply pw_below_drewN | apply below_drew1 | refine below_set ?_ (IsS79.ge HI0.out)) | exact HB.out), by repeat (first | (with_reducible first | exact HK.out | apply KeepBut.set_ | apply keep_drewN | apply keep_drew | apply keep_alloc) | exact HK.out)⟩
end Go.Proofs.YtejoneninbdjbaaDoor.E
end
section
namespace Go.Proofs.YtejoneninbdjbaaDoor.E
open Go.RowKit Go.Proofs.YtejoneninbdjbaaDoorW.PrintWords Go.Proofs.YtejoneninbdjbaaDoorW.PrintLast Go.Proofs.YtejoneninbdjbaaDoorW.PrintMore
attribute [local go_sem] max2_int min2_int max_two min_two max_three min_three max_four min_four
set_option linter.unusedVariables false
set_option linter.unusedSimpArgs false
attribute [local go_sem] str_leq_ str_gtr_ str_geq_
def spec_l6Rd_of.f (k : Nat) (s0_0 : List Int) (s0_1 : Int) (l1 : List ByteArray) : Option (ByteArray × Int) := (spec_l6Rd_pick.f k s0_0 s0_1 (l1.length : Int)).bind fun bt229 => (if 0 ≤ bt229.1 then (if bt229.1 < (l1.length : Int) then (some (rdOf ByteArray.empty l1 bt229.1, bt229.2)) else (none)) else (none))
set_option maxHeartbeats 8000000 in
set_option maxRecDepth 100000 in
theorem spec_l6Rd_of.calls (k : Nat) (g : Nat) (s0_0 : List Int) (s0_1 : Int) (A1 : Option Addr) (c1 : Nat) (l1 : List ByteArray) (r1 : ByteArray) (r2 : Int) (w0 w : World) (hI : IsS79 w0 w g s0_0 s0_1) (hB : Below w0.heap.size w0 w) (hr1 : Kd.C Kd.string w A1 l1.length l1) (hc1 : l1.length ≤ c1) (hf1 : ∀ ad, A1 = some ad → 0 < l1.length → ad.block ≠ g) (h : spec_l6Rd_of.f k s0_0 s0_1 l1 = some (r1, r2)) :
  Calls Tryd.prog 82 #[.pointer (some ⟨g, 0, none⟩), .slice A1 l1.length c1] w fun e w' => e = .returned (.string r1) ∧ IsS79 w0 w' g s0_0 r2 ∧ Below w0.heap.size w0 w' ∧ KeepBut w w' g none := by
 have HR1 := Aside0.mk hr1
 have HC1 := Aside0.mk hc1
 clear hr1 hc1
 have HI0 := Aside0.mk hI
 have HK := Aside0.mk (KeepBut.refl w g none)
 have HL := Aside0.mk hB.size
 clear hI
 have HW0 := Aside0.mk hB.size
 have HB := Aside0.mk hB
 clear hB
 have H : ((spec_l6Rd_pick.f k s0_0 s0_1 (l1.length : Int)).bind fun bt229 => (if 0 ≤ bt229.1 then (if bt229.1 < (l1.length : Int) then (some (rdOf ByteArray.empty l1 bt229.1, bt229.2)) else (none)) else (none))) = some (r1, r2) := h
 clear h
 replace H := Option.bind_eq_some_iff.mp H
 obtain ⟨⟨t229, t230⟩, A30, H⟩ := H
 replace H : (if 0 ≤ t229 then (if t229 < (l1.length : Int) then (some (rdOf ByteArray.empty l1 t229, t230)) else (none)) else (none)) = some (r1, r2) := H
 have A3 := Aside0.mk A30
 clear A30
 by_cases c4 : 0 ≤ t229
 rotate_left
 ·rw [if_neg c4] at H
  exact absurd H (by simp)
 rw [if_pos c4] at H
 have c4b0 : decide (0 ≤ t229) = true := decide_eq_true c4
 clear c4
 by_cases c5 : t229 < (l1.length : Int)
 rotate_left
 ·rw [if_neg c5] at H
  exact absurd H (by simp)
 rw [if_pos c5] at H
 have c5b0 : decide (t229 < (l1.length : Int)) = true := decide_eq_true c5
 clear c5
 simp only [Option.some.injEq, Prod.mk.injEq] at H
 obtain ⟨rfl, rfl⟩ := H
 go_enter Tryd.func82, Tryd.ntmps82
 go_wp2_with (first | ((with_reducible refine gate_callee (f := 81) rfl ?_); refine goesL_ (some 9) rfl rfl Tryd.func81 (by kernel_rfl) rfl #[.pointer (some ⟨g, 0, none⟩), .int .i64 (l1.length : Int)] rfl (by (try simp only [List.map_toArray, List.map_cons, List.map_nil]); first | done | rfl | (simp only [List.length_drop, List.length_take]; rfl)) ?_; (with_reducible refine (spec_l6Rd_pick.calls k g s0_0 s0_1 (l1.length : Int) t229 t230 w0 _ ?side1 ?side2 A3.out).mono ?_); (case side1 => repeat (first | (with_reducible first | exact HI0.out | apply IsS79.alloc | apply IsS79.drewN | apply IsS79.drew | apply IsS79.set_1) | exact HI0.out)); (case side2 => repeat (first | (with_reducible first | exact HB.out | apply below_alloc | apply pw_below_drewN | apply below_drew1 | refine below_set ?_ (IsS79.ge HI0.out)) | exact HB.out)); rintro e w6 ⟨rfl, hi, hb, hk⟩; refine ⟨_, rfl, ?_⟩; have n0_ := Aside0.mk (KeepBut.trans (by repeat (first | (with_reducible first | exact HK.out | apply KeepBut.set_ | apply keep_drewN | apply keep_drew | apply keep_alloc) | exact HK.out)) hk (.inl rfl)); have n1_ := Aside0.mk (hb); have n2_ := Aside0.mk (hi); clear HK; clear HB; clear HI0; have HK := n0_; have HB := n1_; have HI0 := n2_; clear n0_ n1_ n2_; (try clear hb); (try clear hb2); (try clear hk); (try clear hi); have p231 : 0 ≤ (t229 : Int) := of_decide_eq_true (by first | (with_reducible assumption) | assumption); have q231 : t229 < (l1.length : Int) := of_decide_eq_true (by first | (with_reducible assumption) | assumption); obtain ⟨ad231, e231, hx231_0⟩ := Kd.at_string HR1.out t229 p231 q231; cases e231; replace hx231_0 := keep_cell HK.out hx231_0 (by first | (rw [add_block]; exact hf1 _ rfl (by omega)) | exact hf1 _ rfl (by omega) | exact hf1 ad231 rfl (by omega)); replace p231 := eq_true p231; replace q231 := eq_true q231))
 go_ret
 exact ⟨by first | rfl | (simp [errW_none, errW_some] <;> rfl) | (simp [*, errW_none, errW_some] <;> rfl), by repeat (first | (with_reducible first | exact HI0.out | apply IsS79.alloc | apply IsS79.drewN | apply IsS79.drew | apply IsS79.set_1) | exact HI0.out), by repeat (first | (with_reducible first | exact HB.out | apply below_alloc | apply pw_below_drewN | apply below_drew1 | refine below_set ?_ (IsS79.ge HI0.out)) | exact HB.out), by repeat (first | (with_reducible first | exact HK.out | apply KeepBut.set_ | apply keep_drewN | apply keep_drew | apply keep_alloc) | exact HK.out)⟩
end Go.Proofs.YtejoneninbdjbaaDoor.E
end
section
namespace Go.Proofs.YtejoneninbdjbaaDoor.E
open Go.RowKit Go.Proofs.YtejoneninbdjbaaDoorW.PrintWords Go.Proofs.YtejoneninbdjbaaDoorW.PrintLast Go.Proofs.YtejoneninbdjbaaDoorW.PrintMore
attribute [local go_sem] max2_int min2_int max_two min_two max_three min_three max_four min_four
set_option linter.unusedVariables false
set_option linter.unusedSimpArgs false
attribute [local go_sem] str_leq_ str_gtr_ str_geq_
mutual
def spec_l92Books.l0 : Nat → Bool → List ByteArray → Int → Int → Int → List Int → Int → Option (List ByteArray × Int)
 | 0, _, _, _, _, _, _, _ => none
 | k + 1, x1, x5, x6, x7, x8, x1000, x1001 => if x8 < x6 then (spec_l92Books.l1 k x1 x5 x6 x7 x8 (⟨#[]⟩ : ByteArray) 0 x1000 x1001) else ((spec_l6Rd_pick.f k x1000 x1001 40).bind fun bt269 => (if bt269.1 = 0 then (if 0 < (x5.length : Int) then (if (rdOf ByteArray.empty x5 0).size + 1 ≤ 9223372036854775807 then (some ((x5.set (0 : Int).toNat ((rdOf ByteArray.empty x5 0) ++ (⟨#[97]⟩ : ByteArray))), bt269.2)) else (none)) else (none)) else (if bt269.1 = 1 then (if 0 ≤ (wrap64 (x6 - 1)) then (if (wrap64 (x6 - 1)) < (x5.length : Int) then (if 1 ≤ ((rdOf ByteArray.empty x5 (wrap64 (x6 - 1))).size : Int) then (if 1 + ((rdOf ByteArray.empty x5 (wrap64 (x6 - 1))).extract 1 (rdOf ByteArray.empty x5 (wrap64 (x6 - 1))).size).size ≤ 9223372036854775807 then (some ((x5.set ((wrap64 (x6 - 1)) : Int).toNat ((⟨#[101]⟩ : ByteArray) ++ ((rdOf ByteArray.empty x5 (wrap64 (x6 - 1))).extract 1 (rdOf ByteArray.empty x5 (wrap64 (x6 - 1))).size))), bt269.2)) else (none)) else (none)) else (none)) else (none)) else (if bt269.1 = 2 then (some ((([] : List ByteArray)), bt269.2)) else (some (x5, bt269.2))))))
def spec_l92Books.l1 : Nat → Bool → List ByteArray → Int → Int → Int → ByteArray → Int → List Int → Int → Option (List ByteArray × Int)
 | 0, _, _, _, _, _, _, _, _, _ => none
 | k + 1, x1, x5, x6, x7, x8, x9, x10, x1000, x1001 => if x10 < x7 then (if x8 > 0 then ((spec_l6Rd_pick.f k x1000 x1001 3).bind fun bt250 => (if bt250.1 > 0 then (if 0 ≤ (wrap64 (x8 - 1)) then (if (wrap64 (x8 - 1)) < (x5.length : Int) then (if 0 ≤ x10 then (if x10 < ((rdOf ByteArray.empty x5 (wrap64 (x8 - 1))).size : Int) then (if (bt (rdOf ByteArray.empty x5 (wrap64 (x8 - 1))) x10) = 63 then ((spec_l6Rd_of.f k x1000 bt250.2 (([(⟨#[97]⟩ : ByteArray), (⟨#[98]⟩ : ByteArray), (⟨#[99]⟩ : ByteArray), (⟨#[97]⟩ : ByteArray), (⟨#[100]⟩ : ByteArray)] : List ByteArray))).bind fun bt256 => (if x9.size + bt256.1.size ≤ 9223372036854775807 then (spec_l92Books.l1 k x1 x5 x6 x7 x8 (x9 ++ bt256.1) (wrap64 (x10 + 1)) x1000 bt256.2) else (none))) else (if x10 ≤ (wrap64 (x10 + 1)) then (if (wrap64 (x10 + 1)) ≤ ((rdOf ByteArray.empty x5 (wrap64 (x8 - 1))).size : Int) then (if x9.size + ((rdOf ByteArray.empty x5 (wrap64 (x8 - 1))).extract (x10 : Int).toNat ((wrap64 (x10 + 1)) : Int).toNat).size ≤ 9223372036854775807 then (spec_l92Books.l1 k x1 x5 x6 x7 x8 (x9 ++ ((rdOf ByteArray.empty x5 (wrap64 (x8 - 1))).extract (x10 : Int).toNat ((wrap64 (x10 + 1)) : Int).toNat)) (wrap64 (x10 + 1)) x1000 bt250.2) else (none)) else (none)) else (none))) else (none)) else (none)) else (none)) else (none)) else ((spec_l6Rd_of.f k x1000 bt250.2 (([(⟨#[97]⟩ : ByteArray), (⟨#[98]⟩ : ByteArray), (⟨#[99]⟩ : ByteArray), (⟨#[97]⟩ : ByteArray), (⟨#[100]⟩ : ByteArray)] : List ByteArray))).bind fun bt262 => (if x9.size + bt262.1.size ≤ 9223372036854775807 then (spec_l92Books.l1 k x1 x5 x6 x7 x8 (x9 ++ bt262.1) (wrap64 (x10 + 1)) x1000 bt262.2) else (none))))) else ((spec_l6Rd_of.f k x1000 x1001 (([(⟨#[97]⟩ : ByteArray), (⟨#[98]⟩ : ByteArray), (⟨#[99]⟩ : ByteArray), (⟨#[97]⟩ : ByteArray), (⟨#[100]⟩ : ByteArray)] : List ByteArray))).bind fun bt267 => (if x9.size + bt267.1.size ≤ 9223372036854775807 then (spec_l92Books.l1 k x1 x5 x6 x7 x8 (x9 ++ bt267.1) (wrap64 (x10 + 1)) x1000 bt267.2) else (none)))) else (if x1 = true then ((spec_l6Rd_pick.f k x1000 x1001 3).bind fun bt239 => (if bt239.1 = 0 then (if 0 ≤ x7 then (if x7 ≤ 4 then (if x5.length < 8796093022208 then (spec_l92Books.l0 k x1 (x5 ++ [(⟨#[63, 63, 63, 63]⟩ : ByteArray).extract 0 (x7 : Int).toNat]) x6 x7 (wrap64 (x8 + 1)) x1000 bt239.2) else (none)) else (none)) else (none)) else (if x5.length < 8796093022208 then (spec_l92Books.l0 k x1 (x5 ++ [x9]) x6 x7 (wrap64 (x8 + 1)) x1000 bt239.2) else (none)))) else (if x5.length < 8796093022208 then (spec_l92Books.l0 k x1 (x5 ++ [x9]) x6 x7 (wrap64 (x8 + 1)) x1000 x1001) else (none)))
end
def spec_l92Books.f (k : Nat) (s0_0 : List Int) (s0_1 : Int) (a1 : Bool) : Option (List ByteArray × Int) := (spec_l6Rd_pick.f k s0_0 s0_1 5).bind fun bt235 => ((spec_l6Rd_pick.f k s0_0 bt235.2 4).bind fun bt237 => (spec_l92Books.l0 k a1 (([] : List ByteArray)) (wrap64 (1 + bt235.1)) (wrap64 (1 + bt237.1)) 0 s0_0 bt237.2))
set_option maxHeartbeats 8000000 in
set_option maxRecDepth 100000 in
theorem spec_l92Books.calls (k : Nat) (g : Nat) (s0_0 : List Int) (s0_1 : Int) (a1 : Bool) (r1 : List ByteArray) (r2 : Int) (w0 w : World) (hI : IsS79 w0 w g s0_0 s0_1) (hB : Below w0.heap.size w0 w) (h : spec_l92Books.f k s0_0 s0_1 a1 = some (r1, r2)) :
  Calls Tryd.prog 66 #[.pointer (some ⟨g, 0, none⟩), .bool a1] w fun e w' => ∃ v0_ : Value, e = .returned (v0_) ∧ Kd.R Kd.string 9 w' w.heap.size (fun _ => True) v0_ r1 ∧ IsS79 w0 w' g s0_0 r2 ∧ Below w0.heap.size w0 w' ∧ KeepBut w w' g none := by
 have HI0 := Aside0.mk hI
 have HK := Aside0.mk (KeepBut.refl w g none)
 have HL := Aside0.mk hB.size
 clear hI
 have HW0 := Aside0.mk hB.size
 have HB := Aside0.mk hB
 clear hB
 have H : ((spec_l6Rd_pick.f k s0_0 s0_1 5).bind fun bt235 => ((spec_l6Rd_pick.f k s0_0 bt235.2 4).bind fun bt237 => (spec_l92Books.l0 k a1 (([] : List ByteArray)) (wrap64 (1 + bt235.1)) (wrap64 (1 + bt237.1)) 0 s0_0 bt237.2))) = some (r1, r2) := h
 clear h
 obtain ⟨y232, hy232⟩ : ∃ y_ : List ByteArray, y_ = (([] : List ByteArray)) := ⟨_, rfl⟩
 replace H : ((spec_l6Rd_pick.f k s0_0 s0_1 5).bind fun bt235 => ((spec_l6Rd_pick.f k s0_0 bt235.2 4).bind fun bt237 => (spec_l92Books.l0 k a1 y232 (wrap64 (1 + bt235.1)) (wrap64 (1 + bt237.1)) 0 s0_0 bt237.2))) = some (r1, r2) := by first | (rw [hy232]; with_reducible exact H) | (have H2_ := (Option.bind_some _ _).symm.trans H; rw [hy232]; with_reducible exact H2_) | (have H2_ := (Option.bind_some _ _).symm.trans H; with_reducible exact H2_) | with_reducible exact H | (rw [hy232]; exact H) | exact H
 have Ny232 := Aside0.mk hy232
 clear hy232
 replace H := Option.bind_eq_some_iff.mp H
 obtain ⟨⟨t235, t236⟩, A30, H⟩ := H
 replace H : ((spec_l6Rd_pick.f k s0_0 t236 4).bind fun bt237 => (spec_l92Books.l0 k a1 y232 (wrap64 (1 + t235)) (wrap64 (1 + bt237.1)) 0 s0_0 bt237.2)) = some (r1, r2) := H
 have A3 := Aside0.mk A30
 clear A30
 replace H := Option.bind_eq_some_iff.mp H
 obtain ⟨⟨t237, t238⟩, A40, H⟩ := H
 replace H : (spec_l92Books.l0 k a1 y232 (wrap64 (1 + t235)) (wrap64 (1 + t237)) 0 s0_0 t238) = some (r1, r2) := H
 have A4 := Aside0.mk A40
 clear A40
 have H' := Aside0.mk H
 clear H
 go_enter Tryd.func66, Tryd.ntmps66
 go_wp2_with (first | ((with_reducible refine gate_dst (N := 11) rfl ?_); refine Kd.R_lit Kd.string _ 9 ?hg (N := 11) ?hd (xs := ([] : List ByteArray)) (inner := []) (ok := fun _ => True) (okp := fun _ => True) ?hr ?hp (fun _ hk => hk) trivial (Below.refl _ _) (Nat.le_refl _) (by simp) ?_; (case hd => rfl); (case hg => rfl); (case hr => first | (go_simp; done) | (go_simp; rfl)); (case hp => exact (Reps.none _ _)); intro v233 w5 ho6 hb hg_ hnew_; clear hg_ hnew_; (first | rw [← Ny232.out] at ho6 | (simp only [Int.reduceToNat] at ho6; rw [← Ny232.out] at ho6)); have n0_ := Aside0.mk (Kd.R_lower ho6 (keep_size (w := w) (g := g) (row := none) (by repeat (first | (with_reducible first | exact HK.out | apply KeepBut.set_ | apply keep_drewN | apply keep_drew | apply keep_alloc) | exact HK.out)))); have n1_ := Aside0.mk (IsS79.below (by repeat (first | (with_reducible first | exact HI0.out | apply IsS79.alloc | apply IsS79.drewN | apply IsS79.drew | apply IsS79.set_1) | exact HI0.out)) hb); have n2_ := Aside0.mk (KeepBut.trans (by repeat (first | (with_reducible first | exact HK.out | apply KeepBut.set_ | apply keep_drewN | apply keep_drew | apply keep_alloc) | exact HK.out)) (KeepBut.of_below hb g none) (.inl rfl)); have n3_ := Aside0.mk (below_step (by repeat (first | (with_reducible first | exact HB.out | apply below_alloc | apply pw_below_drewN | apply below_drew1 | refine below_set ?_ (IsS79.ge HI0.out)) | exact HB.out)) hb); clear HI0; clear HK; clear HB; have HO234 := n0_; have HI0 := n1_; have HK := n2_; have HB := n3_; clear n0_ n1_ n2_ n3_; clear hb ho6) | ((with_reducible refine gate_callee (f := 81) rfl ?_); refine goesL_ (some 13) rfl rfl Tryd.func81 (by kernel_rfl) rfl #[.pointer (some ⟨g, 0, none⟩), .int .i64 5] rfl (by (try simp only [List.map_toArray, List.map_cons, List.map_nil]); first | done | rfl | (simp only [List.length_drop, List.length_take]; rfl)) ?_; (with_reducible refine (spec_l6Rd_pick.calls k g s0_0 s0_1 5 t235 t236 w0 _ ?side1 ?side2 A3.out).mono ?_); (case side1 => repeat (first | (with_reducible first | exact HI0.out | apply IsS79.alloc | apply IsS79.drewN | apply IsS79.drew | apply IsS79.set_1) | exact HI0.out)); (case side2 => repeat (first | (with_reducible first | exact HB.out | apply below_alloc | apply pw_below_drewN | apply below_drew1 | refine below_set ?_ (IsS79.ge HI0.out)) | exact HB.out)); rintro e w7 ⟨rfl, hi, hb, hk⟩; refine ⟨_, rfl, ?_⟩; have n0_ := Aside0.mk (Kd.R_mono (Kd.R_keep (IsS79.apart (show IsS79 w0 _ g s0_0 s0_1 from by repeat (first | (with_reducible first | exact HI0.out | apply IsS79.alloc | apply IsS79.drewN | apply IsS79.drew | apply IsS79.set_1) | exact HI0.out)) (by (with_reducible repeat (first | apply Kd.R_alloc | apply Kd.R_drewN | apply Kd.R_drew)); exact HO234.out) (by decide)) hk (fun _ h => h.2)) (fun _ h => h.1)); have n1_ := Aside0.mk (KeepBut.trans (by repeat (first | (with_reducible first | exact HK.out | apply KeepBut.set_ | apply keep_drewN | apply keep_drew | apply keep_alloc) | exact HK.out)) hk (.inl rfl)); have n2_ := Aside0.mk (hb); have n3_ := Aside0.mk (hi); clear HO234; clear HK; clear HB; clear HI0; have HO234 := n0_; have HK := n1_; have HB := n2_; have HI0 := n3_; clear n0_ n1_ n2_ n3_; (try clear hb); (try clear hb2); (try clear hk); (try clear hi)) | ((with_reducible refine gate_callee (f := 81) rfl ?_); refine goesL_ (some 16) rfl rfl Tryd.func81 (by kernel_rfl) rfl #[.pointer (some ⟨g, 0, none⟩), .int .i64 4] rfl (by (try simp only [List.map_toArray, List.map_cons, List.map_nil]); first | done | rfl | (simp only [List.length_drop, List.length_take]; rfl)) ?_; (with_reducible refine (spec_l6Rd_pick.calls k g s0_0 t236 4 t237 t238 w0 _ ?side1 ?side2 A4.out).mono ?_); (case side1 => repeat (first | (with_reducible first | exact HI0.out | apply IsS79.alloc | apply IsS79.drewN | apply IsS79.drew | apply IsS79.set_1) | exact HI0.out)); (case side2 => repeat (first | (with_reducible first | exact HB.out | apply below_alloc | apply pw_below_drewN | apply below_drew1 | refine below_set ?_ (IsS79.ge HI0.out)) | exact HB.out)); rintro e w8 ⟨rfl, hi, hb, hk⟩; refine ⟨_, rfl, ?_⟩; have n0_ := Aside0.mk (Kd.R_mono (Kd.R_keep (IsS79.apart (show IsS79 w0 _ g s0_0 t236 from by repeat (first | (with_reducible first | exact HI0.out | apply IsS79.alloc | apply IsS79.drewN | apply IsS79.drew | apply IsS79.set_1) | exact HI0.out)) (by (with_reducible repeat (first | apply Kd.R_alloc | apply Kd.R_drewN | apply Kd.R_drew)); exact HO234.out) (by decide)) hk (fun _ h => h.2)) (fun _ h => h.1)); have n1_ := Aside0.mk (KeepBut.trans (by repeat (first | (with_reducible first | exact HK.out | apply KeepBut.set_ | apply keep_drewN | apply keep_drew | apply keep_alloc) | exact HK.out)) hk (.inl rfl)); have n2_ := Aside0.mk (hb); have n3_ := Aside0.mk (hi); clear HO234; clear HK; clear HB; clear HI0; have HO234 := n0_; have HK := n1_; have HB := n2_; have HI0 := n3_; clear n0_ n1_ n2_ n3_; (try clear hb); (try clear hb2); (try clear hk); (try clear hi)))
 go_loopg [5, 8] k (fun kq v5 v8 w' => ∃ (x5_1 : List ByteArray) (x8_1 : Int) (x1001_1 : Int), v8 = .int .i64 x8_1 ∧ Aside0 (spec_l92Books.l0 kq a1 x5_1 (wrap64 (1 + t235)) (wrap64 (1 + t237)) x8_1 s0_0 x1001_1 = some (r1, r2)) ∧ Aside0 (kq ≤ k) ∧ Aside0 (Kd.R Kd.string 9 w' w.heap.size (fun _ => True) v5 x5_1) ∧ Aside0 (IsS79 w0 w' g s0_0 x1001_1) ∧ Aside0 (KeepBut w w' g none) ∧ Aside0 (Below w0.heap.size w0 w'))
 case atStart => exact ⟨(y232), (0), (t238), (by first | rfl | (simp; done) | (simp [*]; done)), H', ⟨Nat.le_refl _⟩, ⟨by (with_reducible repeat (first | apply Kd.R_alloc | apply Kd.R_drewN | apply Kd.R_drew)); exact HO234.out⟩, ⟨by repeat (first | (with_reducible first | exact HI0.out | apply IsS79.alloc | apply IsS79.drewN | apply IsS79.drew | apply IsS79.set_1) | exact HI0.out)⟩, ⟨by repeat (first | (with_reducible first | exact HK.out | apply KeepBut.set_ | apply keep_drewN | apply keep_drew | apply keep_alloc) | exact HK.out)⟩, ⟨by repeat (first | (with_reducible first | exact HB.out | apply below_alloc | apply pw_below_drewN | apply below_drew1 | refine below_set ?_ (IsS79.ge HI0.out)) | exact HB.out)⟩⟩
 case round =>
  clear H'
  try clear p2
  try clear c6
  try clear p6
  try clear c8
  obtain ⟨x5_1, x8_1, x1001_1, rfl, HA, HK1, HO_5, HI0, HK, HB⟩ := hrel
  cases gk with
  | zero => exact absurd HA.out (by simp [spec_l92Books.l0])
  | succ k1 =>
   have H := HA.out
   clear HA
   simp only [spec_l92Books.l0] at H
   by_cases c9 : x8_1 < (wrap64 (1 + t235))
   rotate_left
   ·rw [if_neg c9] at H
    have c9b0 : decide (x8_1 < (wrap64 (1 + t235))) = false := decide_eq_false c9
    clear c9
    replace H := Option.bind_eq_some_iff.mp H
    obtain ⟨⟨t269, t270⟩, A620, H⟩ := H
    replace H : (if t269 = 0 then (if 0 < (x5_1.length : Int) then (if (rdOf ByteArray.empty x5_1 0).size + 1 ≤ 9223372036854775807 then (some ((x5_1.set (0 : Int).toNat ((rdOf ByteArray.empty x5_1 0) ++ (⟨#[97]⟩ : ByteArray))), t270)) else (none)) else (none)) else (if t269 = 1 then (if 0 ≤ (wrap64 ((wrap64 (1 + t235)) - 1)) then (if (wrap64 ((wrap64 (1 + t235)) - 1)) < (x5_1.length : Int) then (if 1 ≤ ((rdOf ByteArray.empty x5_1 (wrap64 ((wrap64 (1 + t235)) - 1))).size : Int) then (if 1 + ((rdOf ByteArray.empty x5_1 (wrap64 ((wrap64 (1 + t235)) - 1))).extract 1 (rdOf ByteArray.empty x5_1 (wrap64 ((wrap64 (1 + t235)) - 1))).size).size ≤ 9223372036854775807 then (some ((x5_1.set ((wrap64 ((wrap64 (1 + t235)) - 1)) : Int).toNat ((⟨#[101]⟩ : ByteArray) ++ ((rdOf ByteArray.empty x5_1 (wrap64 ((wrap64 (1 + t235)) - 1))).extract 1 (rdOf ByteArray.empty x5_1 (wrap64 ((wrap64 (1 + t235)) - 1))).size))), t270)) else (none)) else (none)) else (none)) else (none)) else (if t269 = 2 then (some ((([] : List ByteArray)), t270)) else (some (x5_1, t270))))) = some (r1, r2) := H
    have A62 := Aside0.mk A620
    clear A620
    by_cases c63 : t269 = 0
    ·rw [if_pos c63] at H
     have c63b0 : (t269 == 0) = true := beq_iff_eq.mpr c63
     have c63b1 : (t269 != 0) = false := bne_eq_false_iff_eq.mpr c63
     clear c63
     by_cases c64 : 0 < (x5_1.length : Int)
     rotate_left
     ·rw [if_neg c64] at H
      exact absurd H (by simp)
     rw [if_pos c64] at H
     have c64b0 : decide (0 < (x5_1.length : Int)) = true := decide_eq_true c64
     have c64b1 : decide (0 < x5_1.length) = true := decide_eq_true (by omega)
     clear c64
     by_cases c65 : (rdOf ByteArray.empty x5_1 0).size + 1 ≤ 9223372036854775807
     rotate_left
     ·rw [if_neg c65] at H
      exact absurd H (by simp)
     rw [if_pos c65] at H
     have c65b0 := eq_true c65
     have c65b1 : decide ((rdOf ByteArray.empty x5_1 0).size + 1 ≤ 9223372036854775807) = true := decide_eq_true c65
     try have c65b2 : (9223372036854775807 < (rdOf ByteArray.empty x5_1 0).size + 1) = False := eq_false (Nat.not_lt.2 c65)
     obtain ⟨y272, hy272⟩ : ∃ y_ : List ByteArray, y_ = (x5_1.set (0 : Int).toNat ((rdOf ByteArray.empty x5_1 0) ++ (⟨#[97]⟩ : ByteArray))) := ⟨_, rfl⟩
     replace H : (some (y272, t270)) = some (r1, r2) := by first | (rw [hy272]; with_reducible exact H) | (have H2_ := (Option.bind_some _ _).symm.trans H; rw [hy272]; with_reducible exact H2_) | (have H2_ := (Option.bind_some _ _).symm.trans H; with_reducible exact H2_) | with_reducible exact H | (rw [hy272]; exact H) | exact H
     have Ny272 := Aside0.mk hy272
     clear hy272
     simp only [Option.some.injEq, Prod.mk.injEq] at H
     obtain ⟨rfl, rfl⟩ := H
     go_wp2_with (first | ((with_reducible refine gate_callee (f := 81) rfl ?_); refine goesL_ (some 74) rfl rfl Tryd.func81 (by kernel_rfl) rfl #[.pointer (some ⟨g, 0, none⟩), .int .i64 40] rfl (by (try simp only [List.map_toArray, List.map_cons, List.map_nil]); first | done | rfl | (simp only [List.length_drop, List.length_take]; rfl)) ?_; (with_reducible refine (spec_l6Rd_pick.calls k1 g s0_0 x1001_1 40 t269 t270 w0 _ ?side1 ?side2 A62.out).mono ?_); (case side1 => repeat (first | (with_reducible first | exact HI0.out | apply IsS79.alloc | apply IsS79.drewN | apply IsS79.drew | apply IsS79.set_1) | exact HI0.out)); (case side2 => repeat (first | (with_reducible first | exact HB.out | apply below_alloc | apply pw_below_drewN | apply below_drew1 | refine below_set ?_ (IsS79.ge HI0.out)) | exact HB.out)); rintro e w67 ⟨rfl, hi, hb, hk⟩; refine ⟨_, rfl, ?_⟩; have n0_ := Aside0.mk (Kd.R_mono (Kd.R_keep (IsS79.apart (show IsS79 w0 _ g s0_0 x1001_1 from by repeat (first | (with_reducible first | exact HI0.out | apply IsS79.alloc | apply IsS79.drewN | apply IsS79.drew | apply IsS79.set_1) | exact HI0.out)) (by (with_reducible repeat (first | apply Kd.R_alloc | apply Kd.R_drewN | apply Kd.R_drew)); exact HO_5.out) (by decide)) hk (fun _ h => h.2)) (fun _ h => h.1)); have n1_ := Aside0.mk (KeepBut.trans (by repeat (first | (with_reducible first | exact HK.out | apply KeepBut.set_ | apply keep_drewN | apply keep_drew | apply keep_alloc) | exact HK.out)) hk (.inl rfl)); have n2_ := Aside0.mk (hb); have n3_ := Aside0.mk (hi); clear HO_5; clear HK; clear HB; clear HI0; have HO_5 := n0_; have HK := n1_; have HB := n2_; have HI0 := n3_; clear n0_ n1_ n2_ n3_; (try clear hb); (try clear hb2); (try clear hk); (try clear hi); obtain ⟨Ao68, co68, eo68⟩ := Kd.R_slice HO_5.out; subst eo68; have p271 : 0 ≤ (0 : Int) := (by omega); have q271 : 0 < (x5_1.length : Int) := of_decide_eq_true (by first | (with_reducible assumption) | assumption); obtain ⟨ad271, e271, hx271_0⟩ := Kd.at_string (Kd.R_reads' HO_5.out).2.2 0 p271 q271; cases e271; have qi271 : (0 < x5_1.length) = True := eq_true (by omega); (try rw [show ((0 : Int)).toNat = 0 from rfl] at hx271_0); (try rw [Addr.add_zero'] at hx271_0); replace p271 := eq_true p271; replace q271 := eq_true q271; have p66 : 0 ≤ (0 : Int) := (by omega); have q66 : (0 : Int) < ((x5_1.length : Int) : Int) := of_decide_eq_true (by first | (with_reducible assumption) | assumption); have qi66 : (0 < x5_1.length) = True := eq_true (by omega); obtain ⟨go66, co66, eo66, gb66, gl66, cl66, HG66⟩ := Kd.R_form HO_5.out (by omega); (first | cases eo66 | (injection eo66 with ea_ en_ ec_; (first | subst ea_ | (injection ea_ with ea_; subst ea_)); subst ec_; clear en_)); have GB66 := Aside0.mk gb66; have GG66 := Aside0.mk HG66; clear gb66 gl66 HG66; (first | simp only [add_plain] at hx271_0 | skip); obtain ⟨hx66_0, hf66_0⟩ := Kd.R_celln (⟨#[]⟩ : ByteArray) HO_5.out (0 : Int) p66 q66; (try rw [show ((0 : Int)).toNat = 0 from rfl] at hx66_0); (try simp only [Nat.reduceMul, Nat.zero_mul, Nat.zero_add, Nat.reduceAdd] at hx66_0); (try rw [show ((0 : Int)).toNat = 0 from rfl] at hf66_0); (try simp only [Nat.reduceMul, Nat.zero_mul, Nat.zero_add, Nat.reduceAdd] at hf66_0); replace p66 := eq_true p66; replace q66 := eq_true q66; obtain ⟨hy69_, hz69_⟩ := Kd.R_celln (⟨#[]⟩ : ByteArray) HO_5.out (0 : Int) (by omega) (of_decide_eq_true (by first | (with_reducible assumption) | assumption)); (try simp only [Int.reduceToNat, Int.toNat_zero, Int.toNat_ofNat, Nat.reduceMul, Nat.zero_mul, Nat.zero_add] at hy69_ hz69_); (try rw [show ((0 : Int)).toNat = 0 from rfl] at hy69_); (try rw [show ((0 : Int)).toNat = 0 from rfl] at hz69_); have HP69 := Kd.R_putg HO_5.out (0 : Int) ((rdOf ByteArray.empty x5_1 0) ++ (⟨#[97]⟩ : ByteArray))) | ((with_reducible refine gate_store (t := 9) (p := 82) rfl ?_); refine store_event (t := 9) (p := 82) (v := ?vo_w70) (w1 := (w67.setCell ⟨go66, (0 : Int).toNat, none⟩ (.string ((rdOf ByteArray.empty x5_1 0) ++ (⟨#[97]⟩ : ByteArray))))) ?hg ?ho ?hn ?hr ?_; (case ho => rfl); (case hg => rfl); (case hn => rfl); (case hr => first | (go_simp; done) | (go_simp; rfl)); intro w70 hw; have hg : w67.grownBy w70 (some go66) := (by rw [hw]; exact HP69.2); have hp_ : Kd.R Kd.string 9 w70 w.heap.size (fun _ => True) (.slice (some ⟨go66, 0, none⟩) x5_1.length co68) y272 := (by rw [hw, Ny272.out]; exact HP69.1); clear HP69; have n0_ := Aside0.mk (hp_); have n1_ := Aside0.mk (IsS79.grown (by repeat (first | (with_reducible first | exact HI0.out | apply IsS79.alloc | apply IsS79.drewN | apply IsS79.drew | apply IsS79.set_1) | exact HI0.out)) hg (IsS79.own_ne HI0.out HO_5.out (by decide))); have n2_ := Aside0.mk ((by rw [hw]; exact below_set (HB.out) (Nat.le_trans HL.out GB66.out) : Below w0.heap.size w0 w70)); have n3_ := Aside0.mk (KeepBut.trans (by repeat (first | (with_reducible first | exact HK.out | apply KeepBut.set_ | apply keep_drewN | apply keep_drew | apply keep_alloc) | exact HK.out)) (KeepBut.of_grown hg g) (Kd.R_base2 HO_5.out)); clear HO_5; clear HI0; clear HB; clear HK; have HO_5 := n0_; have HI0 := n1_; have HB := n2_; have HK := n3_; clear n0_ n1_ n2_ n3_; clear hg hw hp_))
     go_ret
     exact ⟨_, by first | rfl | (simp [errW_none, errW_some] <;> rfl) | (simp [*, errW_none, errW_some] <;> rfl), by (with_reducible repeat (first | apply Kd.R_alloc | apply Kd.R_drewN | apply Kd.R_drew)); exact HO_5.out, by repeat (first | (with_reducible first | exact HI0.out | apply IsS79.alloc | apply IsS79.drewN | apply IsS79.drew | apply IsS79.set_1) | exact HI0.out), by repeat (first | (with_reducible first | exact HB.out | apply below_alloc | apply pw_below_drewN | apply below_drew1 | refine below_set ?_ (IsS79.ge HI0.out)) | exact HB.out), by repeat (first | (with_reducible first | exact HK.out | apply KeepBut.set_ | apply keep_drewN | apply keep_drew | apply keep_alloc) | exact HK.out)⟩
    rw [if_neg c63] at H
    have c63b0 : (t269 == 0) = false := beq_eq_false_iff_ne.mpr c63
    have c63b1 : (t269 != 0) = true := bne_iff_ne.mpr c63
    by_cases c71 : t269 = 1
    rotate_left
    ·rw [if_neg c71] at H
     have c71b0 : (t269 == 1) = false := beq_eq_false_iff_ne.mpr c71
     have c71b1 : (t269 != 1) = true := bne_iff_ne.mpr c71
     by_cases c82 : t269 = 2
     rotate_left
     ·rw [if_neg c82] at H
      have c82b0 : (t269 == 2) = false := beq_eq_false_iff_ne.mpr c82
      have c82b1 : (t269 != 2) = true := bne_iff_ne.mpr c82
      simp only [Option.some.injEq, Prod.mk.injEq] at H
      obtain ⟨rfl, rfl⟩ := H
      go_wp2_with (first | ((with_reducible refine gate_callee (f := 81) rfl ?_); refine goesL_ (some 74) rfl rfl Tryd.func81 (by kernel_rfl) rfl #[.pointer (some ⟨g, 0, none⟩), .int .i64 40] rfl (by (try simp only [List.map_toArray, List.map_cons, List.map_nil]); first | done | rfl | (simp only [List.length_drop, List.length_take]; rfl)) ?_; (with_reducible refine (spec_l6Rd_pick.calls k1 g s0_0 x1001_1 40 t269 t270 w0 _ ?side1 ?side2 A62.out).mono ?_); (case side1 => repeat (first | (with_reducible first | exact HI0.out | apply IsS79.alloc | apply IsS79.drewN | apply IsS79.drew | apply IsS79.set_1) | exact HI0.out)); (case side2 => repeat (first | (with_reducible first | exact HB.out | apply below_alloc | apply pw_below_drewN | apply below_drew1 | refine below_set ?_ (IsS79.ge HI0.out)) | exact HB.out)); rintro e w86 ⟨rfl, hi, hb, hk⟩; refine ⟨_, rfl, ?_⟩; have n0_ := Aside0.mk (Kd.R_mono (Kd.R_keep (IsS79.apart (show IsS79 w0 _ g s0_0 x1001_1 from by repeat (first | (with_reducible first | exact HI0.out | apply IsS79.alloc | apply IsS79.drewN | apply IsS79.drew | apply IsS79.set_1) | exact HI0.out)) (by (with_reducible repeat (first | apply Kd.R_alloc | apply Kd.R_drewN | apply Kd.R_drew)); exact HO_5.out) (by decide)) hk (fun _ h => h.2)) (fun _ h => h.1)); have n1_ := Aside0.mk (KeepBut.trans (by repeat (first | (with_reducible first | exact HK.out | apply KeepBut.set_ | apply keep_drewN | apply keep_drew | apply keep_alloc) | exact HK.out)) hk (.inl rfl)); have n2_ := Aside0.mk (hb); have n3_ := Aside0.mk (hi); clear HO_5; clear HK; clear HB; clear HI0; have HO_5 := n0_; have HK := n1_; have HB := n2_; have HI0 := n3_; clear n0_ n1_ n2_ n3_; (try clear hb); (try clear hb2); (try clear hk); (try clear hi)))
      go_ret
      exact ⟨_, by first | rfl | (simp [errW_none, errW_some] <;> rfl) | (simp [*, errW_none, errW_some] <;> rfl), by (with_reducible repeat (first | apply Kd.R_alloc | apply Kd.R_drewN | apply Kd.R_drew)); exact HO_5.out, by repeat (first | (with_reducible first | exact HI0.out | apply IsS79.alloc | apply IsS79.drewN | apply IsS79.drew | apply IsS79.set_1) | exact HI0.out), by repeat (first | (with_reducible first | exact HB.out | apply below_alloc | apply pw_below_drewN | apply below_drew1 | refine below_set ?_ (IsS79.ge HI0.out)) | exact HB.out), by repeat (first | (with_reducible first | exact HK.out | apply KeepBut.set_ | apply keep_drewN | apply keep_drew | apply keep_alloc) | exact HK.out)⟩
     rw [if_pos c82] at H
     have c82b0 : (t269 == 2) = true := beq_iff_eq.mpr c82
     have c82b1 : (t269 != 2) = false := bne_eq_false_iff_eq.mpr c82
     clear c82
     obtain ⟨y275, hy275⟩ : ∃ y_ : List ByteArray, y_ = (([] : List ByteArray)) := ⟨_, rfl⟩
     replace H : (some (y275, t270)) = some (r1, r2) := by first | (rw [hy275]; with_reducible exact H) | (have H2_ := (Option.bind_some _ _).symm.trans H; rw [hy275]; with_reducible exact H2_) | (have H2_ := (Option.bind_some _ _).symm.trans H; with_reducible exact H2_) | with_reducible exact H | (rw [hy275]; exact H) | exact H
     have Ny275 := Aside0.mk hy275
     clear hy275
     simp only [Option.some.injEq, Prod.mk.injEq] at H
     obtain ⟨rfl, rfl⟩ := H
     go_wp2_with (first | ((with_reducible refine gate_callee (f := 81) rfl ?_); refine goesL_ (some 74) rfl rfl Tryd.func81 (by kernel_rfl) rfl #[.pointer (some ⟨g, 0, none⟩), .int .i64 40] rfl (by (try simp only [List.map_toArray, List.map_cons, List.map_nil]); first | done | rfl | (simp only [List.length_drop, List.length_take]; rfl)) ?_; (with_reducible refine (spec_l6Rd_pick.calls k1 g s0_0 x1001_1 40 t269 t270 w0 _ ?side1 ?side2 A62.out).mono ?_); (case side1 => repeat (first | (with_reducible first | exact HI0.out | apply IsS79.alloc | apply IsS79.drewN | apply IsS79.drew | apply IsS79.set_1) | exact HI0.out)); (case side2 => repeat (first | (with_reducible first | exact HB.out | apply below_alloc | apply pw_below_drewN | apply below_drew1 | refine below_set ?_ (IsS79.ge HI0.out)) | exact HB.out)); rintro e w83 ⟨rfl, hi, hb, hk⟩; refine ⟨_, rfl, ?_⟩; have n0_ := Aside0.mk (Kd.R_mono (Kd.R_keep (IsS79.apart (show IsS79 w0 _ g s0_0 x1001_1 from by repeat (first | (with_reducible first | exact HI0.out | apply IsS79.alloc | apply IsS79.drewN | apply IsS79.drew | apply IsS79.set_1) | exact HI0.out)) (by (with_reducible repeat (first | apply Kd.R_alloc | apply Kd.R_drewN | apply Kd.R_drew)); exact HO_5.out) (by decide)) hk (fun _ h => h.2)) (fun _ h => h.1)); have n1_ := Aside0.mk (KeepBut.trans (by repeat (first | (with_reducible first | exact HK.out | apply KeepBut.set_ | apply keep_drewN | apply keep_drew | apply keep_alloc) | exact HK.out)) hk (.inl rfl)); have n2_ := Aside0.mk (hb); have n3_ := Aside0.mk (hi); clear HO_5; clear HK; clear HB; clear HI0; have HO_5 := n0_; have HK := n1_; have HB := n2_; have HI0 := n3_; clear n0_ n1_ n2_ n3_; (try clear hb); (try clear hb2); (try clear hk); (try clear hi)) | ((with_reducible refine gate_dst (N := 98) rfl ?_); refine Kd.R_lit Kd.string _ 9 ?hg (N := 98) ?hd (xs := ([] : List ByteArray)) (inner := []) (ok := fun _ => True) (okp := fun _ => True) ?hr ?hp (fun _ hk => hk) trivial (Below.refl _ _) (Nat.le_refl _) (by simp) ?_; (case hd => rfl); (case hg => rfl); (case hr => first | (go_simp; done) | (go_simp; rfl)); (case hp => exact (Reps.none _ _)); intro v276 w84 ho85 hb hg_ hnew_; clear hg_ hnew_; (first | rw [← Ny275.out] at ho85 | (simp only [Int.reduceToNat] at ho85; rw [← Ny275.out] at ho85)); have n0_ := Aside0.mk (Kd.R_elder' (by (with_reducible repeat (first | apply Kd.R_alloc | apply Kd.R_drewN | apply Kd.R_drew)); exact HO_5.out) (Kd.R_base ho85) hb); have n1_ := Aside0.mk (Kd.R_lower (Kd.R_new' ho85 (Kd.R_lt (by (with_reducible repeat (first | apply Kd.R_alloc | apply Kd.R_drewN | apply Kd.R_drew)); exact HO_5.out))) (keep_size (w := w) (g := g) (row := none) (by repeat (first | (with_reducible first | exact HK.out | apply KeepBut.set_ | apply keep_drewN | apply keep_drew | apply keep_alloc) | exact HK.out)))); have n2_ := Aside0.mk (IsS79.below (by repeat (first | (with_reducible first | exact HI0.out | apply IsS79.alloc | apply IsS79.drewN | apply IsS79.drew | apply IsS79.set_1) | exact HI0.out)) hb); have n3_ := Aside0.mk (KeepBut.trans (by repeat (first | (with_reducible first | exact HK.out | apply KeepBut.set_ | apply keep_drewN | apply keep_drew | apply keep_alloc) | exact HK.out)) (KeepBut.of_below hb g none) (.inl rfl)); have n4_ := Aside0.mk (below_step (by repeat (first | (with_reducible first | exact HB.out | apply below_alloc | apply pw_below_drewN | apply below_drew1 | refine below_set ?_ (IsS79.ge HI0.out)) | exact HB.out)) hb); clear HO_5; clear HI0; clear HK; clear HB; have HO_5 := n0_; have HO277 := n1_; have HI0 := n2_; have HK := n3_; have HB := n4_; clear n0_ n1_ n2_ n3_ n4_; clear hb ho85))
     go_ret
     exact ⟨_, by first | rfl | (simp [errW_none, errW_some] <;> rfl) | (simp [*, errW_none, errW_some] <;> rfl), by (with_reducible repeat (first | apply Kd.R_alloc | apply Kd.R_drewN | apply Kd.R_drew)); exact Kd.R_mono HO277.out (fun _ hk => trivial), by repeat (first | (with_reducible first | exact HI0.out | apply IsS79.alloc | apply IsS79.drewN | apply IsS79.drew | apply IsS79.set_1) | exact HI0.out), by repeat (first | (with_reducible first | exact HB.out | apply below_alloc | apply pw_below_drewN | apply below_drew1 | refine below_set ?_ (IsS79.ge HI0.out)) | exact HB.out), by repeat (first | (with_reducible first | exact HK.out | apply KeepBut.set_ | apply keep_drewN | apply keep_drew | apply keep_alloc) | exact HK.out)⟩
    rw [if_pos c71] at H
    have c71b0 : (t269 == 1) = true := beq_iff_eq.mpr c71
    have c71b1 : (t269 != 1) = false := bne_eq_false_iff_eq.mpr c71
    clear c71
    obtain ⟨ji72, hji72⟩ : ∃ j_ : Int, (wrap64 ((wrap64 (1 + t235)) - 1)) = j_ := ⟨_, rfl⟩
    replace H : (if 0 ≤ (ji72) then (if (ji72) < (x5_1.length : Int) then (if 1 ≤ ((rdOf ByteArray.empty x5_1 (ji72)).size : Int) then (if 1 + ((rdOf ByteArray.empty x5_1 (ji72)).extract 1 (rdOf ByteArray.empty x5_1 (ji72)).size).size ≤ 9223372036854775807 then (some ((x5_1.set ((ji72) : Int).toNat ((⟨#[101]⟩ : ByteArray) ++ ((rdOf ByteArray.empty x5_1 (ji72)).extract 1 (rdOf ByteArray.empty x5_1 (ji72)).size))), t270)) else (none)) else (none)) else (none)) else (none)) = some (r1, r2) := by first | (rw [hji72] at H; exact H) | (simp only [hji72] at H ⊢; exact H)
    (try rw [hji72] at A62)
    have hji72w : (IntKind.i64.wrap ((wrap64 (1 + t235)) - 1)) = ji72 := (i64_w _).trans hji72
    by_cases c73 : 0 ≤ (ji72)
    rotate_left
    ·rw [if_neg c73] at H
     exact absurd H (by simp)
    rw [if_pos c73] at H
    have c73b0 : decide (0 ≤ (ji72)) = true := decide_eq_true c73
    clear c73
    by_cases c74 : (ji72) < (x5_1.length : Int)
    rotate_left
    ·rw [if_neg c74] at H
     exact absurd H (by simp)
    rw [if_pos c74] at H
    have c74b0 : decide ((ji72) < (x5_1.length : Int)) = true := decide_eq_true c74
    clear c74
    by_cases c75 : 1 ≤ ((rdOf ByteArray.empty x5_1 (ji72)).size : Int)
    rotate_left
    ·rw [if_neg c75] at H
     exact absurd H (by simp)
    rw [if_pos c75] at H
    have c75b0 := eq_true c75
    have c75b1 : decide (1 ≤ ((rdOf ByteArray.empty x5_1 (ji72)).size : Int)) = true := decide_eq_true c75
    clear c75
    by_cases c76 : 1 + ((rdOf ByteArray.empty x5_1 (ji72)).extract 1 (rdOf ByteArray.empty x5_1 (ji72)).size).size ≤ 9223372036854775807
    rotate_left
    ·rw [if_neg c76] at H
     exact absurd H (by simp)
    rw [if_pos c76] at H
    have c76b0 := eq_true c76
    have c76b1 : decide (1 + ((rdOf ByteArray.empty x5_1 (ji72)).extract 1 (rdOf ByteArray.empty x5_1 (ji72)).size).size ≤ 9223372036854775807) = true := decide_eq_true c76
    try have c76b2 : (9223372036854775807 < 1 + ((rdOf ByteArray.empty x5_1 (ji72)).extract 1 (rdOf ByteArray.empty x5_1 (ji72)).size).size) = False := eq_false (Nat.not_lt.2 c76)
    try have c76b2c := c76b2
    (try simp only [ByteArray.size_extract, Nat.min_self] at c76b2c)
    obtain ⟨y274, hy274⟩ : ∃ y_ : List ByteArray, y_ = (x5_1.set ((ji72) : Int).toNat ((⟨#[101]⟩ : ByteArray) ++ ((rdOf ByteArray.empty x5_1 (ji72)).extract 1 (rdOf ByteArray.empty x5_1 (ji72)).size))) := ⟨_, rfl⟩
    replace H : (some (y274, t270)) = some (r1, r2) := by first | (rw [hy274]; with_reducible exact H) | (have H2_ := (Option.bind_some _ _).symm.trans H; rw [hy274]; with_reducible exact H2_) | (have H2_ := (Option.bind_some _ _).symm.trans H; with_reducible exact H2_) | with_reducible exact H | (rw [hy274]; exact H) | exact H
    have Ny274 := Aside0.mk hy274
    clear hy274
    simp only [Option.some.injEq, Prod.mk.injEq] at H
    obtain ⟨rfl, rfl⟩ := H
    go_wp2_with (first | ((with_reducible refine gate_callee (f := 81) rfl ?_); refine goesL_ (some 74) rfl rfl Tryd.func81 (by kernel_rfl) rfl #[.pointer (some ⟨g, 0, none⟩), .int .i64 40] rfl (by (try simp only [List.map_toArray, List.map_cons, List.map_nil]); first | done | rfl | (simp only [List.length_drop, List.length_take]; rfl)) ?_; (with_reducible refine (spec_l6Rd_pick.calls k1 g s0_0 x1001_1 40 t269 t270 w0 _ ?side1 ?side2 A62.out).mono ?_); (case side1 => repeat (first | (with_reducible first | exact HI0.out | apply IsS79.alloc | apply IsS79.drewN | apply IsS79.drew | apply IsS79.set_1) | exact HI0.out)); (case side2 => repeat (first | (with_reducible first | exact HB.out | apply below_alloc | apply pw_below_drewN | apply below_drew1 | refine below_set ?_ (IsS79.ge HI0.out)) | exact HB.out)); rintro e w78 ⟨rfl, hi, hb, hk⟩; refine ⟨_, rfl, ?_⟩; have n0_ := Aside0.mk (Kd.R_mono (Kd.R_keep (IsS79.apart (show IsS79 w0 _ g s0_0 x1001_1 from by repeat (first | (with_reducible first | exact HI0.out | apply IsS79.alloc | apply IsS79.drewN | apply IsS79.drew | apply IsS79.set_1) | exact HI0.out)) (by (with_reducible repeat (first | apply Kd.R_alloc | apply Kd.R_drewN | apply Kd.R_drew)); exact HO_5.out) (by decide)) hk (fun _ h => h.2)) (fun _ h => h.1)); have n1_ := Aside0.mk (KeepBut.trans (by repeat (first | (with_reducible first | exact HK.out | apply KeepBut.set_ | apply keep_drewN | apply keep_drew | apply keep_alloc) | exact HK.out)) hk (.inl rfl)); have n2_ := Aside0.mk (hb); have n3_ := Aside0.mk (hi); clear HO_5; clear HK; clear HB; clear HI0; have HO_5 := n0_; have HK := n1_; have HB := n2_; have HI0 := n3_; clear n0_ n1_ n2_ n3_; (try clear hb); (try clear hb2); (try clear hk); (try clear hi); obtain ⟨Ao79, co79, eo79⟩ := Kd.R_slice HO_5.out; subst eo79; have p273 : 0 ≤ ((ji72) : Int) := of_decide_eq_true (by first | (with_reducible assumption) | assumption); have q273 : (ji72) < (x5_1.length : Int) := of_decide_eq_true (by first | (with_reducible assumption) | assumption); obtain ⟨ad273, e273, hx273_0⟩ := Kd.at_string (Kd.R_reads' HO_5.out).2.2 (ji72) p273 q273; cases e273; replace p273 := eq_true p273; replace q273 := eq_true q273; have p77 : 0 ≤ ((ji72) : Int) := of_decide_eq_true (by first | (with_reducible assumption) | assumption); have q77 : ((ji72) : Int) < ((x5_1.length : Int) : Int) := of_decide_eq_true (by first | (with_reducible assumption) | assumption); obtain ⟨go77, co77, eo77, gb77, gl77, cl77, HG77⟩ := Kd.R_form HO_5.out (by omega); (first | cases eo77 | (injection eo77 with ea_ en_ ec_; (first | subst ea_ | (injection ea_ with ea_; subst ea_)); subst ec_; clear en_)); have GB77 := Aside0.mk gb77; have GG77 := Aside0.mk HG77; clear gb77 gl77 HG77; (first | simp only [add_plain] at hx273_0 | skip); obtain ⟨hx77_0, hf77_0⟩ := Kd.R_celln (⟨#[]⟩ : ByteArray) HO_5.out ((ji72) : Int) p77 q77; replace p77 := eq_true p77; replace q77 := eq_true q77; obtain ⟨hy80_, hz80_⟩ := Kd.R_celln (⟨#[]⟩ : ByteArray) HO_5.out ((ji72) : Int) (of_decide_eq_true (by first | (with_reducible assumption) | assumption)) (of_decide_eq_true (by first | (with_reducible assumption) | assumption)); have HP80 := Kd.R_putg HO_5.out ((ji72) : Int) ((⟨#[101]⟩ : ByteArray) ++ ((rdOf ByteArray.empty x5_1 (ji72)).extract 1 (rdOf ByteArray.empty x5_1 (ji72)).size))) | ((with_reducible refine gate_store (t := 9) (p := 95) rfl ?_); refine store_event (t := 9) (p := 95) (v := ?vo_w81) (w1 := (w78.setCell ⟨go77, ((ji72) : Int).toNat, none⟩ (.string ((⟨#[101]⟩ : ByteArray) ++ ((rdOf ByteArray.empty x5_1 (ji72)).extract 1 (rdOf ByteArray.empty x5_1 (ji72)).size))))) ?hg ?ho ?hn ?hr ?_; (case ho => rfl); (case hg => rfl); (case hn => rfl); (case hr => first | (go_simp; done) | (go_simp; rfl)); intro w81 hw; have hg : w78.grownBy w81 (some go77) := (by rw [hw]; exact HP80.2); have hp_ : Kd.R Kd.string 9 w81 w.heap.size (fun _ => True) (.slice (some ⟨go77, 0, none⟩) x5_1.length co79) y274 := (by rw [hw, Ny274.out]; exact HP80.1); clear HP80; have n0_ := Aside0.mk (hp_); have n1_ := Aside0.mk (IsS79.grown (by repeat (first | (with_reducible first | exact HI0.out | apply IsS79.alloc | apply IsS79.drewN | apply IsS79.drew | apply IsS79.set_1) | exact HI0.out)) hg (IsS79.own_ne HI0.out HO_5.out (by decide))); have n2_ := Aside0.mk ((by rw [hw]; exact below_set (HB.out) (Nat.le_trans HL.out GB77.out) : Below w0.heap.size w0 w81)); have n3_ := Aside0.mk (KeepBut.trans (by repeat (first | (with_reducible first | exact HK.out | apply KeepBut.set_ | apply keep_drewN | apply keep_drew | apply keep_alloc) | exact HK.out)) (KeepBut.of_grown hg g) (Kd.R_base2 HO_5.out)); clear HO_5; clear HI0; clear HB; clear HK; have HO_5 := n0_; have HI0 := n1_; have HB := n2_; have HK := n3_; clear n0_ n1_ n2_ n3_; clear hg hw hp_))
    go_ret
    exact ⟨_, by first | rfl | (simp [errW_none, errW_some] <;> rfl) | (simp only [← hji72]; first | rfl | (simp [errW_none, errW_some] <;> rfl)) | (simp [*, errW_none, errW_some] <;> rfl), by (with_reducible repeat (first | apply Kd.R_alloc | apply Kd.R_drewN | apply Kd.R_drew)); exact HO_5.out, by repeat (first | (with_reducible first | exact HI0.out | apply IsS79.alloc | apply IsS79.drewN | apply IsS79.drew | apply IsS79.set_1) | exact HI0.out), by repeat (first | (with_reducible first | exact HB.out | apply below_alloc | apply pw_below_drewN | apply below_drew1 | refine below_set ?_ (IsS79.ge HI0.out)) | exact HB.out), by repeat (first | (with_reducible first | exact HK.out | apply KeepBut.set_ | apply keep_drewN | apply keep_drew | apply keep_alloc) | exact HK.out)⟩
   rw [if_pos c9] at H
   have c9b0 : decide (x8_1 < (wrap64 (1 + t235))) = true := decide_eq_true c9
   clear c9
   have H' := Aside0.mk H
   clear H
   go_wp2
   go_loopg [9, 10] k1 (fun kq v9 v10 w' => ∃ (x9_2 : ByteArray) (x10_2 : Int) (x1001_2 : Int), v9 = .string x9_2 ∧ v10 = .int .i64 x10_2 ∧ Aside0 (spec_l92Books.l1 kq a1 x5_1 (wrap64 (1 + t235)) (wrap64 (1 + t237)) x8_1 x9_2 x10_2 s0_0 x1001_2 = some (r1, r2)) ∧ Aside0 (kq ≤ k1) ∧ Aside0 (Kd.R Kd.string 9 w' w.heap.size (fun _ => True) u5 x5_1) ∧ Aside0 (IsS79 w0 w' g s0_0 x1001_2) ∧ Aside0 (KeepBut w w' g none) ∧ Aside0 (Below w0.heap.size w0 w'))
   case atStart => exact ⟨((⟨#[]⟩ : ByteArray)), (0), (x1001_1), (by first | rfl | (simp; done) | (simp [*]; done)), (by first | rfl | (simp; done) | (simp [*]; done)), H', ⟨Nat.le_refl _⟩, ⟨by (with_reducible repeat (first | apply Kd.R_alloc | apply Kd.R_drewN | apply Kd.R_drew)); exact HO_5.out⟩, ⟨by repeat (first | (with_reducible first | exact HI0.out | apply IsS79.alloc | apply IsS79.drewN | apply IsS79.drew | apply IsS79.set_1) | exact HI0.out)⟩, ⟨by repeat (first | (with_reducible first | exact HK.out | apply KeepBut.set_ | apply keep_drewN | apply keep_drew | apply keep_alloc) | exact HK.out)⟩, ⟨by repeat (first | (with_reducible first | exact HB.out | apply below_alloc | apply pw_below_drewN | apply below_drew1 | refine below_set ?_ (IsS79.ge HI0.out)) | exact HB.out)⟩⟩
   case round =>
    clear H'
    try clear p2
    try clear c6
    try clear p6
    try clear c8
    try clear c9
    try clear c9b0
    try clear p2
    try clear p6
    obtain ⟨x9_2, x10_2, x1001_2, rfl, rfl, HA, HK2, HO_5, HI0, HK, HB⟩ := hrel
    cases gk with
    | zero => exact absurd HA.out (by simp [spec_l92Books.l1])
    | succ k2 =>
     have H := HA.out
     clear HA
     simp only [spec_l92Books.l1] at H
     by_cases c10 : x10_2 < (wrap64 (1 + t237))
     rotate_left
     ·rw [if_neg c10] at H
      have c10b0 : decide (x10_2 < (wrap64 (1 + t237))) = false := decide_eq_false c10
      clear c10
      by_cases c48 : a1 = true
      rotate_left
      ·replace c48 := Bool.eq_false_iff.mpr c48
       subst c48
       have H1 : (if x5_1.length < 8796093022208 then (spec_l92Books.l0 k2 false (x5_1 ++ [x9_2]) (wrap64 (1 + t235)) (wrap64 (1 + t237)) (wrap64 (x8_1 + 1)) s0_0 x1001_2) else (none)) = some (r1, r2) := by rw [if_neg (show ¬ (false = true) by decide)] at H; exact H
       clear H
       have H := H1
       clear H1
       by_cases c60 : x5_1.length < 8796093022208
       rotate_left
       ·rw [if_neg c60] at H
        exact absurd H (by simp)
       rw [if_pos c60] at H
       have LMc60 := Aside0.mk c60
       clear c60
       obtain ⟨y247, hy247⟩ : ∃ y_ : List ByteArray, y_ = (x5_1 ++ [x9_2]) := ⟨_, rfl⟩
       replace H : (spec_l92Books.l0 k2 false y247 (wrap64 (1 + t235)) (wrap64 (1 + t237)) (wrap64 (x8_1 + 1)) s0_0 x1001_2) = some (r1, r2) := by first | (rw [hy247]; with_reducible exact H) | (have H2_ := (Option.bind_some _ _).symm.trans H; rw [hy247]; with_reducible exact H2_) | (have H2_ := (Option.bind_some _ _).symm.trans H; with_reducible exact H2_) | with_reducible exact H | (rw [hy247]; exact H) | exact H
       have Ny247 := Aside0.mk hy247
       clear hy247
       have H' := Aside0.mk H
       clear H
       go_wp2_with (first | ((with_reducible refine gate_builtin (b := .append) (xs := #[.tmp 69, .tmp 71]) rfl ?_); at_builtin; refine Kd.R_append Kd.string w.heap.size rfl (.tmp 69) (.tmp 71) 22 9 (.string ⟨#[]⟩) 16 rfl Tryd.underlying22 info9 rfl (by decide) (by omega) u5 x5_1 x9_2 [.string x9_2] (fun _ => True) (fun _ => False) rfl rfl ?aP (fun _ hk => hk.elim) ?aF ?aO (Below.refl _ _) ?aS ?aL ?_; (case aP => exact rfl); (case aF => exact (fun _ _ => trivial)); (case aO => exact (by (with_reducible repeat (first | apply Kd.R_alloc | apply Kd.R_drewN | apply Kd.R_drew)); exact HO_5.out)); (case aS => exact (keep_size (w := w) (g := g) (row := none) (by repeat (first | (with_reducible first | exact HK.out | apply KeepBut.set_ | apply keep_drewN | apply keep_drew | apply keep_alloc) | exact HK.out)))); (case aL => have := LMc60.out; omega); intro v248 w61 ho hb hg hat; rw [← Ny247.out] at ho; have n0_ := Aside0.mk (IsS79.grown (by repeat (first | (with_reducible first | exact HI0.out | apply IsS79.alloc | apply IsS79.drewN | apply IsS79.drew | apply IsS79.set_1) | exact HI0.out)) hg (IsS79.own_ne HI0.out HO_5.out (by decide))); have n1_ := Aside0.mk (below_weaken (by repeat (first | (with_reducible first | exact HB.out | apply below_alloc | apply pw_below_drewN | apply below_drew1 | refine below_set ?_ (IsS79.ge HI0.out)) | exact HB.out)) HL.out hb); have n2_ := Aside0.mk (KeepBut.trans (by repeat (first | (with_reducible first | exact HK.out | apply KeepBut.set_ | apply keep_drewN | apply keep_drew | apply keep_alloc) | exact HK.out)) (KeepBut.of_grown hg g) (Kd.R_base2 HO_5.out)); have n3_ := Aside0.mk (ho); clear HI0; clear HB; clear HK; clear HO_5; have HI0 := n0_; have HB := n1_; have HK := n2_; have HO249 := n3_; clear n0_ n1_ n2_ n3_; clear ho hb hg hat))
       first | go_roundg k2 | ((try simp only [← hji72] at H' ⊢); go_roundg k2)
       case measure => have := HK1.out; have := HK2.out; omega
       case rel => exact ⟨(y247), (wrap64 (x8_1 + 1)), (x1001_2), (by first | rfl | (simp; done) | (simp [*]; done)), H', ⟨by have := HK1.out; have := HK2.out; omega⟩, ⟨by (with_reducible repeat (first | apply Kd.R_alloc | apply Kd.R_drewN | apply Kd.R_drew)); exact HO249.out⟩, ⟨by repeat (first | (with_reducible first | exact HI0.out | apply IsS79.alloc | apply IsS79.drewN | apply IsS79.drew | apply IsS79.set_1) | exact HI0.out)⟩, ⟨by repeat (first | (with_reducible first | exact HK.out | apply KeepBut.set_ | apply keep_drewN | apply keep_drew | apply keep_alloc) | exact HK.out)⟩, ⟨by repeat (first | (with_reducible first | exact HB.out | apply below_alloc | apply pw_below_drewN | apply below_drew1 | refine below_set ?_ (IsS79.ge HI0.out)) | exact HB.out)⟩⟩
      subst c48
      have H1 : ((spec_l6Rd_pick.f k2 s0_0 x1001_2 3).bind fun bt239 => (if bt239.1 = 0 then (if 0 ≤ (wrap64 (1 + t237)) then (if (wrap64 (1 + t237)) ≤ 4 then (if x5_1.length < 8796093022208 then (spec_l92Books.l0 k2 true (x5_1 ++ [(⟨#[63, 63, 63, 63]⟩ : ByteArray).extract 0 ((wrap64 (1 + t237)) : Int).toNat]) (wrap64 (1 + t235)) (wrap64 (1 + t237)) (wrap64 (x8_1 + 1)) s0_0 bt239.2) else (none)) else (none)) else (none)) else (if x5_1.length < 8796093022208 then (spec_l92Books.l0 k2 true (x5_1 ++ [x9_2]) (wrap64 (1 + t235)) (wrap64 (1 + t237)) (wrap64 (x8_1 + 1)) s0_0 bt239.2) else (none)))) = some (r1, r2) := by rw [if_pos rfl] at H; exact H
      clear H
      have H := H1
      clear H1
      replace H := Option.bind_eq_some_iff.mp H
      obtain ⟨⟨t239, t240⟩, A490, H⟩ := H
      replace H : (if t239 = 0 then (if 0 ≤ (wrap64 (1 + t237)) then (if (wrap64 (1 + t237)) ≤ 4 then (if x5_1.length < 8796093022208 then (spec_l92Books.l0 k2 true (x5_1 ++ [(⟨#[63, 63, 63, 63]⟩ : ByteArray).extract 0 ((wrap64 (1 + t237)) : Int).toNat]) (wrap64 (1 + t235)) (wrap64 (1 + t237)) (wrap64 (x8_1 + 1)) s0_0 t240) else (none)) else (none)) else (none)) else (if x5_1.length < 8796093022208 then (spec_l92Books.l0 k2 true (x5_1 ++ [x9_2]) (wrap64 (1 + t235)) (wrap64 (1 + t237)) (wrap64 (x8_1 + 1)) s0_0 t240) else (none))) = some (r1, r2) := H
      have A49 := Aside0.mk A490
      clear A490
      by_cases c50 : t239 = 0
      rotate_left
      ·rw [if_neg c50] at H
       have c50b0 : (t239 == 0) = false := beq_eq_false_iff_ne.mpr c50
       have c50b1 : (t239 != 0) = true := bne_iff_ne.mpr c50
       by_cases c57 : x5_1.length < 8796093022208
       rotate_left
       ·rw [if_neg c57] at H
        exact absurd H (by simp)
       rw [if_pos c57] at H
       have LMc57 := Aside0.mk c57
       clear c57
       obtain ⟨y244, hy244⟩ : ∃ y_ : List ByteArray, y_ = (x5_1 ++ [x9_2]) := ⟨_, rfl⟩
       replace H : (spec_l92Books.l0 k2 true y244 (wrap64 (1 + t235)) (wrap64 (1 + t237)) (wrap64 (x8_1 + 1)) s0_0 t240) = some (r1, r2) := by first | (rw [hy244]; with_reducible exact H) | (have H2_ := (Option.bind_some _ _).symm.trans H; rw [hy244]; with_reducible exact H2_) | (have H2_ := (Option.bind_some _ _).symm.trans H; with_reducible exact H2_) | with_reducible exact H | (rw [hy244]; exact H) | exact H
       have Ny244 := Aside0.mk hy244
       clear hy244
       have H' := Aside0.mk H
       clear H
       go_wp2_with (first | (go_at_call 81; (with_reducible refine (spec_l6Rd_pick.calls k2 g s0_0 x1001_2 3 t239 t240 w0 _ ?side1 ?side2 A49.out).mono ?_); (case side1 => repeat (first | (with_reducible first | exact HI0.out | apply IsS79.alloc | apply IsS79.drewN | apply IsS79.drew | apply IsS79.set_1) | exact HI0.out)); (case side2 => repeat (first | (with_reducible first | exact HB.out | apply below_alloc | apply pw_below_drewN | apply below_drew1 | refine below_set ?_ (IsS79.ge HI0.out)) | exact HB.out)); rintro e w58 ⟨rfl, hi, hb, hk⟩; have n0_ := Aside0.mk (Kd.R_mono (Kd.R_keep (IsS79.apart (show IsS79 w0 _ g s0_0 x1001_2 from by repeat (first | (with_reducible first | exact HI0.out | apply IsS79.alloc | apply IsS79.drewN | apply IsS79.drew | apply IsS79.set_1) | exact HI0.out)) (by (with_reducible repeat (first | apply Kd.R_alloc | apply Kd.R_drewN | apply Kd.R_drew)); exact HO_5.out) (by decide)) hk (fun _ h => h.2)) (fun _ h => h.1)); have n1_ := Aside0.mk (KeepBut.trans (by repeat (first | (with_reducible first | exact HK.out | apply KeepBut.set_ | apply keep_drewN | apply keep_drew | apply keep_alloc) | exact HK.out)) hk (.inl rfl)); have n2_ := Aside0.mk (hb); have n3_ := Aside0.mk (hi); clear HO_5; clear HK; clear HB; clear HI0; have HO_5 := n0_; have HK := n1_; have HB := n2_; have HI0 := n3_; clear n0_ n1_ n2_ n3_; (try clear hb); (try clear hb2); (try clear hk); (try clear hi)) | ((with_reducible refine gate_builtin (b := .append) (xs := #[.tmp 69, .tmp 71]) rfl ?_); at_builtin; refine Kd.R_append Kd.string w.heap.size rfl (.tmp 69) (.tmp 71) 22 9 (.string ⟨#[]⟩) 16 rfl Tryd.underlying22 info9 rfl (by decide) (by omega) u5 x5_1 x9_2 [.string x9_2] (fun _ => True) (fun _ => False) rfl rfl ?aP (fun _ hk => hk.elim) ?aF ?aO (Below.refl _ _) ?aS ?aL ?_; (case aP => exact rfl); (case aF => exact (fun _ _ => trivial)); (case aO => exact (by (with_reducible repeat (first | apply Kd.R_alloc | apply Kd.R_drewN | apply Kd.R_drew)); exact HO_5.out)); (case aS => exact (keep_size (w := w) (g := g) (row := none) (by repeat (first | (with_reducible first | exact HK.out | apply KeepBut.set_ | apply keep_drewN | apply keep_drew | apply keep_alloc) | exact HK.out)))); (case aL => have := LMc57.out; omega); intro v245 w59 ho hb hg hat; rw [← Ny244.out] at ho; have n0_ := Aside0.mk (IsS79.grown (by repeat (first | (with_reducible first | exact HI0.out | apply IsS79.alloc | apply IsS79.drewN | apply IsS79.drew | apply IsS79.set_1) | exact HI0.out)) hg (IsS79.own_ne HI0.out HO_5.out (by decide))); have n1_ := Aside0.mk (below_weaken (by repeat (first | (with_reducible first | exact HB.out | apply below_alloc | apply pw_below_drewN | apply below_drew1 | refine below_set ?_ (IsS79.ge HI0.out)) | exact HB.out)) HL.out hb); have n2_ := Aside0.mk (KeepBut.trans (by repeat (first | (with_reducible first | exact HK.out | apply KeepBut.set_ | apply keep_drewN | apply keep_drew | apply keep_alloc) | exact HK.out)) (KeepBut.of_grown hg g) (Kd.R_base2 HO_5.out)); have n3_ := Aside0.mk (ho); clear HI0; clear HB; clear HK; clear HO_5; have HI0 := n0_; have HB := n1_; have HK := n2_; have HO246 := n3_; clear n0_ n1_ n2_ n3_; clear ho hb hg hat))
       first | go_roundg k2 | ((try simp only [← hji72] at H' ⊢); go_roundg k2)
       case measure => have := HK1.out; have := HK2.out; omega
       case rel => exact ⟨(y244), (wrap64 (x8_1 + 1)), (t240), (by first | rfl | (simp; done) | (simp [*]; done)), H', ⟨by have := HK1.out; have := HK2.out; omega⟩, ⟨by (with_reducible repeat (first | apply Kd.R_alloc | apply Kd.R_drewN | apply Kd.R_drew)); exact HO246.out⟩, ⟨by repeat (first | (with_reducible first | exact HI0.out | apply IsS79.alloc | apply IsS79.drewN | apply IsS79.drew | apply IsS79.set_1) | exact HI0.out)⟩, ⟨by repeat (first | (with_reducible first | exact HK.out | apply KeepBut.set_ | apply keep_drewN | apply keep_drew | apply keep_alloc) | exact HK.out)⟩, ⟨by repeat (first | (with_reducible first | exact HB.out | apply below_alloc | apply pw_below_drewN | apply below_drew1 | refine below_set ?_ (IsS79.ge HI0.out)) | exact HB.out)⟩⟩
      rw [if_pos c50] at H
      have c50b0 : (t239 == 0) = true := beq_iff_eq.mpr c50
      have c50b1 : (t239 != 0) = false := bne_eq_false_iff_eq.mpr c50
      clear c50
      obtain ⟨ji51, hji51⟩ : ∃ j_ : Int, (wrap64 (1 + t237)) = j_ := ⟨_, rfl⟩
      replace H : (if 0 ≤ (ji51) then (if (ji51) ≤ 4 then (if x5_1.length < 8796093022208 then (spec_l92Books.l0 k2 true (x5_1 ++ [(⟨#[63, 63, 63, 63]⟩ : ByteArray).extract 0 ((ji51) : Int).toNat]) (wrap64 (1 + t235)) (ji51) (wrap64 (x8_1 + 1)) s0_0 t240) else (none)) else (none)) else (none)) = some (r1, r2) := by first | (rw [hji51] at H; exact H) | (simp only [hji51] at H ⊢; exact H)
      (try rw [hji51] at c10b0)
      (try rw [hji51] at A49)
      have hji51w : (IntKind.i64.wrap (1 + t237)) = ji51 := (i64_w _).trans hji51
      by_cases c52 : 0 ≤ (ji51)
      rotate_left
      ·rw [if_neg c52] at H
       exact absurd H (by simp)
      rw [if_pos c52] at H
      have c52b0 := eq_true c52
      have c52b1 : decide (0 ≤ (ji51)) = true := decide_eq_true c52
      clear c52
      by_cases c53 : (ji51) ≤ 4
      rotate_left
      ·rw [if_neg c53] at H
       exact absurd H (by simp)
      rw [if_pos c53] at H
      have c53b0 := eq_true c53
      have c53b1 : decide ((ji51) ≤ 4) = true := decide_eq_true c53
      clear c53
      by_cases c54 : x5_1.length < 8796093022208
      rotate_left
      ·rw [if_neg c54] at H
       exact absurd H (by simp)
      rw [if_pos c54] at H
      have LMc54 := Aside0.mk c54
      clear c54
      obtain ⟨y241, hy241⟩ : ∃ y_ : List ByteArray, y_ = (x5_1 ++ [(⟨#[63, 63, 63, 63]⟩ : ByteArray).extract 0 ((ji51) : Int).toNat]) := ⟨_, rfl⟩
      replace H : (spec_l92Books.l0 k2 true y241 (wrap64 (1 + t235)) (ji51) (wrap64 (x8_1 + 1)) s0_0 t240) = some (r1, r2) := by first | (rw [hy241]; with_reducible exact H) | (have H2_ := (Option.bind_some _ _).symm.trans H; rw [hy241]; with_reducible exact H2_) | (have H2_ := (Option.bind_some _ _).symm.trans H; with_reducible exact H2_) | with_reducible exact H | (rw [hy241]; exact H) | exact H
      have Ny241 := Aside0.mk hy241
      clear hy241
      have H' := Aside0.mk H
      clear H
      go_wp2_with (first | (go_at_call 81; (with_reducible refine (spec_l6Rd_pick.calls k2 g s0_0 x1001_2 3 t239 t240 w0 _ ?side1 ?side2 A49.out).mono ?_); (case side1 => repeat (first | (with_reducible first | exact HI0.out | apply IsS79.alloc | apply IsS79.drewN | apply IsS79.drew | apply IsS79.set_1) | exact HI0.out)); (case side2 => repeat (first | (with_reducible first | exact HB.out | apply below_alloc | apply pw_below_drewN | apply below_drew1 | refine below_set ?_ (IsS79.ge HI0.out)) | exact HB.out)); rintro e w55 ⟨rfl, hi, hb, hk⟩; have n0_ := Aside0.mk (Kd.R_mono (Kd.R_keep (IsS79.apart (show IsS79 w0 _ g s0_0 x1001_2 from by repeat (first | (with_reducible first | exact HI0.out | apply IsS79.alloc | apply IsS79.drewN | apply IsS79.drew | apply IsS79.set_1) | exact HI0.out)) (by (with_reducible repeat (first | apply Kd.R_alloc | apply Kd.R_drewN | apply Kd.R_drew)); exact HO_5.out) (by decide)) hk (fun _ h => h.2)) (fun _ h => h.1)); have n1_ := Aside0.mk (KeepBut.trans (by repeat (first | (with_reducible first | exact HK.out | apply KeepBut.set_ | apply keep_drewN | apply keep_drew | apply keep_alloc) | exact HK.out)) hk (.inl rfl)); have n2_ := Aside0.mk (hb); have n3_ := Aside0.mk (hi); clear HO_5; clear HK; clear HB; clear HI0; have HO_5 := n0_; have HK := n1_; have HB := n2_; have HI0 := n3_; clear n0_ n1_ n2_ n3_; (try clear hb); (try clear hb2); (try clear hk); (try clear hi)) | ((with_reducible refine gate_builtin (b := .append) (xs := #[.tmp 69, .tmp 71]) rfl ?_); at_builtin; refine Kd.R_append Kd.string w.heap.size rfl (.tmp 69) (.tmp 71) 22 9 (.string ⟨#[]⟩) 16 rfl Tryd.underlying22 info9 rfl (by decide) (by omega) u5 x5_1 ((⟨#[63, 63, 63, 63]⟩ : ByteArray).extract 0 ((ji51) : Int).toNat) [.string ((⟨#[63, 63, 63, 63]⟩ : ByteArray).extract 0 ((ji51) : Int).toNat)] (fun _ => True) (fun _ => False) rfl rfl ?aP (fun _ hk => hk.elim) ?aF ?aO (Below.refl _ _) ?aS ?aL ?_; (case aP => exact rfl); (case aF => exact (fun _ _ => trivial)); (case aO => exact (by (with_reducible repeat (first | apply Kd.R_alloc | apply Kd.R_drewN | apply Kd.R_drew)); exact HO_5.out)); (case aS => exact (keep_size (w := w) (g := g) (row := none) (by repeat (first | (with_reducible first | exact HK.out | apply KeepBut.set_ | apply keep_drewN | apply keep_drew | apply keep_alloc) | exact HK.out)))); (case aL => have := LMc54.out; omega); intro v242 w56 ho hb hg hat; rw [← Ny241.out] at ho; have n0_ := Aside0.mk (IsS79.grown (by repeat (first | (with_reducible first | exact HI0.out | apply IsS79.alloc | apply IsS79.drewN | apply IsS79.drew | apply IsS79.set_1) | exact HI0.out)) hg (IsS79.own_ne HI0.out HO_5.out (by decide))); have n1_ := Aside0.mk (below_weaken (by repeat (first | (with_reducible first | exact HB.out | apply below_alloc | apply pw_below_drewN | apply below_drew1 | refine below_set ?_ (IsS79.ge HI0.out)) | exact HB.out)) HL.out hb); have n2_ := Aside0.mk (KeepBut.trans (by repeat (first | (with_reducible first | exact HK.out | apply KeepBut.set_ | apply keep_drewN | apply keep_drew | apply keep_alloc) | exact HK.out)) (KeepBut.of_grown hg g) (Kd.R_base2 HO_5.out)); have n3_ := Aside0.mk (ho); clear HI0; clear HB; clear HK; clear HO_5; have HI0 := n0_; have HB := n1_; have HK := n2_; have HO243 := n3_; clear n0_ n1_ n2_ n3_; clear ho hb hg hat))
      first | go_roundg k2 | ((try simp only [← hji72] at H' ⊢); (try simp only [← hji51] at H' ⊢); go_roundg k2)
      case measure => have := HK1.out; have := HK2.out; omega
      case rel => exact ⟨(y241), (wrap64 (x8_1 + 1)), (t240), (by first | rfl | (simp; done) | (simp [*]; done)), H', ⟨by have := HK1.out; have := HK2.out; omega⟩, ⟨by (with_reducible repeat (first | apply Kd.R_alloc | apply Kd.R_drewN | apply Kd.R_drew)); exact HO243.out⟩, ⟨by repeat (first | (with_reducible first | exact HI0.out | apply IsS79.alloc | apply IsS79.drewN | apply IsS79.drew | apply IsS79.set_1) | exact HI0.out)⟩, ⟨by repeat (first | (with_reducible first | exact HK.out | apply KeepBut.set_ | apply keep_drewN | apply keep_drew | apply keep_alloc) | exact HK.out)⟩, ⟨by repeat (first | (with_reducible first | exact HB.out | apply below_alloc | apply pw_below_drewN | apply below_drew1 | refine below_set ?_ (IsS79.ge HI0.out)) | exact HB.out)⟩⟩
     rw [if_pos c10] at H
     have c10b0 : decide (x10_2 < (wrap64 (1 + t237))) = true := decide_eq_true c10
     clear c10
     by_cases c11 : x8_1 > 0
     rotate_left
     ·rw [if_neg c11] at H
      have c11b0 : decide (0 < x8_1) = false := decide_eq_false c11
      clear c11
      obtain ⟨y264, hy264⟩ : ∃ y_ : List ByteArray, y_ = (([(⟨#[97]⟩ : ByteArray), (⟨#[98]⟩ : ByteArray), (⟨#[99]⟩ : ByteArray), (⟨#[97]⟩ : ByteArray), (⟨#[100]⟩ : ByteArray)] : List ByteArray)) := ⟨_, rfl⟩
      replace H : ((spec_l6Rd_of.f k2 s0_0 x1001_2 y264).bind fun bt267 => (if x9_2.size + bt267.1.size ≤ 9223372036854775807 then (spec_l92Books.l1 k2 a1 x5_1 (wrap64 (1 + t235)) (wrap64 (1 + t237)) x8_1 (x9_2 ++ bt267.1) (wrap64 (x10_2 + 1)) s0_0 bt267.2) else (none))) = some (r1, r2) := by first | (rw [hy264]; with_reducible exact H) | (have H2_ := (Option.bind_some _ _).symm.trans H; rw [hy264]; with_reducible exact H2_) | (have H2_ := (Option.bind_some _ _).symm.trans H; with_reducible exact H2_) | with_reducible exact H | (rw [hy264]; exact H) | exact H
      have Ny264 := Aside0.mk hy264
      clear hy264
      replace H := Option.bind_eq_some_iff.mp H
      obtain ⟨⟨t267, t268⟩, A420, H⟩ := H
      replace H : (if x9_2.size + t267.size ≤ 9223372036854775807 then (spec_l92Books.l1 k2 a1 x5_1 (wrap64 (1 + t235)) (wrap64 (1 + t237)) x8_1 (x9_2 ++ t267) (wrap64 (x10_2 + 1)) s0_0 t268) else (none)) = some (r1, r2) := H
      have A42 := Aside0.mk A420
      clear A420
      by_cases c43 : x9_2.size + t267.size ≤ 9223372036854775807
      rotate_left
      ·rw [if_neg c43] at H
       exact absurd H (by simp)
      rw [if_pos c43] at H
      have c43b0 := eq_true c43
      have c43b1 : decide (x9_2.size + t267.size ≤ 9223372036854775807) = true := decide_eq_true c43
      try have c43b2 : (9223372036854775807 < x9_2.size + t267.size) = False := eq_false (Nat.not_lt.2 c43)
      have H' := Aside0.mk H
      clear H
      go_wp2_with (first | ((with_reducible refine gate_dst (N := 58) rfl ?_); refine Kd.R_lit Kd.string _ 9 ?hg (N := 58) ?hd (xs := ([(⟨#[97]⟩ : ByteArray), (⟨#[98]⟩ : ByteArray), (⟨#[99]⟩ : ByteArray), (⟨#[97]⟩ : ByteArray), (⟨#[100]⟩ : ByteArray)] : List ByteArray)) (inner := [.string (⟨#[97]⟩ : ByteArray), .string (⟨#[98]⟩ : ByteArray), .string (⟨#[99]⟩ : ByteArray), .string (⟨#[97]⟩ : ByteArray), .string (⟨#[100]⟩ : ByteArray)]) (ok := fun _ => True) (okp := fun _ => True) ?hr ?hp (fun _ hk => hk) trivial (Below.refl _ _) (Nat.le_refl _) (by simp) ?_; (case hd => rfl); (case hg => rfl); (case hr => first | (go_simp; done) | (go_simp; rfl)); (case hp => exact (Reps.one (show Kd.M Kd.string _ _ _ (⟨#[97]⟩ : ByteArray) [.string (⟨#[97]⟩ : ByteArray)] from rfl) (Reps.one (show Kd.M Kd.string _ _ _ (⟨#[98]⟩ : ByteArray) [.string (⟨#[98]⟩ : ByteArray)] from rfl) (Reps.one (show Kd.M Kd.string _ _ _ (⟨#[99]⟩ : ByteArray) [.string (⟨#[99]⟩ : ByteArray)] from rfl) (Reps.one (show Kd.M Kd.string _ _ _ (⟨#[97]⟩ : ByteArray) [.string (⟨#[97]⟩ : ByteArray)] from rfl) (Reps.one (show Kd.M Kd.string _ _ _ (⟨#[100]⟩ : ByteArray) [.string (⟨#[100]⟩ : ByteArray)] from rfl) (Reps.none _ _))))))); intro v265 w44 ho45 hb hg_ hnew_; clear hg_ hnew_; (first | rw [← Ny264.out] at ho45 | (simp only [Int.reduceToNat] at ho45; rw [← Ny264.out] at ho45)); have n0_ := Aside0.mk (Kd.R_elder' (by (with_reducible repeat (first | apply Kd.R_alloc | apply Kd.R_drewN | apply Kd.R_drew)); exact HO_5.out) (Kd.R_base ho45) hb); have n1_ := Aside0.mk (Kd.R_lower (Kd.R_new' ho45 (Kd.R_lt (by (with_reducible repeat (first | apply Kd.R_alloc | apply Kd.R_drewN | apply Kd.R_drew)); exact HO_5.out))) (keep_size (w := w) (g := g) (row := none) (by repeat (first | (with_reducible first | exact HK.out | apply KeepBut.set_ | apply keep_drewN | apply keep_drew | apply keep_alloc) | exact HK.out)))); have n2_ := Aside0.mk (IsS79.below (by repeat (first | (with_reducible first | exact HI0.out | apply IsS79.alloc | apply IsS79.drewN | apply IsS79.drew | apply IsS79.set_1) | exact HI0.out)) hb); have n3_ := Aside0.mk (KeepBut.trans (by repeat (first | (with_reducible first | exact HK.out | apply KeepBut.set_ | apply keep_drewN | apply keep_drew | apply keep_alloc) | exact HK.out)) (KeepBut.of_below hb g none) (.inl rfl)); have n4_ := Aside0.mk (below_step (by repeat (first | (with_reducible first | exact HB.out | apply below_alloc | apply pw_below_drewN | apply below_drew1 | refine below_set ?_ (IsS79.ge HI0.out)) | exact HB.out)) hb); clear HO_5; clear HI0; clear HK; clear HB; have HO_5 := n0_; have HO266 := n1_; have HI0 := n2_; have HK := n3_; have HB := n4_; clear n0_ n1_ n2_ n3_ n4_; clear hb ho45; obtain ⟨Ao46, co46, eo46⟩ := Kd.R_slice HO266.out; subst eo46) | ((with_reducible refine gate_callee (f := 82) rfl ?_); refine goesL_ (some 59) rfl rfl Tryd.func82 (by kernel_rfl) rfl #[.pointer (some ⟨g, 0, none⟩), .slice Ao46 y264.length co46] rfl (by (try simp only [List.map_toArray, List.map_cons, List.map_nil]); first | done | rfl | (simp only [List.length_drop, List.length_take]; rfl)) ?_; (with_reducible refine (spec_l6Rd_of.calls k2 g s0_0 x1001_2 _ _ y264 t267 t268 w0 _ ?side1 ?side2 ?side3 ?side4 ?side5 A42.out).mono ?_); (case side1 => repeat (first | (with_reducible first | exact HI0.out | apply IsS79.alloc | apply IsS79.drewN | apply IsS79.drew | apply IsS79.set_1) | exact HI0.out)); (case side2 => repeat (first | (with_reducible first | exact HB.out | apply below_alloc | apply pw_below_drewN | apply below_drew1 | refine below_set ?_ (IsS79.ge HI0.out)) | exact HB.out)); (case side3 => repeat (first | exact (Kd.R_reads' HO266.out).2.2 | (with_reducible refine Kd.C_alloc ?_ _) | (with_reducible refine Kd.C_drewN ?_ _) | (with_reducible refine Kd.C_drew ?_))); (case side4 => exact (Kd.R_reads' HO266.out).2.1); (case side5 => exact far_slice (IsS79.own_ne HI0.out HO266.out (by decide))); rintro e w47 ⟨rfl, hi, hb, hk⟩; refine ⟨_, rfl, ?_⟩; have n0_ := Aside0.mk (Kd.R_mono (Kd.R_keep (IsS79.apart (show IsS79 w0 _ g s0_0 x1001_2 from by repeat (first | (with_reducible first | exact HI0.out | apply IsS79.alloc | apply IsS79.drewN | apply IsS79.drew | apply IsS79.set_1) | exact HI0.out)) (by (with_reducible repeat (first | apply Kd.R_alloc | apply Kd.R_drewN | apply Kd.R_drew)); exact HO_5.out) (by decide)) hk (fun _ h => h.2)) (fun _ h => h.1)); have n1_ := Aside0.mk (Kd.R_mono (Kd.R_keep (IsS79.apart (show IsS79 w0 _ g s0_0 x1001_2 from by repeat (first | (with_reducible first | exact HI0.out | apply IsS79.alloc | apply IsS79.drewN | apply IsS79.drew | apply IsS79.set_1) | exact HI0.out)) (by (with_reducible repeat (first | apply Kd.R_alloc | apply Kd.R_drewN | apply Kd.R_drew)); exact HO266.out) (by decide)) hk (fun _ h => h.2)) (fun _ h => h.1)); have n2_ := Aside0.mk (KeepBut.trans (by repeat (first | (with_reducible first | exact HK.out | apply KeepBut.set_ | apply keep_drewN | apply keep_drew | apply keep_alloc) | exact HK.out)) hk (.inl rfl)); have n3_ := Aside0.mk (hb); have n4_ := Aside0.mk (hi); clear HO_5; clear HO266; clear HK; clear HB; clear HI0; have HO_5 := n0_; have HO266 := n1_; have HK := n2_; have HB := n3_; have HI0 := n4_; clear n0_ n1_ n2_ n3_ n4_; (try clear hb); (try clear hb2); (try clear hk); (try clear hi)))
      first | go_roundg k2 | ((try simp only [← hji72] at H' ⊢); (try simp only [← hji51] at H' ⊢); go_roundg k2)
      case measure => have := HK1.out; have := HK2.out; omega
      case rel => exact ⟨(x9_2 ++ t267), (wrap64 (x10_2 + 1)), (t268), (by first | rfl | (simp; done) | (simp [*]; done)), (by first | rfl | (simp; done) | (simp [*]; done)), H', ⟨by have := HK1.out; have := HK2.out; omega⟩, ⟨by (with_reducible repeat (first | apply Kd.R_alloc | apply Kd.R_drewN | apply Kd.R_drew)); exact Kd.R_mono HO_5.out (fun _ hk => trivial)⟩, ⟨by repeat (first | (with_reducible first | exact HI0.out | apply IsS79.alloc | apply IsS79.drewN | apply IsS79.drew | apply IsS79.set_1) | exact HI0.out)⟩, ⟨by repeat (first | (with_reducible first | exact HK.out | apply KeepBut.set_ | apply keep_drewN | apply keep_drew | apply keep_alloc) | exact HK.out)⟩, ⟨by repeat (first | (with_reducible first | exact HB.out | apply below_alloc | apply pw_below_drewN | apply below_drew1 | refine below_set ?_ (IsS79.ge HI0.out)) | exact HB.out)⟩⟩
     rw [if_pos c11] at H
     have c11b0 : decide (0 < x8_1) = true := decide_eq_true c11
     clear c11
     replace H := Option.bind_eq_some_iff.mp H
     obtain ⟨⟨t250, t251⟩, A120, H⟩ := H
     replace H : (if t250 > 0 then (if 0 ≤ (wrap64 (x8_1 - 1)) then (if (wrap64 (x8_1 - 1)) < (x5_1.length : Int) then (if 0 ≤ x10_2 then (if x10_2 < ((rdOf ByteArray.empty x5_1 (wrap64 (x8_1 - 1))).size : Int) then (if (bt (rdOf ByteArray.empty x5_1 (wrap64 (x8_1 - 1))) x10_2) = 63 then ((spec_l6Rd_of.f k2 s0_0 t251 (([(⟨#[97]⟩ : ByteArray), (⟨#[98]⟩ : ByteArray), (⟨#[99]⟩ : ByteArray), (⟨#[97]⟩ : ByteArray), (⟨#[100]⟩ : ByteArray)] : List ByteArray))).bind fun bt256 => (if x9_2.size + bt256.1.size ≤ 9223372036854775807 then (spec_l92Books.l1 k2 a1 x5_1 (wrap64 (1 + t235)) (wrap64 (1 + t237)) x8_1 (x9_2 ++ bt256.1) (wrap64 (x10_2 + 1)) s0_0 bt256.2) else (none))) else (if x10_2 ≤ (wrap64 (x10_2 + 1)) then (if (wrap64 (x10_2 + 1)) ≤ ((rdOf ByteArray.empty x5_1 (wrap64 (x8_1 - 1))).size : Int) then (if x9_2.size + ((rdOf ByteArray.empty x5_1 (wrap64 (x8_1 - 1))).extract (x10_2 : Int).toNat ((wrap64 (x10_2 + 1)) : Int).toNat).size ≤ 9223372036854775807 then (spec_l92Books.l1 k2 a1 x5_1 (wrap64 (1 + t235)) (wrap64 (1 + t237)) x8_1 (x9_2 ++ ((rdOf ByteArray.empty x5_1 (wrap64 (x8_1 - 1))).extract (x10_2 : Int).toNat ((wrap64 (x10_2 + 1)) : Int).toNat)) (wrap64 (x10_2 + 1)) s0_0 t251) else (none)) else (none)) else (none))) else (none)) else (none)) else (none)) else (none)) else ((spec_l6Rd_of.f k2 s0_0 t251 (([(⟨#[97]⟩ : ByteArray), (⟨#[98]⟩ : ByteArray), (⟨#[99]⟩ : ByteArray), (⟨#[97]⟩ : ByteArray), (⟨#[100]⟩ : ByteArray)] : List ByteArray))).bind fun bt262 => (if x9_2.size + bt262.1.size ≤ 9223372036854775807 then (spec_l92Books.l1 k2 a1 x5_1 (wrap64 (1 + t235)) (wrap64 (1 + t237)) x8_1 (x9_2 ++ bt262.1) (wrap64 (x10_2 + 1)) s0_0 bt262.2) else (none)))) = some (r1, r2) := H
     have A12 := Aside0.mk A120
     clear A120
     by_cases c13 : t250 > 0
     rotate_left
     ·rw [if_neg c13] at H
      have c13b0 : decide (0 < t250) = false := decide_eq_false c13
      clear c13
      obtain ⟨y259, hy259⟩ : ∃ y_ : List ByteArray, y_ = (([(⟨#[97]⟩ : ByteArray), (⟨#[98]⟩ : ByteArray), (⟨#[99]⟩ : ByteArray), (⟨#[97]⟩ : ByteArray), (⟨#[100]⟩ : ByteArray)] : List ByteArray)) := ⟨_, rfl⟩
      replace H : ((spec_l6Rd_of.f k2 s0_0 t251 y259).bind fun bt262 => (if x9_2.size + bt262.1.size ≤ 9223372036854775807 then (spec_l92Books.l1 k2 a1 x5_1 (wrap64 (1 + t235)) (wrap64 (1 + t237)) x8_1 (x9_2 ++ bt262.1) (wrap64 (x10_2 + 1)) s0_0 bt262.2) else (none))) = some (r1, r2) := by first | (rw [hy259]; with_reducible exact H) | (have H2_ := (Option.bind_some _ _).symm.trans H; rw [hy259]; with_reducible exact H2_) | (have H2_ := (Option.bind_some _ _).symm.trans H; with_reducible exact H2_) | with_reducible exact H | (rw [hy259]; exact H) | exact H
      have Ny259 := Aside0.mk hy259
      clear hy259
      replace H := Option.bind_eq_some_iff.mp H
      obtain ⟨⟨t262, t263⟩, A350, H⟩ := H
      replace H : (if x9_2.size + t262.size ≤ 9223372036854775807 then (spec_l92Books.l1 k2 a1 x5_1 (wrap64 (1 + t235)) (wrap64 (1 + t237)) x8_1 (x9_2 ++ t262) (wrap64 (x10_2 + 1)) s0_0 t263) else (none)) = some (r1, r2) := H
      have A35 := Aside0.mk A350
      clear A350
      by_cases c36 : x9_2.size + t262.size ≤ 9223372036854775807
      rotate_left
      ·rw [if_neg c36] at H
       exact absurd H (by simp)
      rw [if_pos c36] at H
      have c36b0 := eq_true c36
      have c36b1 : decide (x9_2.size + t262.size ≤ 9223372036854775807) = true := decide_eq_true c36
      try have c36b2 : (9223372036854775807 < x9_2.size + t262.size) = False := eq_false (Nat.not_lt.2 c36)
      have H' := Aside0.mk H
      clear H
      go_wp2_with (first | (go_at_call 81; (with_reducible refine (spec_l6Rd_pick.calls k2 g s0_0 x1001_2 3 t250 t251 w0 _ ?side1 ?side2 A12.out).mono ?_); (case side1 => repeat (first | (with_reducible first | exact HI0.out | apply IsS79.alloc | apply IsS79.drewN | apply IsS79.drew | apply IsS79.set_1) | exact HI0.out)); (case side2 => repeat (first | (with_reducible first | exact HB.out | apply below_alloc | apply pw_below_drewN | apply below_drew1 | refine below_set ?_ (IsS79.ge HI0.out)) | exact HB.out)); rintro e w37 ⟨rfl, hi, hb, hk⟩; have n0_ := Aside0.mk (Kd.R_mono (Kd.R_keep (IsS79.apart (show IsS79 w0 _ g s0_0 x1001_2 from by repeat (first | (with_reducible first | exact HI0.out | apply IsS79.alloc | apply IsS79.drewN | apply IsS79.drew | apply IsS79.set_1) | exact HI0.out)) (by (with_reducible repeat (first | apply Kd.R_alloc | apply Kd.R_drewN | apply Kd.R_drew)); exact HO_5.out) (by decide)) hk (fun _ h => h.2)) (fun _ h => h.1)); have n1_ := Aside0.mk (KeepBut.trans (by repeat (first | (with_reducible first | exact HK.out | apply KeepBut.set_ | apply keep_drewN | apply keep_drew | apply keep_alloc) | exact HK.out)) hk (.inl rfl)); have n2_ := Aside0.mk (hb); have n3_ := Aside0.mk (hi); clear HO_5; clear HK; clear HB; clear HI0; have HO_5 := n0_; have HK := n1_; have HB := n2_; have HI0 := n3_; clear n0_ n1_ n2_ n3_; (try clear hb); (try clear hb2); (try clear hk); (try clear hi)) | ((with_reducible refine gate_dst (N := 58) rfl ?_); refine Kd.R_lit Kd.string _ 9 ?hg (N := 58) ?hd (xs := ([(⟨#[97]⟩ : ByteArray), (⟨#[98]⟩ : ByteArray), (⟨#[99]⟩ : ByteArray), (⟨#[97]⟩ : ByteArray), (⟨#[100]⟩ : ByteArray)] : List ByteArray)) (inner := [.string (⟨#[97]⟩ : ByteArray), .string (⟨#[98]⟩ : ByteArray), .string (⟨#[99]⟩ : ByteArray), .string (⟨#[97]⟩ : ByteArray), .string (⟨#[100]⟩ : ByteArray)]) (ok := fun _ => True) (okp := fun _ => True) ?hr ?hp (fun _ hk => hk) trivial (Below.refl _ _) (Nat.le_refl _) (by simp) ?_; (case hd => rfl); (case hg => rfl); (case hr => first | (go_simp; done) | (go_simp; rfl)); (case hp => exact (Reps.one (show Kd.M Kd.string _ _ _ (⟨#[97]⟩ : ByteArray) [.string (⟨#[97]⟩ : ByteArray)] from rfl) (Reps.one (show Kd.M Kd.string _ _ _ (⟨#[98]⟩ : ByteArray) [.string (⟨#[98]⟩ : ByteArray)] from rfl) (Reps.one (show Kd.M Kd.string _ _ _ (⟨#[99]⟩ : ByteArray) [.string (⟨#[99]⟩ : ByteArray)] from rfl) (Reps.one (show Kd.M Kd.string _ _ _ (⟨#[97]⟩ : ByteArray) [.string (⟨#[97]⟩ : ByteArray)] from rfl) (Reps.one (show Kd.M Kd.string _ _ _ (⟨#[100]⟩ : ByteArray) [.string (⟨#[100]⟩ : ByteArray)] from rfl) (Reps.none _ _))))))); intro v260 w38 ho39 hb hg_ hnew_; clear hg_ hnew_; (first | rw [← Ny259.out] at ho39 | (simp only [Int.reduceToNat] at ho39; rw [← Ny259.out] at ho39)); have n0_ := Aside0.mk (Kd.R_elder' (by (with_reducible repeat (first | apply Kd.R_alloc | apply Kd.R_drewN | apply Kd.R_drew)); exact HO_5.out) (Kd.R_base ho39) hb); have n1_ := Aside0.mk (Kd.R_lower (Kd.R_new' ho39 (Kd.R_lt (by (with_reducible repeat (first | apply Kd.R_alloc | apply Kd.R_drewN | apply Kd.R_drew)); exact HO_5.out))) (keep_size (w := w) (g := g) (row := none) (by repeat (first | (with_reducible first | exact HK.out | apply KeepBut.set_ | apply keep_drewN | apply keep_drew | apply keep_alloc) | exact HK.out)))); have n2_ := Aside0.mk (IsS79.below (by repeat (first | (with_reducible first | exact HI0.out | apply IsS79.alloc | apply IsS79.drewN | apply IsS79.drew | apply IsS79.set_1) | exact HI0.out)) hb); have n3_ := Aside0.mk (KeepBut.trans (by repeat (first | (with_reducible first | exact HK.out | apply KeepBut.set_ | apply keep_drewN | apply keep_drew | apply keep_alloc) | exact HK.out)) (KeepBut.of_below hb g none) (.inl rfl)); have n4_ := Aside0.mk (below_step (by repeat (first | (with_reducible first | exact HB.out | apply below_alloc | apply pw_below_drewN | apply below_drew1 | refine below_set ?_ (IsS79.ge HI0.out)) | exact HB.out)) hb); clear HO_5; clear HI0; clear HK; clear HB; have HO_5 := n0_; have HO261 := n1_; have HI0 := n2_; have HK := n3_; have HB := n4_; clear n0_ n1_ n2_ n3_ n4_; clear hb ho39; obtain ⟨Ao40, co40, eo40⟩ := Kd.R_slice HO261.out; subst eo40) | ((with_reducible refine gate_callee (f := 82) rfl ?_); refine goesL_ (some 59) rfl rfl Tryd.func82 (by kernel_rfl) rfl #[.pointer (some ⟨g, 0, none⟩), .slice Ao40 y259.length co40] rfl (by (try simp only [List.map_toArray, List.map_cons, List.map_nil]); first | done | rfl | (simp only [List.length_drop, List.length_take]; rfl)) ?_; (with_reducible refine (spec_l6Rd_of.calls k2 g s0_0 t251 _ _ y259 t262 t263 w0 _ ?side1 ?side2 ?side3 ?side4 ?side5 A35.out).mono ?_); (case side1 => repeat (first | (with_reducible first | exact HI0.out | apply IsS79.alloc | apply IsS79.drewN | apply IsS79.drew | apply IsS79.set_1) | exact HI0.out)); (case side2 => repeat (first | (with_reducible first | exact HB.out | apply below_alloc | apply pw_below_drewN | apply below_drew1 | refine below_set ?_ (IsS79.ge HI0.out)) | exact HB.out)); (case side3 => repeat (first | exact (Kd.R_reads' HO261.out).2.2 | (with_reducible refine Kd.C_alloc ?_ _) | (with_reducible refine Kd.C_drewN ?_ _) | (with_reducible refine Kd.C_drew ?_))); (case side4 => exact (Kd.R_reads' HO261.out).2.1); (case side5 => exact far_slice (IsS79.own_ne HI0.out HO261.out (by decide))); rintro e w41 ⟨rfl, hi, hb, hk⟩; refine ⟨_, rfl, ?_⟩; have n0_ := Aside0.mk (Kd.R_mono (Kd.R_keep (IsS79.apart (show IsS79 w0 _ g s0_0 t251 from by repeat (first | (with_reducible first | exact HI0.out | apply IsS79.alloc | apply IsS79.drewN | apply IsS79.drew | apply IsS79.set_1) | exact HI0.out)) (by (with_reducible repeat (first | apply Kd.R_alloc | apply Kd.R_drewN | apply Kd.R_drew)); exact HO_5.out) (by decide)) hk (fun _ h => h.2)) (fun _ h => h.1)); have n1_ := Aside0.mk (Kd.R_mono (Kd.R_keep (IsS79.apart (show IsS79 w0 _ g s0_0 t251 from by repeat (first | (with_reducible first | exact HI0.out | apply IsS79.alloc | apply IsS79.drewN | apply IsS79.drew | apply IsS79.set_1) | exact HI0.out)) (by (with_reducible repeat (first | apply Kd.R_alloc | apply Kd.R_drewN | apply Kd.R_drew)); exact HO261.out) (by decide)) hk (fun _ h => h.2)) (fun _ h => h.1)); have n2_ := Aside0.mk (KeepBut.trans (by repeat (first | (with_reducible first | exact HK.out | apply KeepBut.set_ | apply keep_drewN | apply keep_drew | apply keep_alloc) | exact HK.out)) hk (.inl rfl)); have n3_ := Aside0.mk (hb); have n4_ := Aside0.mk (hi); clear HO_5; clear HO261; clear HK; clear HB; clear HI0; have HO_5 := n0_; have HO261 := n1_; have HK := n2_; have HB := n3_; have HI0 := n4_; clear n0_ n1_ n2_ n3_ n4_; (try clear hb); (try clear hb2); (try clear hk); (try clear hi)))
      first | go_roundg k2 | ((try simp only [← hji72] at H' ⊢); (try simp only [← hji51] at H' ⊢); go_roundg k2)
      case measure => have := HK1.out; have := HK2.out; omega
      case rel => exact ⟨(x9_2 ++ t262), (wrap64 (x10_2 + 1)), (t263), (by first | rfl | (simp; done) | (simp [*]; done)), (by first | rfl | (simp; done) | (simp [*]; done)), H', ⟨by have := HK1.out; have := HK2.out; omega⟩, ⟨by (with_reducible repeat (first | apply Kd.R_alloc | apply Kd.R_drewN | apply Kd.R_drew)); exact Kd.R_mono HO_5.out (fun _ hk => trivial)⟩, ⟨by repeat (first | (with_reducible first | exact HI0.out | apply IsS79.alloc | apply IsS79.drewN | apply IsS79.drew | apply IsS79.set_1) | exact HI0.out)⟩, ⟨by repeat (first | (with_reducible first | exact HK.out | apply KeepBut.set_ | apply keep_drewN | apply keep_drew | apply keep_alloc) | exact HK.out)⟩, ⟨by repeat (first | (with_reducible first | exact HB.out | apply below_alloc | apply pw_below_drewN | apply below_drew1 | refine below_set ?_ (IsS79.ge HI0.out)) | exact HB.out)⟩⟩
     rw [if_pos c13] at H
     have c13b0 : decide (0 < t250) = true := decide_eq_true c13
     clear c13
     obtain ⟨ji14, hji14⟩ : ∃ j_ : Int, (wrap64 (x8_1 - 1)) = j_ := ⟨_, rfl⟩
     replace H : (if 0 ≤ (ji14) then (if (ji14) < (x5_1.length : Int) then (if 0 ≤ x10_2 then (if x10_2 < ((rdOf ByteArray.empty x5_1 (ji14)).size : Int) then (if (bt (rdOf ByteArray.empty x5_1 (ji14)) x10_2) = 63 then ((spec_l6Rd_of.f k2 s0_0 t251 (([(⟨#[97]⟩ : ByteArray), (⟨#[98]⟩ : ByteArray), (⟨#[99]⟩ : ByteArray), (⟨#[97]⟩ : ByteArray), (⟨#[100]⟩ : ByteArray)] : List ByteArray))).bind fun bt256 => (if x9_2.size + bt256.1.size ≤ 9223372036854775807 then (spec_l92Books.l1 k2 a1 x5_1 (wrap64 (1 + t235)) (wrap64 (1 + t237)) x8_1 (x9_2 ++ bt256.1) (wrap64 (x10_2 + 1)) s0_0 bt256.2) else (none))) else (if x10_2 ≤ (wrap64 (x10_2 + 1)) then (if (wrap64 (x10_2 + 1)) ≤ ((rdOf ByteArray.empty x5_1 (ji14)).size : Int) then (if x9_2.size + ((rdOf ByteArray.empty x5_1 (ji14)).extract (x10_2 : Int).toNat ((wrap64 (x10_2 + 1)) : Int).toNat).size ≤ 9223372036854775807 then (spec_l92Books.l1 k2 a1 x5_1 (wrap64 (1 + t235)) (wrap64 (1 + t237)) x8_1 (x9_2 ++ ((rdOf ByteArray.empty x5_1 (ji14)).extract (x10_2 : Int).toNat ((wrap64 (x10_2 + 1)) : Int).toNat)) (wrap64 (x10_2 + 1)) s0_0 t251) else (none)) else (none)) else (none))) else (none)) else (none)) else (none)) else (none)) = some (r1, r2) := by first | (rw [hji14] at H; exact H) | (simp only [hji14] at H ⊢; exact H)
     (try rw [hji14] at A12)
     have hji14w : (IntKind.i64.wrap (x8_1 - 1)) = ji14 := (i64_w _).trans hji14
     by_cases c15 : 0 ≤ (ji14)
     rotate_left
     ·rw [if_neg c15] at H
      exact absurd H (by simp)
     rw [if_pos c15] at H
     have c15b0 : decide (0 ≤ (ji14)) = true := decide_eq_true c15
     clear c15
     by_cases c16 : (ji14) < (x5_1.length : Int)
     rotate_left
     ·rw [if_neg c16] at H
      exact absurd H (by simp)
     rw [if_pos c16] at H
     have c16b0 : decide ((ji14) < (x5_1.length : Int)) = true := decide_eq_true c16
     clear c16
     by_cases c17 : 0 ≤ x10_2
     rotate_left
     ·rw [if_neg c17] at H
      exact absurd H (by simp)
     rw [if_pos c17] at H
     have c17b0 : decide (0 ≤ x10_2) = true := decide_eq_true c17
     clear c17
     by_cases c18 : x10_2 < ((rdOf ByteArray.empty x5_1 (ji14)).size : Int)
     rotate_left
     ·rw [if_neg c18] at H
      exact absurd H (by simp)
     rw [if_pos c18] at H
     have c18b0 : decide (x10_2 < ((rdOf ByteArray.empty x5_1 (ji14)).size : Int)) = true := decide_eq_true c18
     clear c18
     by_cases c20 : (bt (rdOf ByteArray.empty x5_1 (ji14)) x10_2) = 63
     ·rw [if_pos c20] at H
      have c20b0 : ((bt (rdOf ByteArray.empty x5_1 (ji14)) x10_2) == 63) = true := beq_iff_eq.mpr c20
      have c20b1 : ((bt (rdOf ByteArray.empty x5_1 (ji14)) x10_2) != 63) = false := bne_eq_false_iff_eq.mpr c20
      clear c20
      obtain ⟨y253, hy253⟩ : ∃ y_ : List ByteArray, y_ = (([(⟨#[97]⟩ : ByteArray), (⟨#[98]⟩ : ByteArray), (⟨#[99]⟩ : ByteArray), (⟨#[97]⟩ : ByteArray), (⟨#[100]⟩ : ByteArray)] : List ByteArray)) := ⟨_, rfl⟩
      replace H : ((spec_l6Rd_of.f k2 s0_0 t251 y253).bind fun bt256 => (if x9_2.size + bt256.1.size ≤ 9223372036854775807 then (spec_l92Books.l1 k2 a1 x5_1 (wrap64 (1 + t235)) (wrap64 (1 + t237)) x8_1 (x9_2 ++ bt256.1) (wrap64 (x10_2 + 1)) s0_0 bt256.2) else (none))) = some (r1, r2) := by first | (rw [hy253]; with_reducible exact H) | (have H2_ := (Option.bind_some _ _).symm.trans H; rw [hy253]; with_reducible exact H2_) | (have H2_ := (Option.bind_some _ _).symm.trans H; with_reducible exact H2_) | with_reducible exact H | (rw [hy253]; exact H) | exact H
      have Ny253 := Aside0.mk hy253
      clear hy253
      replace H := Option.bind_eq_some_iff.mp H
      obtain ⟨⟨t256, t257⟩, A210, H⟩ := H
      replace H : (if x9_2.size + t256.size ≤ 9223372036854775807 then (spec_l92Books.l1 k2 a1 x5_1 (wrap64 (1 + t235)) (wrap64 (1 + t237)) x8_1 (x9_2 ++ t256) (wrap64 (x10_2 + 1)) s0_0 t257) else (none)) = some (r1, r2) := H
      have A21 := Aside0.mk A210
      clear A210
      by_cases c22 : x9_2.size + t256.size ≤ 9223372036854775807
      rotate_left
      ·rw [if_neg c22] at H
       exact absurd H (by simp)
      rw [if_pos c22] at H
      have c22b0 := eq_true c22
      have c22b1 : decide (x9_2.size + t256.size ≤ 9223372036854775807) = true := decide_eq_true c22
      try have c22b2 : (9223372036854775807 < x9_2.size + t256.size) = False := eq_false (Nat.not_lt.2 c22)
      have H' := Aside0.mk H
      clear H
      go_wp2_with (first | (go_at_call 81; (with_reducible refine (spec_l6Rd_pick.calls k2 g s0_0 x1001_2 3 t250 t251 w0 _ ?side1 ?side2 A12.out).mono ?_); (case side1 => repeat (first | (with_reducible first | exact HI0.out | apply IsS79.alloc | apply IsS79.drewN | apply IsS79.drew | apply IsS79.set_1) | exact HI0.out)); (case side2 => repeat (first | (with_reducible first | exact HB.out | apply below_alloc | apply pw_below_drewN | apply below_drew1 | refine below_set ?_ (IsS79.ge HI0.out)) | exact HB.out)); rintro e w23 ⟨rfl, hi, hb, hk⟩; have n0_ := Aside0.mk (Kd.R_mono (Kd.R_keep (IsS79.apart (show IsS79 w0 _ g s0_0 x1001_2 from by repeat (first | (with_reducible first | exact HI0.out | apply IsS79.alloc | apply IsS79.drewN | apply IsS79.drew | apply IsS79.set_1) | exact HI0.out)) (by (with_reducible repeat (first | apply Kd.R_alloc | apply Kd.R_drewN | apply Kd.R_drew)); exact HO_5.out) (by decide)) hk (fun _ h => h.2)) (fun _ h => h.1)); have n1_ := Aside0.mk (KeepBut.trans (by repeat (first | (with_reducible first | exact HK.out | apply KeepBut.set_ | apply keep_drewN | apply keep_drew | apply keep_alloc) | exact HK.out)) hk (.inl rfl)); have n2_ := Aside0.mk (hb); have n3_ := Aside0.mk (hi); clear HO_5; clear HK; clear HB; clear HI0; have HO_5 := n0_; have HK := n1_; have HB := n2_; have HI0 := n3_; clear n0_ n1_ n2_ n3_; (try clear hb); (try clear hb2); (try clear hk); (try clear hi); obtain ⟨Ao24, co24, eo24⟩ := Kd.R_slice HO_5.out; subst eo24; have p252 : 0 ≤ ((ji14) : Int) := of_decide_eq_true (by first | (with_reducible assumption) | assumption); have q252 : (ji14) < (x5_1.length : Int) := of_decide_eq_true (by first | (with_reducible assumption) | assumption); obtain ⟨ad252, e252, hx252_0⟩ := Kd.at_string (Kd.R_reads' HO_5.out).2.2 (ji14) p252 q252; cases e252; replace p252 := eq_true p252; replace q252 := eq_true q252; have p19 : 0 ≤ (x10_2 : Int) := of_decide_eq_true (by first | (with_reducible assumption) | assumption); have q19 : x10_2 < ((rdOf ByteArray.empty x5_1 (ji14)).size : Int) := of_decide_eq_true (by first | (with_reducible assumption) | assumption); have hx19 := bt_at (rdOf ByteArray.empty x5_1 (ji14)) x10_2; replace p19 := eq_true p19; replace q19 := eq_true q19) | ((with_reducible refine gate_dst (N := 58) rfl ?_); refine Kd.R_lit Kd.string _ 9 ?hg (N := 58) ?hd (xs := ([(⟨#[97]⟩ : ByteArray), (⟨#[98]⟩ : ByteArray), (⟨#[99]⟩ : ByteArray), (⟨#[97]⟩ : ByteArray), (⟨#[100]⟩ : ByteArray)] : List ByteArray)) (inner := [.string (⟨#[97]⟩ : ByteArray), .string (⟨#[98]⟩ : ByteArray), .string (⟨#[99]⟩ : ByteArray), .string (⟨#[97]⟩ : ByteArray), .string (⟨#[100]⟩ : ByteArray)]) (ok := fun _ => True) (okp := fun _ => True) ?hr ?hp (fun _ hk => hk) trivial (Below.refl _ _) (Nat.le_refl _) (by simp) ?_; (case hd => rfl); (case hg => rfl); (case hr => first | (go_simp; done) | (go_simp; rfl)); (case hp => exact (Reps.one (show Kd.M Kd.string _ _ _ (⟨#[97]⟩ : ByteArray) [.string (⟨#[97]⟩ : ByteArray)] from rfl) (Reps.one (show Kd.M Kd.string _ _ _ (⟨#[98]⟩ : ByteArray) [.string (⟨#[98]⟩ : ByteArray)] from rfl) (Reps.one (show Kd.M Kd.string _ _ _ (⟨#[99]⟩ : ByteArray) [.string (⟨#[99]⟩ : ByteArray)] from rfl) (Reps.one (show Kd.M Kd.string _ _ _ (⟨#[97]⟩ : ByteArray) [.string (⟨#[97]⟩ : ByteArray)] from rfl) (Reps.one (show Kd.M Kd.string _ _ _ (⟨#[100]⟩ : ByteArray) [.string (⟨#[100]⟩ : ByteArray)] from rfl) (Reps.none _ _))))))); intro v254 w25 ho26 hb hg_ hnew_; clear hg_ hnew_; (first | rw [← Ny253.out] at ho26 | (simp only [Int.reduceToNat] at ho26; rw [← Ny253.out] at ho26)); have n0_ := Aside0.mk (Kd.R_elder' (by (with_reducible repeat (first | apply Kd.R_alloc | apply Kd.R_drewN | apply Kd.R_drew)); exact HO_5.out) (Kd.R_base ho26) hb); have n1_ := Aside0.mk (Kd.R_lower (Kd.R_new' ho26 (Kd.R_lt (by (with_reducible repeat (first | apply Kd.R_alloc | apply Kd.R_drewN | apply Kd.R_drew)); exact HO_5.out))) (keep_size (w := w) (g := g) (row := none) (by repeat (first | (with_reducible first | exact HK.out | apply KeepBut.set_ | apply keep_drewN | apply keep_drew | apply keep_alloc) | exact HK.out)))); have n2_ := Aside0.mk (IsS79.below (by repeat (first | (with_reducible first | exact HI0.out | apply IsS79.alloc | apply IsS79.drewN | apply IsS79.drew | apply IsS79.set_1) | exact HI0.out)) hb); have n3_ := Aside0.mk (KeepBut.trans (by repeat (first | (with_reducible first | exact HK.out | apply KeepBut.set_ | apply keep_drewN | apply keep_drew | apply keep_alloc) | exact HK.out)) (KeepBut.of_below hb g none) (.inl rfl)); have n4_ := Aside0.mk (below_step (by repeat (first | (with_reducible first | exact HB.out | apply below_alloc | apply pw_below_drewN | apply below_drew1 | refine below_set ?_ (IsS79.ge HI0.out)) | exact HB.out)) hb); clear HO_5; clear HI0; clear HK; clear HB; have HO_5 := n0_; have HO255 := n1_; have HI0 := n2_; have HK := n3_; have HB := n4_; clear n0_ n1_ n2_ n3_ n4_; clear hb ho26; obtain ⟨Ao27, co27, eo27⟩ := Kd.R_slice HO255.out; subst eo27) | ((with_reducible refine gate_callee (f := 82) rfl ?_); refine goesL_ (some 59) rfl rfl Tryd.func82 (by kernel_rfl) rfl #[.pointer (some ⟨g, 0, none⟩), .slice Ao27 y253.length co27] rfl (by (try simp only [List.map_toArray, List.map_cons, List.map_nil]); first | done | rfl | (simp only [List.length_drop, List.length_take]; rfl)) ?_; (with_reducible refine (spec_l6Rd_of.calls k2 g s0_0 t251 _ _ y253 t256 t257 w0 _ ?side1 ?side2 ?side3 ?side4 ?side5 A21.out).mono ?_); (case side1 => repeat (first | (with_reducible first | exact HI0.out | apply IsS79.alloc | apply IsS79.drewN | apply IsS79.drew | apply IsS79.set_1) | exact HI0.out)); (case side2 => repeat (first | (with_reducible first | exact HB.out | apply below_alloc | apply pw_below_drewN | apply below_drew1 | refine below_set ?_ (IsS79.ge HI0.out)) | exact HB.out)); (case side3 => repeat (first | exact (Kd.R_reads' HO255.out).2.2 | (with_reducible refine Kd.C_alloc ?_ _) | (with_reducible refine Kd.C_drewN ?_ _) | (with_reducible refine Kd.C_drew ?_))); (case side4 => exact (Kd.R_reads' HO255.out).2.1); (case side5 => exact far_slice (IsS79.own_ne HI0.out HO255.out (by decide))); rintro e w28 ⟨rfl, hi, hb, hk⟩; refine ⟨_, rfl, ?_⟩; have n0_ := Aside0.mk (Kd.R_mono (Kd.R_keep (IsS79.apart (show IsS79 w0 _ g s0_0 t251 from by repeat (first | (with_reducible first | exact HI0.out | apply IsS79.alloc | apply IsS79.drewN | apply IsS79.drew | apply IsS79.set_1) | exact HI0.out)) (by (with_reducible repeat (first | apply Kd.R_alloc | apply Kd.R_drewN | apply Kd.R_drew)); exact HO_5.out) (by decide)) hk (fun _ h => h.2)) (fun _ h => h.1)); have n1_ := Aside0.mk (Kd.R_mono (Kd.R_keep (IsS79.apart (show IsS79 w0 _ g s0_0 t251 from by repeat (first | (with_reducible first | exact HI0.out | apply IsS79.alloc | apply IsS79.drewN | apply IsS79.drew | apply IsS79.set_1) | exact HI0.out)) (by (with_reducible repeat (first | apply Kd.R_alloc | apply Kd.R_drewN | apply Kd.R_drew)); exact HO255.out) (by decide)) hk (fun _ h => h.2)) (fun _ h => h.1)); have n2_ := Aside0.mk (KeepBut.trans (by repeat (first | (with_reducible first | exact HK.out | apply KeepBut.set_ | apply keep_drewN | apply keep_drew | apply keep_alloc) | exact HK.out)) hk (.inl rfl)); have n3_ := Aside0.mk (hb); have n4_ := Aside0.mk (hi); clear HO_5; clear HO255; clear HK; clear HB; clear HI0; have HO_5 := n0_; have HO255 := n1_; have HK := n2_; have HB := n3_; have HI0 := n4_; clear n0_ n1_ n2_ n3_ n4_; (try clear hb); (try clear hb2); (try clear hk); (try clear hi)))
      first | go_roundg k2 | ((try simp only [← hji72] at H' ⊢); (try simp only [← hji51] at H' ⊢); (try simp only [← hji14] at H' ⊢); go_roundg k2)
      case measure => have := HK1.out; have := HK2.out; omega
      case rel => exact ⟨(x9_2 ++ t256), (wrap64 (x10_2 + 1)), (t257), (by first | rfl | (simp; done) | (simp [*]; done)), (by first | rfl | (simp; done) | (simp [*]; done)), H', ⟨by have := HK1.out; have := HK2.out; omega⟩, ⟨by (with_reducible repeat (first | apply Kd.R_alloc | apply Kd.R_drewN | apply Kd.R_drew)); exact Kd.R_mono HO_5.out (fun _ hk => trivial)⟩, ⟨by repeat (first | (with_reducible first | exact HI0.out | apply IsS79.alloc | apply IsS79.drewN | apply IsS79.drew | apply IsS79.set_1) | exact HI0.out)⟩, ⟨by repeat (first | (with_reducible first | exact HK.out | apply KeepBut.set_ | apply keep_drewN | apply keep_drew | apply keep_alloc) | exact HK.out)⟩, ⟨by repeat (first | (with_reducible first | exact HB.out | apply below_alloc | apply pw_below_drewN | apply below_drew1 | refine below_set ?_ (IsS79.ge HI0.out)) | exact HB.out)⟩⟩
     rw [if_neg c20] at H
     have c20b0 : ((bt (rdOf ByteArray.empty x5_1 (ji14)) x10_2) == 63) = false := beq_eq_false_iff_ne.mpr c20
     have c20b1 : ((bt (rdOf ByteArray.empty x5_1 (ji14)) x10_2) != 63) = true := bne_iff_ne.mpr c20
     have c29b0 := eq_true (of_decide_eq_true (by first | (with_reducible assumption) | assumption) : 0 ≤ x10_2)
     by_cases c30 : x10_2 ≤ (wrap64 (x10_2 + 1))
     rotate_left
     ·rw [if_neg c30] at H
      exact absurd H (by simp)
     rw [if_pos c30] at H
     have c30b0 := eq_true c30
     have c30b1 : decide (x10_2 ≤ (wrap64 (x10_2 + 1))) = true := decide_eq_true c30
     by_cases c31 : (wrap64 (x10_2 + 1)) ≤ ((rdOf ByteArray.empty x5_1 (ji14)).size : Int)
     rotate_left
     ·rw [if_neg c31] at H
      exact absurd H (by simp)
     rw [if_pos c31] at H
     have c31b0 := eq_true c31
     have c31b1 : decide ((wrap64 (x10_2 + 1)) ≤ ((rdOf ByteArray.empty x5_1 (ji14)).size : Int)) = true := decide_eq_true c31
     by_cases c32 : x9_2.size + ((rdOf ByteArray.empty x5_1 (ji14)).extract (x10_2 : Int).toNat ((wrap64 (x10_2 + 1)) : Int).toNat).size ≤ 9223372036854775807
     rotate_left
     ·rw [if_neg c32] at H
      exact absurd H (by simp)
     rw [if_pos c32] at H
     have c32b0 := eq_true c32
     have c32b1 : decide (x9_2.size + ((rdOf ByteArray.empty x5_1 (ji14)).extract (x10_2 : Int).toNat ((wrap64 (x10_2 + 1)) : Int).toNat).size ≤ 9223372036854775807) = true := decide_eq_true c32
     try have c32b2 : (9223372036854775807 < x9_2.size + ((rdOf ByteArray.empty x5_1 (ji14)).extract (x10_2 : Int).toNat ((wrap64 (x10_2 + 1)) : Int).toNat).size) = False := eq_false (Nat.not_lt.2 c32)
     try have c32b2c := c32b2
     (try simp only [ByteArray.size_extract, Nat.min_self] at c32b2c)
     have H' := Aside0.mk H
     clear H
     go_wp2_with (first | (go_at_call 81; (with_reducible refine (spec_l6Rd_pick.calls k2 g s0_0 x1001_2 3 t250 t251 w0 _ ?side1 ?side2 A12.out).mono ?_); (case side1 => repeat (first | (with_reducible first | exact HI0.out | apply IsS79.alloc | apply IsS79.drewN | apply IsS79.drew | apply IsS79.set_1) | exact HI0.out)); (case side2 => repeat (first | (with_reducible first | exact HB.out | apply below_alloc | apply pw_below_drewN | apply below_drew1 | refine below_set ?_ (IsS79.ge HI0.out)) | exact HB.out)); rintro e w33 ⟨rfl, hi, hb, hk⟩; have n0_ := Aside0.mk (Kd.R_mono (Kd.R_keep (IsS79.apart (show IsS79 w0 _ g s0_0 x1001_2 from by repeat (first | (with_reducible first | exact HI0.out | apply IsS79.alloc | apply IsS79.drewN | apply IsS79.drew | apply IsS79.set_1) | exact HI0.out)) (by (with_reducible repeat (first | apply Kd.R_alloc | apply Kd.R_drewN | apply Kd.R_drew)); exact HO_5.out) (by decide)) hk (fun _ h => h.2)) (fun _ h => h.1)); have n1_ := Aside0.mk (KeepBut.trans (by repeat (first | (with_reducible first | exact HK.out | apply KeepBut.set_ | apply keep_drewN | apply keep_drew | apply keep_alloc) | exact HK.out)) hk (.inl rfl)); have n2_ := Aside0.mk (hb); have n3_ := Aside0.mk (hi); clear HO_5; clear HK; clear HB; clear HI0; have HO_5 := n0_; have HK := n1_; have HB := n2_; have HI0 := n3_; clear n0_ n1_ n2_ n3_; (try clear hb); (try clear hb2); (try clear hk); (try clear hi); obtain ⟨Ao34, co34, eo34⟩ := Kd.R_slice HO_5.out; subst eo34; have p252 : 0 ≤ ((ji14) : Int) := of_decide_eq_true (by first | (with_reducible assumption) | assumption); have q252 : (ji14) < (x5_1.length : Int) := of_decide_eq_true (by first | (with_reducible assumption) | assumption); obtain ⟨ad252, e252, hx252_0⟩ := Kd.at_string (Kd.R_reads' HO_5.out).2.2 (ji14) p252 q252; cases e252; replace p252 := eq_true p252; replace q252 := eq_true q252; have p19 : 0 ≤ (x10_2 : Int) := of_decide_eq_true (by first | (with_reducible assumption) | assumption); have q19 : x10_2 < ((rdOf ByteArray.empty x5_1 (ji14)).size : Int) := of_decide_eq_true (by first | (with_reducible assumption) | assumption); have hx19 := bt_at (rdOf ByteArray.empty x5_1 (ji14)) x10_2; replace p19 := eq_true p19; replace q19 := eq_true q19; have p258 : 0 ≤ ((ji14) : Int) := of_decide_eq_true (by first | (with_reducible assumption) | assumption); have q258 : (ji14) < (x5_1.length : Int) := of_decide_eq_true (by first | (with_reducible assumption) | assumption); obtain ⟨ad258, e258, hx258_0⟩ := Kd.at_string (Kd.R_reads' HO_5.out).2.2 (ji14) p258 q258; obtain rfl : ad252 = ad258 := (by injection e258); replace p258 := eq_true p258; replace q258 := eq_true q258))
     first | go_roundg k2 | ((try simp only [← hji72] at H' ⊢); (try simp only [← hji51] at H' ⊢); (try simp only [← hji14] at H' ⊢); go_roundg k2)
     case measure => have := HK1.out; have := HK2.out; omega
     case rel => exact ⟨(x9_2 ++ ((rdOf ByteArray.empty x5_1 (ji14)).extract (x10_2 : Int).toNat ((wrap64 (x10_2 + 1)) : Int).toNat)), (wrap64 (x10_2 + 1)), (t251), (by first | rfl | (simp; done) | (simp only [← hji14] <;> (first | rfl | simp)) | (simp [*]; done)), (by first | rfl | (simp; done) | (simp [*]; done)), H', ⟨by have := HK1.out; have := HK2.out; omega⟩, ⟨by (with_reducible repeat (first | apply Kd.R_alloc | apply Kd.R_drewN | apply Kd.R_drew)); exact HO_5.out⟩, ⟨by repeat (first | (with_reducible first | exact HI0.out | apply IsS79.alloc | apply IsS79.drewN | apply IsS79.drew | apply IsS79.set_1) | exact HI0.out)⟩, ⟨by repeat (first | (with_reducible first | exact HK.out | apply KeepBut.set_ | apply keep_drewN | apply keep_drew | apply keep_alloc) | exact HK.out)⟩, ⟨by repeat (first | (with_reducible first | exact HB.out | apply below_alloc | apply pw_below_drewN | apply below_drew1 | refine below_set ?_ (IsS79.ge HI0.out)) | exact HB.out)⟩⟩
end Go.Proofs.YtejoneninbdjbaaDoor.E
end
