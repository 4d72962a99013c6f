/- Texts of this claim, joined by a program of this session's (wip/tools/pack.py). -/
import Derived.Test.YtejoneninbdjbaaDoorRowFnExactStemFillK1
section
namespace Go.Proofs.YtejoneninbdjbaaDoor.E
open Go.RowKit Go.Proofs.YtejoneninbdjbaaDoorW.PrintWords Go.Proofs.YtejoneninbdjbaaDoorW.PrintLast Go.Proofs.YtejoneninbdjbaaDoorW.PrintMore
attribute [local go_sem] max2_int min2_int max_two min_two max_three min_three max_four min_four
set_option linter.unusedVariables false
set_option linter.unusedSimpArgs false
attribute [local go_sem] str_leq_ str_gtr_ str_geq_
mutual
def spec_StemFill.l0 : Nat → List ByteArray → List Int → List ByteArray → Int → Option (List ByteArray × Bool)
 | 0, _, _, _, _ => none
 | k + 1, x0, x1, x6, x7 => if x7 < (x0.length : Int) then (if x6.length < 8796093022208 then (spec_StemFill.l0 k x0 x1 (x6 ++ [(⟨#[]⟩ : ByteArray)]) (wrap64 (x7 + 1))) else (none)) else (spec_StemFill.l1 k x0 x1 x6 0)
def spec_StemFill.l1 : Nat → List ByteArray → List Int → List ByteArray → Int → Option (List ByteArray × Bool)
 | 0, _, _, _, _ => none
 | k + 1, x0, x1, x6, x8 => if 0 < (x0.length : Int) then (if x8 < ((rdOf ByteArray.empty x0 0).size : Int) then ((spec_l7Below.f k x0 x1 x8).bind fun t745 => (spec_StemFill.l2 k x0 x1 x6 x8 t745 0)) else (some (x6, true))) else (none)
def spec_StemFill.l2 : Nat → List ByteArray → List Int → List ByteArray → Int → List (List Int) → Int → Option (List ByteArray × Bool)
 | 0, _, _, _, _, _, _ => none
 | k + 1, x0, x1, x6, x8, x9, x10 => if x10 < (x0.length : Int) then (if x10 > 0 then (if 0 ≤ x10 then (if x10 < (x1.length : Int) then (if 0 ≤ (rd x1 x10) then (if (rd x1 x10) < (x6.length : Int) then (if 0 ≤ x8 then (if x8 < ((rdOf ByteArray.empty x6 (rd x1 x10)).size : Int) then (if x10 < (x9.length : Int) then ((spec_l7Letter.f k (rd_L4 x9 x10) (((bt (rdOf ByteArray.empty x6 (rd x1 x10)) x8) - 97) % 256)).bind fun t751 => (if x10 < (x6.length : Int) then (if 0 ≤ t751 then (if t751 ≤ (wrap64 (t751 + 1)) then (if (wrap64 (t751 + 1)) ≤ 4 then (if (rdOf ByteArray.empty x6 x10).size + ((⟨#[97, 98, 99, 100]⟩ : ByteArray).extract (t751 : Int).toNat ((wrap64 (t751 + 1)) : Int).toNat).size ≤ 9223372036854775807 then (spec_StemFill.l2 k x0 x1 (x6.set (x10 : Int).toNat ((rdOf ByteArray.empty x6 x10) ++ ((⟨#[97, 98, 99, 100]⟩ : ByteArray).extract (t751 : Int).toNat ((wrap64 (t751 + 1)) : Int).toNat))) x8 x9 (wrap64 (x10 + 1))) else (none)) else (none)) else (none)) else (none)) else (none))) else (none)) else (none)) else (none)) else (none)) else (none)) else (none)) else (none)) else (if 0 ≤ x10 then (if x10 < (x9.length : Int) then ((spec_l7Letter.f k (rd_L4 x9 x10) (-1)).bind fun t755 => (if x10 < (x6.length : Int) then (if 0 ≤ t755 then (if t755 ≤ (wrap64 (t755 + 1)) then (if (wrap64 (t755 + 1)) ≤ 4 then (if (rdOf ByteArray.empty x6 x10).size + ((⟨#[97, 98, 99, 100]⟩ : ByteArray).extract (t755 : Int).toNat ((wrap64 (t755 + 1)) : Int).toNat).size ≤ 9223372036854775807 then (spec_StemFill.l2 k x0 x1 (x6.set (x10 : Int).toNat ((rdOf ByteArray.empty x6 x10) ++ ((⟨#[97, 98, 99, 100]⟩ : ByteArray).extract (t755 : Int).toNat ((wrap64 (t755 + 1)) : Int).toNat))) x8 x9 (wrap64 (x10 + 1))) else (none)) else (none)) else (none)) else (none)) else (none))) else (none)) else (none))) else (spec_StemFill.l1 k x0 x1 x6 (wrap64 (x8 + 1)))
end
def spec_StemFill.f (k : Nat) (l0 : List ByteArray) (l1 : List Int) : Option (List ByteArray × Bool) := (some (([] : List ByteArray) : List ByteArray)).bind fun y737 => ((spec_StemValid.f k l0 l1).bind fun t740 => (if t740 = true then (spec_StemFill.l0 k l0 l1 y737 0) else (some (y737, false))))
def spec_StemFill.T19 : Bool × List (List Nat × List Nat) := (true, [([], []), ([], []), ([], []), ([], []), ([2, 3], [2, 3]), ([4], [4]), ([], []), ([], []), ([7], [7]), ([6, 8], [6, 8]), ([5, 9], [5, 9]), ([0, 1, 0, 1, 2, 3, 4, 5, 6, 7, 8, 9, 10], [0, 1]), ([11, 10, 0, 1, 2, 3, 4, 5, 6, 7, 8, 9, 10], [10, 11])])
def spec_StemFill.B19 : List Nat := [0, 0, 0, 0, 12, 28, 0, 0, 128, 448, 1020, 2047, 4095]
theorem spec_StemFill.tab19 : rtab .any (opsOf Tryd.f53 19) = spec_StemFill.T19 := by kernel_rfl
theorem spec_StemFill.bits19 : waitsOk spec_StemFill.T19.2 spec_StemFill.B19 = true := by kernel_rfl
set_option maxHeartbeats 8000000 in
set_option maxRecDepth 100000 in
theorem spec_StemFill.calls (k : Nat) (A0 : Option Addr) (c0 : Nat) (l0 : List ByteArray) (A1 : Option Addr) (c1 : Nat) (l1 : List Int) (r1 : List ByteArray) (r2 : Bool) (w : World) (hr0 : Kd.C Kd.string w A0 l0.length l0) (hc0 : l0.length ≤ c0) (hr1 : Kd.C (Kd.int .i64) w A1 l1.length l1) (hc1 : l1.length ≤ c1) (h : spec_StemFill.f k l0 l1 = some (r1, r2)) :
  Calls Tryd.prog 53 #[.slice A0 l0.length c0, .slice A1 l1.length c1] w fun e w' => ∃ v0_ : Value, e = .returned (.tuple #[v0_, .bool r2]) ∧ Kd.R Kd.string 9 w' w.heap.size (fun _ => True) v0_ r1 ∧ Below w.heap.size w w' := by
 have HR0 := Aside0.mk hr0
 have HC0 := Aside0.mk hc0
 clear hr0 hc0
 have HR1 := Aside0.mk hr1
 have HC1 := Aside0.mk hc1
 clear hr1 hc1
 have HB := Aside0.mk (Below.refl w.heap.size w)
 have H : ((some (([] : List ByteArray) : List ByteArray)).bind fun y737 => ((spec_StemValid.f k l0 l1).bind fun t740 => (if t740 = true then (spec_StemFill.l0 k l0 l1 y737 0) else (some (y737, false))))) = some (r1, r2) := h
 clear h
 obtain ⟨y737, hy737⟩ : ∃ y_ : List ByteArray, y_ = (([] : List ByteArray)) := ⟨_, rfl⟩
 replace H : ((spec_StemValid.f k l0 l1).bind fun t740 => (if t740 = true then (spec_StemFill.l0 k l0 l1 y737 0) else (some (y737, false)))) = some (r1, r2) := by first | (rw [hy737]; with_reducible exact H) | (have H2_ := (Option.bind_some _ _).symm.trans H; rw [hy737]; with_reducible exact H2_) | (have H2_ := (Option.bind_some _ _).symm.trans H; with_reducible exact H2_) | with_reducible exact H | (rw [hy737]; exact H) | exact H
 have Ny737 := Aside0.mk hy737
 clear hy737
 replace H := Option.bind_eq_some_iff.mp H
 obtain ⟨t740, A30, H⟩ := H
 replace H : (if t740 = true then (spec_StemFill.l0 k l0 l1 y737 0) else (some (y737, false))) = some (r1, r2) := H
 have A3 := Aside0.mk A30
 clear A30
 by_cases c4 : t740 = true
 rotate_left
 ·replace c4 := Bool.eq_false_iff.mpr c4
  subst c4
  have H1 : (some (y737, false)) = some (r1, r2) := by rw [if_neg (show ¬ (false = true) by decide)] at H; exact H
  clear H
  have H := H1
  clear H1
  simp only [Option.some.injEq, Prod.mk.injEq] at H
  obtain ⟨rfl, rfl⟩ := H
  go_enter Tryd.func53, Tryd.ntmps53
  go_wp2_with (first | ((with_reducible refine gate_dst (N := 13) rfl ?_); refine Kd.R_lit Kd.string _ 9 ?hg (N := 13) ?hd (xs := ([] : List ByteArray)) (inner := []) (ok := fun _ => True) (okp := fun _ => True) ?hr ?hp (fun _ hk => hk) trivial (Below.refl _ _) (Nat.le_refl _) (by simp) ?_; (case hd => rfl); (case hg => rfl); (case hr => first | (go_simp; done) | (go_simp; rfl)); (case hp => exact (Reps.none _ _)); intro v738 w48 ho49 hb hg_ hnew_; clear hg_ hnew_; (first | rw [← Ny737.out] at ho49 | (simp only [Int.reduceToNat] at ho49; rw [← Ny737.out] at ho49)); have n0_ := Aside0.mk (Kd.R_lower ho49 (below_size (by repeat (first | (with_reducible first | exact HB.out | apply below_alloc | apply pw_below_drewN | apply below_drew1) | exact HB.out)))); have n1_ := Aside0.mk (below_step (by repeat (first | (with_reducible first | exact HB.out | apply below_alloc | apply pw_below_drewN | apply below_drew1) | exact HB.out)) hb); clear HB; have HO739 := n0_; have HB := n1_; clear n0_ n1_; clear hb ho49) | ((with_reducible refine gate_callee (f := 28) rfl ?_); refine goesL_ (some 16) rfl rfl Tryd.func28 (by kernel_rfl) rfl #[.slice A0 l0.length c0, .slice A1 l1.length c1] rfl (by (try simp only [List.map_toArray, List.map_cons, List.map_nil]); first | done | rfl | (simp only [List.length_drop, List.length_take]; rfl)) ?_; (with_reducible refine (spec_StemValid.calls k _ _ l0 _ _ l1 false _ ?side1 ?side2 ?side3 ?side4 A3.out).mono ?_); (case side1 => repeat (first | exact (Kd.C_below HR0.out HB.out) | (with_reducible refine Kd.C_alloc ?_ _) | (with_reducible refine Kd.C_drewN ?_ _) | (with_reducible refine Kd.C_drew ?_))); (case side2 => exact HC0.out); (case side3 => repeat (first | exact (Kd.C_below HR1.out HB.out) | (with_reducible refine Kd.C_alloc ?_ _) | (with_reducible refine Kd.C_drewN ?_ _) | (with_reducible refine Kd.C_drew ?_))); (case side4 => exact HC1.out); rintro e w' ⟨rfl, ⟨nd, rfl⟩⟩; refine ⟨_, rfl, ?_⟩))
  go_ret2
  exact ⟨_, by first | rfl | (simp [errW_none, errW_some] <;> rfl) | (simp [*, errW_none, errW_some] <;> rfl), by (with_reducible repeat (first | apply Kd.R_alloc | apply Kd.R_drewN | apply Kd.R_drew)); exact HO739.out, by repeat (first | (with_reducible first | exact HB.out | apply below_alloc | apply pw_below_drewN | apply below_drew1) | exact HB.out)⟩
 subst c4
 have H1 : (spec_StemFill.l0 k l0 l1 y737 0) = some (r1, r2) := by rw [if_pos rfl] at H; exact H
 clear H
 have H := H1
 clear H1
 have H' := Aside0.mk H
 clear H
 go_enter Tryd.func53, Tryd.ntmps53
 go_wp2_with (first | ((with_reducible refine gate_dst (N := 13) rfl ?_); refine Kd.R_lit Kd.string _ 9 ?hg (N := 13) ?hd (xs := ([] : List ByteArray)) (inner := []) (ok := fun _ => True) (okp := fun _ => True) ?hr ?hp (fun _ hk => hk) trivial (Below.refl _ _) (Nat.le_refl _) (by simp) ?_; (case hd => rfl); (case hg => rfl); (case hr => first | (go_simp; done) | (go_simp; rfl)); (case hp => exact (Reps.none _ _)); intro v738 w5 ho6 hb hg_ hnew_; clear hg_ hnew_; (first | rw [← Ny737.out] at ho6 | (simp only [Int.reduceToNat] at ho6; rw [← Ny737.out] at ho6)); have n0_ := Aside0.mk (Kd.R_lower ho6 (below_size (by repeat (first | (with_reducible first | exact HB.out | apply below_alloc | apply pw_below_drewN | apply below_drew1) | exact HB.out)))); have n1_ := Aside0.mk (below_step (by repeat (first | (with_reducible first | exact HB.out | apply below_alloc | apply pw_below_drewN | apply below_drew1) | exact HB.out)) hb); clear HB; have HO739 := n0_; have HB := n1_; clear n0_ n1_; clear hb ho6) | ((with_reducible refine gate_callee (f := 28) rfl ?_); refine goesL_ (some 16) rfl rfl Tryd.func28 (by kernel_rfl) rfl #[.slice A0 l0.length c0, .slice A1 l1.length c1] rfl (by (try simp only [List.map_toArray, List.map_cons, List.map_nil]); first | done | rfl | (simp only [List.length_drop, List.length_take]; rfl)) ?_; (with_reducible refine (spec_StemValid.calls k _ _ l0 _ _ l1 true _ ?side1 ?side2 ?side3 ?side4 A3.out).mono ?_); (case side1 => repeat (first | exact (Kd.C_below HR0.out HB.out) | (with_reducible refine Kd.C_alloc ?_ _) | (with_reducible refine Kd.C_drewN ?_ _) | (with_reducible refine Kd.C_drew ?_))); (case side2 => exact HC0.out); (case side3 => repeat (first | exact (Kd.C_below HR1.out HB.out) | (with_reducible refine Kd.C_alloc ?_ _) | (with_reducible refine Kd.C_drewN ?_ _) | (with_reducible refine Kd.C_drew ?_))); (case side4 => exact HC1.out); rintro e w' ⟨rfl, ⟨nd, rfl⟩⟩; refine ⟨_, rfl, ?_⟩))
 go_loopg [6, 7] k (fun kq v6 v7 w' => ∃ (x6_1 : List ByteArray) (x7_1 : Int), v7 = .int .i64 x7_1 ∧ Aside0 (spec_StemFill.l0 kq l0 l1 x6_1 x7_1 = some (r1, r2)) ∧ Aside0 (kq ≤ k) ∧ Aside0 (Kd.R Kd.string 9 w' w.heap.size (fun _ => True) v6 x6_1) ∧ Aside0 (Below w.heap.size w w'))
 case atStart => exact ⟨(y737), (0), (by first | rfl | (simp; done) | (simp [*]; done)), H', ⟨Nat.le_refl _⟩, ⟨by (with_reducible repeat (first | apply Kd.R_alloc | apply Kd.R_drewN | apply Kd.R_drew)); exact HO739.out⟩, ⟨by repeat (first | (with_reducible first | exact HB.out | apply below_alloc | apply pw_below_drewN | apply below_drew1) | exact HB.out)⟩⟩
 case round =>
  clear H'
  try clear c1
  try clear c2
  try clear p2
  try clear c4
  try clear c5
  obtain ⟨x6_1, x7_1, rfl, HA, HK1, HO_6, HB⟩ := hrel
  cases gk with
  | zero => exact absurd HA.out (by simp [spec_StemFill.l0])
  | succ k1 =>
   have H := HA.out
   clear HA
   simp only [spec_StemFill.l0] at H
   by_cases c7 : x7_1 < (l0.length : Int)
   ·rw [if_pos c7] at H
    have c7b0 : decide (x7_1 < (l0.length : Int)) = true := decide_eq_true c7
    clear c7
    by_cases c8 : x6_1.length < 8796093022208
    rotate_left
    ·rw [if_neg c8] at H
     exact absurd H (by simp)
    rw [if_pos c8] at H
    have LMc8 := Aside0.mk c8
    clear c8
    obtain ⟨y741, hy741⟩ : ∃ y_ : List ByteArray, y_ = (x6_1 ++ [(⟨#[]⟩ : ByteArray)]) := ⟨_, rfl⟩
    replace H : (spec_StemFill.l0 k1 l0 l1 y741 (wrap64 (x7_1 + 1))) = some (r1, r2) := by first | (rw [hy741]; with_reducible exact H) | (have H2_ := (Option.bind_some _ _).symm.trans H; rw [hy741]; with_reducible exact H2_) | (have H2_ := (Option.bind_some _ _).symm.trans H; with_reducible exact H2_) | with_reducible exact H | (rw [hy741]; exact H) | exact H
    have Ny741 := Aside0.mk hy741
    clear hy741
    have H' := Aside0.mk H
    clear H
    go_wp2_with (first | ((with_reducible refine gate_builtin (b := .append) (xs := #[.tmp 25, .tmp 26]) rfl ?_); at_builtin; refine Kd.R_append Kd.string (w0 := w) w.heap.size rfl (.tmp 25) (.tmp 26) 22 9 (.string ⟨#[]⟩) 16 rfl Tryd.underlying22 info9 rfl (by decide) (by omega) u6 x6_1 (⟨#[]⟩ : ByteArray) [.string (⟨#[]⟩ : ByteArray)] (fun _ => True) (fun _ => False) rfl rfl ?aP (fun _ hk => hk.elim) ?aF ?aO ?aB ?aS ?aL ?_; (case aP => exact rfl); (case aB => exact (by repeat (first | (with_reducible first | exact HB.out | apply below_alloc | apply pw_below_drewN | apply below_drew1) | exact HB.out))); (case aF => exact (fun _ _ => trivial)); (case aO => exact (by (with_reducible repeat (first | apply Kd.R_alloc | apply Kd.R_drewN | apply Kd.R_drew)); exact HO_6.out)); (case aS => exact (below_size (by repeat (first | (with_reducible first | exact HB.out | apply below_alloc | apply pw_below_drewN | apply below_drew1) | exact HB.out)))); (case aL => have := LMc8.out; omega); intro v742 w9 ho hb hg hat; rw [← Ny741.out] at ho; have n0_ := Aside0.mk (hb); have n1_ := Aside0.mk (ho); clear HB; clear HO_6; have HB := n0_; have HO743 := n1_; clear n0_ n1_; clear ho hb hg hat))
    go_roundg k1
    case measure => have := HK1.out; omega
    case rel => exact ⟨(y741), (wrap64 (x7_1 + 1)), (by first | rfl | (simp; done) | (simp [*]; done)), H', ⟨by have := HK1.out; omega⟩, ⟨by (with_reducible repeat (first | apply Kd.R_alloc | apply Kd.R_drewN | apply Kd.R_drew)); exact HO743.out⟩, ⟨by repeat (first | (with_reducible first | exact HB.out | apply below_alloc | apply pw_below_drewN | apply below_drew1) | exact HB.out)⟩⟩
   rw [if_neg c7] at H
   have c7b0 : decide (x7_1 < (l0.length : Int)) = false := decide_eq_false c7
   clear c7
   have H' := Aside0.mk H
   clear H
   go_wp2
   go_loopg [8] k1 (fun kq v8 w' => ∃ (x6_2 : List ByteArray) (x8_2 : Int), v8 = .int .i64 x8_2 ∧ Aside0 (spec_StemFill.l1 kq l0 l1 x6_2 x8_2 = some (r1, r2)) ∧ Aside0 (kq ≤ k1) ∧ Aside0 (Kd.R Kd.string 9 w' w.heap.size (fun _ => True) u6 x6_2) ∧ Aside0 (Below w.heap.size w w'))
   case atStart => exact ⟨(x6_1), (0), (by first | rfl | (simp; done) | (simp [*]; done)), H', ⟨Nat.le_refl _⟩, ⟨by (with_reducible repeat (first | apply Kd.R_alloc | apply Kd.R_drewN | apply Kd.R_drew)); exact HO_6.out⟩, ⟨by repeat (first | (with_reducible first | exact HB.out | apply below_alloc | apply pw_below_drewN | apply below_drew1) | exact HB.out)⟩⟩
   case round =>
    clear H'
    try clear c1
    try clear c2
    try clear p2
    try clear c4
    try clear c5
    try clear p6
    try clear c7
    try clear c7b0
    try clear c8
    try clear p2
    obtain ⟨x6_2, x8_2, rfl, HA, HK2, HO_6, HB⟩ := hrel
    cases gk with
    | zero => exact absurd HA.out (by simp [spec_StemFill.l1])
    | succ k2 =>
     have H := HA.out
     clear HA
     simp only [spec_StemFill.l1] at H
     by_cases c10 : 0 < (l0.length : Int)
     rotate_left
     ·rw [if_neg c10] at H
      exact absurd H (by simp)
     rw [if_pos c10] at H
     have c10b0 : decide (0 < (l0.length : Int)) = true := decide_eq_true c10
     have c10b1 : decide (0 < l0.length) = true := decide_eq_true (by omega)
     clear c10
     by_cases c11 : x8_2 < ((rdOf ByteArray.empty l0 0).size : Int)
     rotate_left
     ·rw [if_neg c11] at H
      have c11b0 : decide (x8_2 < ((rdOf ByteArray.empty l0 0).size : Int)) = false := decide_eq_false c11
      clear c11
      simp only [Option.some.injEq, Prod.mk.injEq] at H
      obtain ⟨rfl, rfl⟩ := H
      have p744 : 0 ≤ (0 : Int) := (by omega)
      have q744 : 0 < (l0.length : Int) := of_decide_eq_true (by first | (with_reducible assumption) | assumption)
      obtain ⟨ad744, e744, hx744_0⟩ := Kd.at_string HR0.out 0 p744 q744
      cases e744
      have qi744 : (0 < l0.length) = True := eq_true (by omega)
      (try rw [show ((0 : Int)).toNat = 0 from rfl] at hx744_0)
      (try rw [Addr.add_zero'] at hx744_0)
      replace hx744_0 := (HB.out.cell (World.block_lt_of_cell? w _ hx744_0)).trans hx744_0
      replace p744 := eq_true p744
      replace q744 := eq_true q744
      go_wp2
      go_ret2
      exact ⟨_, by first | rfl | (simp [errW_none, errW_some] <;> rfl) | (simp [*, errW_none, errW_some] <;> rfl), by (with_reducible repeat (first | apply Kd.R_alloc | apply Kd.R_drewN | apply Kd.R_drew)); exact HO_6.out, by repeat (first | (with_reducible first | exact HB.out | apply below_alloc | apply pw_below_drewN | apply below_drew1) | exact HB.out)⟩
     rw [if_pos c11] at H
     have c11b0 : decide (x8_2 < ((rdOf ByteArray.empty l0 0).size : Int)) = true := decide_eq_true c11
     clear c11
     replace H := Option.bind_eq_some_iff.mp H
     obtain ⟨t745, A120, H⟩ := H
     replace H : (spec_StemFill.l2 k2 l0 l1 x6_2 x8_2 t745 0) = some (r1, r2) := H
     have A12 := Aside0.mk A120
     clear A120
     have H' := Aside0.mk H
     clear H
     have p744 : 0 ≤ (0 : Int) := (by omega)
     have q744 : 0 < (l0.length : Int) := of_decide_eq_true (by first | (with_reducible assumption) | assumption)
     obtain ⟨ad744, e744, hx744_0⟩ := Kd.at_string HR0.out 0 p744 q744
     cases e744
     have qi744 : (0 < l0.length) = True := eq_true (by omega)
     (try rw [show ((0 : Int)).toNat = 0 from rfl] at hx744_0)
     (try rw [Addr.add_zero'] at hx744_0)
     replace hx744_0 := (HB.out.cell (World.block_lt_of_cell? w _ hx744_0)).trans hx744_0
     replace p744 := eq_true p744
     replace q744 := eq_true q744
     go_wp2_with (first | ((with_reducible refine gate_callee (f := 73) rfl ?_); refine goesL_ (some 39) rfl rfl Tryd.func73 (by kernel_rfl) rfl #[.slice (some ad744) l0.length c0, .slice A1 l1.length c1, .int .i64 x8_2] rfl (by (try simp only [List.map_toArray, List.map_cons, List.map_nil]); first | done | rfl | (simp only [List.length_drop, List.length_take]; rfl)) ?_; (with_reducible refine (spec_l7Below.calls k2 _ _ l0 _ _ l1 x8_2 t745 _ ?side1 ?side2 ?side3 ?side4 A12.out).mono ?_); (case side1 => repeat (first | exact (Kd.C_below HR0.out HB.out) | (with_reducible refine Kd.C_alloc ?_ _) | (with_reducible refine Kd.C_drewN ?_ _) | (with_reducible refine Kd.C_drew ?_))); (case side2 => exact HC0.out); (case side3 => repeat (first | exact (Kd.C_below HR1.out HB.out) | (with_reducible refine Kd.C_alloc ?_ _) | (with_reducible refine Kd.C_drewN ?_ _) | (with_reducible refine Kd.C_drew ?_))); (case side4 => exact HC1.out); rintro e w13 ⟨v746, rfl, ho0, hb⟩; refine ⟨_, rfl, ?_⟩; have n0_ := Aside0.mk (Kd.R_below (by (with_reducible repeat (first | apply Kd.R_alloc | apply Kd.R_drewN | apply Kd.R_drew)); exact HO_6.out) hb); have n1_ := Aside0.mk (Kd.S_lower ho0 (below_size (by repeat (first | (with_reducible first | exact HB.out | apply below_alloc | apply pw_below_drewN | apply below_drew1) | exact HB.out)))); have n2_ := Aside0.mk (below_step (by repeat (first | (with_reducible first | exact HB.out | apply below_alloc | apply pw_below_drewN | apply below_drew1) | exact HB.out)) hb); clear HO_6; clear HB; have HO_6 := n0_; have HO747 := n1_; have HB := n2_; clear n0_ n1_ n2_; (try clear hb); (try clear hb2); (try clear hk); (try clear hi); (try clear ho0)))
     go_loopg [10] k2 (fun kq v10 w' => ∃ (x6_3 : List ByteArray) (x10_3 : Int), v10 = .int .i64 x10_3 ∧ Aside0 (spec_StemFill.l2 kq l0 l1 x6_3 x8_2 t745 x10_3 = some (r1, r2)) ∧ Aside0 (kq ≤ k2) ∧ Aside0 (Kd.R Kd.string 9 w' w.heap.size (fun _ => True) u6 x6_3) ∧ Aside0 (Kd.S (Kd.slice 3 (Kd.int .i64)) 29 w' w.heap.size (fun _ => True) v746 t745) ∧ Aside0 (Below w.heap.size w w'))
     case atStart => exact ⟨(x6_2), (0), (by first | rfl | (simp; done) | (simp [*]; done)), H', ⟨Nat.le_refl _⟩, ⟨by (with_reducible repeat (first | apply Kd.R_alloc | apply Kd.R_drewN | apply Kd.R_drew)); exact HO_6.out⟩, ⟨by (with_reducible repeat (first | apply Kd.S_alloc | apply Kd.S_drewN | apply Kd.S_drew)); exact HO747.out⟩, ⟨by repeat (first | (with_reducible first | exact HB.out | apply below_alloc | apply pw_below_drewN | apply below_drew1) | exact HB.out)⟩⟩
     case round =>
      clear H'
      try clear c1
      try clear c2
      try clear p2
      try clear c4
      try clear c5
      try clear p6
      try clear c7
      try clear c7b0
      try clear p7
      try clear q7
      try clear hx7
      try clear qi7
      try clear c8
      try clear c10
      try clear c10b0
      try clear c10b1
      try clear c11
      try clear c11b0
      try clear hx744_0
      try clear p2
      try clear p6
      try clear p744
      try clear q744
      obtain ⟨x6_3, x10_3, rfl, HA, HK3, HO_6, HO_9, HB⟩ := hrel
      cases gk with
      | zero => exact absurd HA.out (by simp [spec_StemFill.l2])
      | succ k3 =>
       have H := HA.out
       clear HA
       simp only [spec_StemFill.l2] at H
       by_cases c14 : x10_3 < (l0.length : Int)
       rotate_left
       ·rw [if_neg c14] at H
        have c14b0 : decide (x10_3 < (l0.length : Int)) = false := decide_eq_false c14
        clear c14
        have H' := Aside0.mk H
        clear H
        go_wp2
        go_roundg k3
        case measure => have := HK1.out; have := HK2.out; have := HK3.out; omega
        case rel => exact ⟨(x6_3), (wrap64 (x8_2 + 1)), (by first | rfl | (simp; done) | (simp [*]; done)), H', ⟨by have := HK1.out; have := HK2.out; have := HK3.out; omega⟩, ⟨by (with_reducible repeat (first | apply Kd.R_alloc | apply Kd.R_drewN | apply Kd.R_drew)); exact HO_6.out⟩, ⟨by repeat (first | (with_reducible first | exact HB.out | apply below_alloc | apply pw_below_drewN | apply below_drew1) | exact HB.out)⟩⟩
       rw [if_pos c14] at H
       have c14b0 : decide (x10_3 < (l0.length : Int)) = true := decide_eq_true c14
       clear c14
       by_cases c15 : x10_3 > 0
       rotate_left
       ·rw [if_neg c15] at H
        have c15b0 : decide (0 < x10_3) = false := decide_eq_false c15
        clear c15
        by_cases c35 : 0 ≤ x10_3
        rotate_left
        ·rw [if_neg c35] at H
         exact absurd H (by simp)
        rw [if_pos c35] at H
        have c35b0 : decide (0 ≤ x10_3) = true := decide_eq_true c35
        clear c35
        by_cases c36 : x10_3 < (t745.length : Int)
        rotate_left
        ·rw [if_neg c36] at H
         exact absurd H (by simp)
        rw [if_pos c36] at H
        have c36b0 : decide (x10_3 < (t745.length : Int)) = true := decide_eq_true c36
        clear c36
        replace H := Option.bind_eq_some_iff.mp H
        obtain ⟨t755, A370, H⟩ := H
        replace H : (if x10_3 < (x6_3.length : Int) then (if 0 ≤ t755 then (if t755 ≤ (wrap64 (t755 + 1)) then (if (wrap64 (t755 + 1)) ≤ 4 then (if (rdOf ByteArray.empty x6_3 x10_3).size + ((⟨#[97, 98, 99, 100]⟩ : ByteArray).extract (t755 : Int).toNat ((wrap64 (t755 + 1)) : Int).toNat).size ≤ 9223372036854775807 then (spec_StemFill.l2 k3 l0 l1 (x6_3.set (x10_3 : Int).toNat ((rdOf ByteArray.empty x6_3 x10_3) ++ ((⟨#[97, 98, 99, 100]⟩ : ByteArray).extract (t755 : Int).toNat ((wrap64 (t755 + 1)) : Int).toNat))) x8_2 t745 (wrap64 (x10_3 + 1))) else (none)) else (none)) else (none)) else (none)) else (none)) = some (r1, r2) := H
        have A37 := Aside0.mk A370
        clear A370
        by_cases c38 : x10_3 < (x6_3.length : Int)
        rotate_left
        ·rw [if_neg c38] at H
         exact absurd H (by simp)
        rw [if_pos c38] at H
        have c38b0 : decide (x10_3 < (x6_3.length : Int)) = true := decide_eq_true c38
        clear c38
        by_cases c39 : 0 ≤ t755
        rotate_left
        ·rw [if_neg c39] at H
         exact absurd H (by simp)
        rw [if_pos c39] at H
        have c39b0 := eq_true c39
        have c39b1 : decide (0 ≤ t755) = true := decide_eq_true c39
        clear c39
        by_cases c40 : t755 ≤ (wrap64 (t755 + 1))
        rotate_left
        ·rw [if_neg c40] at H
         exact absurd H (by simp)
        rw [if_pos c40] at H
        have c40b0 := eq_true c40
        have c40b1 : decide (t755 ≤ (wrap64 (t755 + 1))) = true := decide_eq_true c40
        by_cases c41 : (wrap64 (t755 + 1)) ≤ 4
        rotate_left
        ·rw [if_neg c41] at H
         exact absurd H (by simp)
        rw [if_pos c41] at H
        have c41b0 := eq_true c41
        have c41b1 : decide ((wrap64 (t755 + 1)) ≤ 4) = true := decide_eq_true c41
        by_cases c42 : (rdOf ByteArray.empty x6_3 x10_3).size + ((⟨#[97, 98, 99, 100]⟩ : ByteArray).extract (t755 : Int).toNat ((wrap64 (t755 + 1)) : Int).toNat).size ≤ 9223372036854775807
        rotate_left
        ·rw [if_neg c42] at H
         exact absurd H (by simp)
        rw [if_pos c42] at H
        have c42b0 := eq_true c42
        have c42b1 : decide ((rdOf ByteArray.empty x6_3 x10_3).size + ((⟨#[97, 98, 99, 100]⟩ : ByteArray).extract (t755 : Int).toNat ((wrap64 (t755 + 1)) : Int).toNat).size ≤ 9223372036854775807) = true := decide_eq_true c42
        try have c42b2 : (9223372036854775807 < (rdOf ByteArray.empty x6_3 x10_3).size + ((⟨#[97, 98, 99, 100]⟩ : ByteArray).extract (t755 : Int).toNat ((wrap64 (t755 + 1)) : Int).toNat).size) = False := eq_false (Nat.not_lt.2 c42)
        try have c42b2c := c42b2
        (try simp only [ByteArray.size_extract, Nat.min_self] at c42b2c)
        try have c42b2d : (9223372036854775807 < (rdOf ByteArray.empty x6_3 x10_3).size + ((wrap64 (t755 + 1)).toNat - (t755).toNat)) = False := eq_false (by have h1_ : (wrap64 (t755 + 1)) ≤ 4 := of_decide_eq_true (by assumption); have h0_ : 0 ≤ t755 := of_decide_eq_true (by assumption); have h_ := c42; simp only [ByteArray.size_extract] at h_; rw [show (⟨#[97, 98, 99, 100]⟩ : ByteArray).size = 4 from rfl] at h_; omega)
        obtain ⟨y757, hy757⟩ : ∃ y_ : List ByteArray, y_ = (x6_3.set (x10_3 : Int).toNat ((rdOf ByteArray.empty x6_3 x10_3) ++ ((⟨#[97, 98, 99, 100]⟩ : ByteArray).extract (t755 : Int).toNat ((wrap64 (t755 + 1)) : Int).toNat))) := ⟨_, rfl⟩
        replace H : (spec_StemFill.l2 k3 l0 l1 y757 x8_2 t745 (wrap64 (x10_3 + 1))) = some (r1, r2) := by first | (rw [hy757]; with_reducible exact H) | (have H2_ := (Option.bind_some _ _).symm.trans H; rw [hy757]; with_reducible exact H2_) | (have H2_ := (Option.bind_some _ _).symm.trans H; with_reducible exact H2_) | with_reducible exact H | (rw [hy757]; exact H) | exact H
        have Ny757 := Aside0.mk hy757
        clear hy757
        have H' := Aside0.mk H
        clear H
        obtain ⟨Ao44, co44, eo44⟩ := Kd.S_slice HO_9.out
        subst eo44
        have p754 : 0 ≤ (x10_3 : Int) := of_decide_eq_true (by first | (with_reducible assumption) | assumption)
        have q754 : x10_3 < (t745.length : Int) := of_decide_eq_true (by first | (with_reducible assumption) | assumption)
        obtain ⟨ad754, A754_0, c754_0, e754, hx754_0, hl754_0, hi754_0⟩ := at_L4 (Kd.S_reads' HO_9.out).2.2 x10_3 p754 q754
        cases e754
        obtain ⟨ce754, hce754, hMe754, hcc754⟩ := Kd.S_get HO_9.out [] x10_3 p754 (by first | exact q754 | exact of_decide_eq_true (by first | (with_reducible assumption) | assumption) | (have e_ := (Kd.S_reads' HO_9.out).1; omega))
        obtain ⟨ve754_0, rfl, ge754_0⟩ := hMe754
        have hv754_0 := hcc754 0 _ rfl
        rw [Nat.add_zero, show ((Kd.slice 3 (Kd.int .i64))).sz = 1 from rfl, Nat.mul_one] at hv754_0
        replace hv754_0 := Option.some.inj (hv754_0.symm.trans hx754_0)
        rw [hv754_0] at ge754_0
        have HL754_0 := Aside0.mk (show Kd.R (Kd.int .i64) 3 _ _ _ _ (rd_L4 t745 x10_3) from ge754_0)
        clear hv754_0 ge754_0
        clear hcc754 hce754
        have HR754_0 := Aside0.mk hi754_0
        have HC754_0 := Aside0.mk hl754_0
        clear hi754_0 hl754_0
        replace p754 := eq_true p754
        replace q754 := eq_true q754
        try go_wp2_with (first | ((with_reducible refine gate_callee (f := 74) rfl ?_); refine goesL_ (some 64) rfl rfl Tryd.func74 (by kernel_rfl) rfl #[.slice A754_0 (rd_L4 t745 x10_3).length c754_0, .int .i64 (-1)] rfl (by (try simp only [List.map_toArray, List.map_cons, List.map_nil]); first | done | rfl | (simp only [List.length_drop, List.length_take]; rfl)) ?_; (with_reducible refine (spec_l7Letter.calls k3 _ _ (rd_L4 t745 x10_3) (-1) t755 _ ?side1 ?side2 A37.out).mono ?_); (case side1 => repeat (first | exact (by repeat (first | (with_reducible exact HR754_0.out) | (with_reducible refine Kd.C_alloc ?_ _) | (with_reducible refine Kd.C_drewN ?_ _) | (with_reducible refine Kd.C_drew ?_) | exact HR754_0.out)) | (with_reducible refine Kd.C_alloc ?_ _) | (with_reducible refine Kd.C_drewN ?_ _) | (with_reducible refine Kd.C_drew ?_))); (case side2 => exact HC754_0.out); rintro e w' ⟨rfl, ⟨nd, rfl⟩⟩; refine ⟨_, rfl, ?_⟩; (try (rw [drewN_self wr]; generalize hq_ : World.drewN wr _ = wr; have n0_ : Aside0 (Kd.R (Kd.int .i64) 3 wr w.heap.size (fun k_ => some k_ ≠ (.slice (some ad754) t745.length co44 : Value).ownBlock) (.slice A754_0 (rd_L4 t745 x10_3).length c754_0) (rd_L4 t745 x10_3)) := ⟨by rw [← hq_]; exact (by (with_reducible repeat (first | apply Kd.R_alloc | apply Kd.R_drewN | apply Kd.R_drew)); exact Kd.R_mono HL754_0.out (fun _ hk => hk.2))⟩; have n1_ : Aside0 (Kd.R Kd.string 9 wr w.heap.size (fun _ => True) u6 x6_3) := ⟨by rw [← hq_]; exact (by (with_reducible repeat (first | apply Kd.R_alloc | apply Kd.R_drewN | apply Kd.R_drew)); exact HO_6.out)⟩; have n2_ : Aside0 (Kd.S (Kd.slice 3 (Kd.int .i64)) 29 wr w.heap.size (fun _ => True) (.slice (some ad754) t745.length co44) t745) := ⟨by rw [← hq_]; exact (by (with_reducible repeat (first | apply Kd.S_alloc | apply Kd.S_drewN | apply Kd.S_drew)); exact HO_9.out)⟩; have n3_ : Aside0 (Below w.heap.size w wr) := ⟨by rw [← hq_]; exact (by repeat (first | (with_reducible first | exact HB.out | apply below_alloc | apply pw_below_drewN | apply below_drew1) | exact HB.out))⟩; have n4_ : Aside0 (Kd.C (Kd.int .i64) wr A754_0 (rd_L4 t745 x10_3).length (rd_L4 t745 x10_3)) := ⟨by rw [← hq_]; exact (by repeat (first | (with_reducible exact HR754_0.out) | (with_reducible refine Kd.C_alloc ?_ _) | (with_reducible refine Kd.C_drewN ?_ _) | (with_reducible refine Kd.C_drew ?_) | exact HR754_0.out))⟩; clear HL754_0 HO_6 HO_9 HB HR754_0 hq_; have HL754_0 := n0_; have HO_6 := n1_; have HO_9 := n2_; have HB := n3_; have HR754_0 := n4_; clear n0_ n1_ n2_ n3_ n4_))))
        have n0_ := Aside0.mk (Kd.R_drew HO_6.out)
        have n1_ := Aside0.mk (Kd.S_drew HO_9.out)
        have n2_ := Aside0.mk (Kd.R_drew HL754_0.out)
        have n3_ := Aside0.mk (Kd.C_drew HR754_0.out)
        have n4_ := Aside0.mk (below_drew1 HB.out)
        clear HO_6
        clear HO_9
        clear HL754_0
        clear HR754_0
        clear HB
        have HO_6 := n0_
        have HO_9 := n1_
        have HL754_0 := n2_
        have HR754_0 := n3_
        have HB := n4_
        clear n0_ n1_ n2_ n3_ n4_
        obtain ⟨Ao46, co46, eo46⟩ := Kd.R_slice HO_6.out
        (first | subst eo46 | (injection eo46 with f1_ f2_ f3_; have f4_ := f1_.symm; have f5_ := f3_.symm; clear f1_ f2_ f3_; subst f4_; subst f5_))
        have p756 : 0 ≤ (x10_3 : Int) := of_decide_eq_true (by first | (with_reducible assumption) | assumption)
        have q756 : x10_3 < (x6_3.length : Int) := of_decide_eq_true (by first | (with_reducible assumption) | assumption)
        obtain ⟨ad756, e756, hx756_0⟩ := Kd.at_string (Kd.R_reads' HO_6.out).2.2 x10_3 p756 q756
        cases e756
        replace p756 := eq_true p756
        replace q756 := eq_true q756
        have p43 : 0 ≤ (x10_3 : Int) := of_decide_eq_true (by first | (with_reducible assumption) | assumption)
        have q43 : (x10_3 : Int) < ((x6_3.length : Int) : Int) := of_decide_eq_true (by first | (with_reducible assumption) | assumption)
        obtain ⟨go43, co43, eo43, gb43, gl43, cl43, HG43⟩ := Kd.R_form HO_6.out (by omega)
        (first | cases eo43 | (injection eo43 with ea_ en_ ec_; (first | subst ea_ | (injection ea_ with ea_; subst ea_)); subst ec_; clear en_))
        have GB43 := Aside0.mk gb43
        have GG43 := Aside0.mk HG43
        clear gb43 gl43 HG43
        (first | simp only [add_plain] at hx756_0 | skip)
        obtain ⟨hx43_0, hf43_0⟩ := Kd.R_celln (⟨#[]⟩ : ByteArray) HO_6.out (x10_3 : Int) p43 q43
        replace p43 := eq_true p43
        replace q43 := eq_true q43
        have HP47 := Kd.R_putn HO_6.out (x10_3 : Int) ((rdOf ByteArray.empty x6_3 x10_3) ++ ((⟨#[97, 98, 99, 100]⟩ : ByteArray).extract (t755 : Int).toNat ((wrap64 (t755 + 1)) : Int).toNat))
        rw [← Ny757.out] at HP47
        have HQ47 := Aside0.mk HP47
        clear HP47
        refine start_ (n := 13) (S := fun w' => w'.cell? ⟨go43, (x10_3).toNat, none⟩ = some (.string (rdOf ByteArray.empty x6_3 x10_3))) (ds := [12]) #[false, false, false, false, false, false, false, false, false, false, false, false, false] (by kernel_rfl) rfl rfl (hx756_0) (fun hHeld => ?_); refine with_tabW spec_StemFill.tab19 spec_StemFill.bits19 (fun HT_ HW_ => ?_)
        generalize wr.drew = w45 at HO_6 HO_9 HL754_0 HR754_0 HB GG43 HQ47 hf43_0 hx43_0 hx756_0 hHeld ⊢
        refine pure_ (i := 0) (N := some 65) (v := ?_) (a' := ?_) #[true, false, false, false, false, false, false, false, false, false, false, false, false] rfl rfl (any_of HT_.out (by kernel_rfl)) (fun _ _ _ h => h) (Or.inl ⟨by rfl, ?_⟩) ?_ ?_
        rotate_left
        ·intro w'
         go_simp
         with_reducible rfl
        rotate_left
        ·simp only [Act.put, List.setIfInBounds_toArray, List.set_cons_zero, List.set_cons_succ, i64_w, i32_w]
         rfl
        refine pure_ (i := 1) (N := some 66) (v := ?_) (a' := ?_) #[true, true, false, false, false, false, false, false, false, false, false, false, false] rfl rfl (any_of HT_.out (by kernel_rfl)) (fun _ _ _ h => h) (Or.inl ⟨by rfl, ?_⟩) ?_ ?_
        rotate_left
        ·intro w'
         go_simp
         with_reducible rfl
        rotate_left
        ·simp only [Act.put, List.setIfInBounds_toArray, List.set_cons_zero, List.set_cons_succ, i64_w, i32_w]
         rfl
        refine pure_ (i := 2) (N := some 67) (v := ?_) (a' := ?_) #[true, true, true, false, false, false, false, false, false, false, false, false, false] rfl rfl (any_of HT_.out (by kernel_rfl)) (fun _ _ _ h => h) (Or.inl ⟨by rfl, ?_⟩) ?_ ?_
        rotate_left
        ·intro w'
         go_simp
         with_reducible rfl
        rotate_left
        ·simp only [Act.put, List.setIfInBounds_toArray, List.set_cons_zero, List.set_cons_succ, i64_w, i32_w]
         rfl
        refine pure_ (i := 3) (N := some 68) (v := ?_) (a' := ?_) #[true, true, true, true, false, false, false, false, false, false, false, false, false] rfl rfl (any_of HT_.out (by kernel_rfl)) (fun _ _ _ h => h) (Or.inl ⟨by rfl, ?_⟩) ?_ ?_
        rotate_left
        ·intro w'
         go_simp
         with_reducible rfl
        rotate_left
        ·simp only [Act.put, List.setIfInBounds_toArray, List.set_cons_zero, List.set_cons_succ, i64_w, i32_w]
         rfl
        refine pure_ (i := 4) (N := some 69) (v := ?_) (a' := ?_) #[true, true, true, true, true, false, false, false, false, false, false, false, false] rfl rfl (any_of HT_.out (by kernel_rfl)) (fun _ _ _ h => h) (Or.inl ⟨by rfl, ?_⟩) ?_ ?_
        rotate_left
        ·intro w'
         go_simp
         with_reducible rfl
        rotate_left
        ·simp only [Act.put, List.setIfInBounds_toArray, List.set_cons_zero, List.set_cons_succ, i64_w, i32_w]
         rfl
        refine pure_ (i := 6) (N := some 71) (v := ?_) (a' := ?_) #[true, true, true, true, true, false, true, false, false, false, false, false, false] rfl rfl (any_of HT_.out (by kernel_rfl)) (fun _ _ _ h => h) (Or.inl ⟨by rfl, ?_⟩) ?_ ?_
        rotate_left
        ·intro w'
         go_simp
         with_reducible rfl
        rotate_left
        ·simp only [Act.put, List.setIfInBounds_toArray, List.set_cons_zero, List.set_cons_succ, i64_w, i32_w]
         rfl
        refine pure_ (i := 7) (N := some 72) (v := ?_) (a' := ?_) #[true, true, true, true, true, false, true, true, false, false, false, false, false] rfl rfl (any_of HT_.out (by kernel_rfl)) (fun _ _ _ h => h) (Or.inl ⟨by rfl, ?_⟩) ?_ ?_
        rotate_left
        ·intro w'
         go_simp
         with_reducible rfl
        rotate_left
        ·simp only [Act.put, List.setIfInBounds_toArray, List.set_cons_zero, List.set_cons_succ, i64_w, i32_w]
         rfl
        refine pure_ (i := 8) (N := some 73) (v := ?_) (a' := ?_) #[true, true, true, true, true, false, true, true, true, false, false, false, false] rfl rfl (any_of HT_.out (by kernel_rfl)) (fun _ _ _ h => h) (Or.inl ⟨by rfl, ?_⟩) ?_ ?_
        rotate_left
        ·intro w'
         go_simp
         with_reducible rfl
        rotate_left
        ·simp only [Act.put, List.setIfInBounds_toArray, List.set_cons_zero, List.set_cons_succ, i64_w, i32_w]
         rfl
        refine pure_ (i := 9) (N := some 74) (v := ?_) (a' := ?_) #[true, true, true, true, true, false, true, true, true, true, false, false, false] rfl rfl (any_of HT_.out (by kernel_rfl)) (fun _ _ _ h => h) (Or.inl ⟨by rfl, ?_⟩) ?_ ?_
        rotate_left
        ·intro w'
         go_simp
         with_reducible rfl
        rotate_left
        ·simp only [Act.put, List.setIfInBounds_toArray, List.set_cons_zero, List.set_cons_succ, i64_w, i32_w]
         rfl
        refine take_ (i := 5) (N := some 70) (v := ?_) (a' := ?_) #[true, true, true, true, true, true, true, true, true, true, false, false, false] rfl rfl (take_ofW HT_.out HW_.out (by kernel_rfl)) (fun _ _ _ h => h) (Or.inl ⟨by rfl, ?_⟩) hHeld ?_ ?_
        rotate_left
        ·intro w' s0
         go_simp
         with_reducible rfl
        rotate_left
        ·simp only [Act.put, List.setIfInBounds_toArray, List.set_cons_zero, List.set_cons_succ, i64_w, i32_w]
         rfl
        refine pure_ (i := 10) (N := some 75) (v := ?_) (a' := ?_) #[true, true, true, true, true, true, true, true, true, true, true, false, false] rfl rfl (any_of HT_.out (by kernel_rfl)) (fun _ _ _ h => h) (Or.inl ⟨by rfl, ?_⟩) ?_ ?_
        rotate_left
        ·intro w'
         go_simp
         with_reducible rfl
        rotate_left
        ·simp only [Act.put, List.setIfInBounds_toArray, List.set_cons_zero, List.set_cons_succ, i64_w, i32_w]
         rfl
        refine pure_ (i := 11) (N := some 76) (v := ?_) (a' := ?_) #[true, true, true, true, true, true, true, true, true, true, true, true, false] rfl rfl (any_of HT_.out (by kernel_rfl)) (fun _ _ _ h => h) (Or.inl ⟨by rfl, ?_⟩) ?_ ?_
        rotate_left
        ·intro w'
         go_simp
         with_reducible rfl
        rotate_left
        ·simp only [Act.put, List.setIfInBounds_toArray, List.set_cons_zero, List.set_cons_succ, i64_w, i32_w]
         rfl
        refine last_ (i := 12) (N := none) #[true, true, true, true, true, true, true, true, true, true, true, true, true] rfl rfl (one_of HT_.out (by kernel_rfl)) (by decide) (fun K hK => ?_)
        refine skip_ (w1 := ?_) (by rfl) rfl ?_ ?_
        rotate_left
        ·go_simp
         rfl
        refine hK.out _ _ ?_
        clear hK K
        refine done_ (done_of HT_.out (by kernel_rfl)) ?_
        try go_wp2
        go_roundg k3
        case measure => have := HK1.out; have := HK2.out; have := HK3.out; omega
        case rel => exact ⟨(y757), (wrap64 (x10_3 + 1)), (by first | rfl | (simp; done) | (simp [*]; done)), H', ⟨by have := HK1.out; have := HK2.out; have := HK3.out; omega⟩, ⟨by (with_reducible repeat (first | apply Kd.R_alloc | apply Kd.R_drewN | apply Kd.R_drew)); exact HQ47.out⟩, ⟨by (with_reducible repeat (first | apply Kd.S_alloc | apply Kd.S_drewN | apply Kd.S_drew)); exact Kd.S_mono (Kd.S_far (p := ⟨go43, (x10_3 : Int).toNat, none⟩) (Kd.S_types HO_9.out GG43.out (by decide)) (fun _ hk => hk.2) (.string ((rdOf ByteArray.empty x6_3 x10_3) ++ ((⟨#[97, 98, 99, 100]⟩ : ByteArray).extract (t755 : Int).toNat ((wrap64 (t755 + 1)) : Int).toNat)))) (fun _ hk => trivial)⟩, ⟨by repeat (first | (with_reducible first | exact HB.out | apply below_alloc | apply pw_below_drewN | apply below_drew1 | refine below_set ?_ GB43.out) | exact HB.out)⟩⟩
       rw [if_pos c15] at H
       have c15b0 : decide (0 < x10_3) = true := decide_eq_true c15
       clear c15
       by_cases c16 : 0 ≤ x10_3
       rotate_left
       ·rw [if_neg c16] at H
        exact absurd H (by simp)
       rw [if_pos c16] at H
       have c16b0 : decide (0 ≤ x10_3) = true := decide_eq_true c16
       clear c16
       by_cases c17 : x10_3 < (l1.length : Int)
       rotate_left
       ·rw [if_neg c17] at H
        exact absurd H (by simp)
       rw [if_pos c17] at H
       have c17b0 : decide (x10_3 < (l1.length : Int)) = true := decide_eq_true c17
       clear c17
       by_cases c18 : 0 ≤ (rd l1 x10_3)
       rotate_left
       ·rw [if_neg c18] at H
        exact absurd H (by simp)
       rw [if_pos c18] at H
       have c18b0 : decide (0 ≤ (rd l1 x10_3)) = true := decide_eq_true c18
       clear c18
       by_cases c19 : (rd l1 x10_3) < (x6_3.length : Int)
       rotate_left
       ·rw [if_neg c19] at H
        exact absurd H (by simp)
       rw [if_pos c19] at H
       have c19b0 : decide ((rd l1 x10_3) < (x6_3.length : Int)) = true := decide_eq_true c19
       clear c19
       by_cases c20 : 0 ≤ x8_2
       rotate_left
       ·rw [if_neg c20] at H
        exact absurd H (by simp)
       rw [if_pos c20] at H
       have c20b0 : decide (0 ≤ x8_2) = true := decide_eq_true c20
       clear c20
       by_cases c21 : x8_2 < ((rdOf ByteArray.empty x6_3 (rd l1 x10_3)).size : Int)
       rotate_left
       ·rw [if_neg c21] at H
        exact absurd H (by simp)
       rw [if_pos c21] at H
       have c21b0 : decide (x8_2 < ((rdOf ByteArray.empty x6_3 (rd l1 x10_3)).size : Int)) = true := decide_eq_true c21
       clear c21
       by_cases c23 : x10_3 < (t745.length : Int)
       rotate_left
       ·rw [if_neg c23] at H
        exact absurd H (by simp)
       rw [if_pos c23] at H
       have c23b0 : decide (x10_3 < (t745.length : Int)) = true := decide_eq_true c23
       clear c23
       replace H := Option.bind_eq_some_iff.mp H
       obtain ⟨t751, A240, H⟩ := H
       replace H : (if x10_3 < (x6_3.length : Int) then (if 0 ≤ t751 then (if t751 ≤ (wrap64 (t751 + 1)) then (if (wrap64 (t751 + 1)) ≤ 4 then (if (rdOf ByteArray.empty x6_3 x10_3).size + ((⟨#[97, 98, 99, 100]⟩ : ByteArray).extract (t751 : Int).toNat ((wrap64 (t751 + 1)) : Int).toNat).size ≤ 9223372036854775807 then (spec_StemFill.l2 k3 l0 l1 (x6_3.set (x10_3 : Int).toNat ((rdOf ByteArray.empty x6_3 x10_3) ++ ((⟨#[97, 98, 99, 100]⟩ : ByteArray).extract (t751 : Int).toNat ((wrap64 (t751 + 1)) : Int).toNat))) x8_2 t745 (wrap64 (x10_3 + 1))) else (none)) else (none)) else (none)) else (none)) else (none)) = some (r1, r2) := H
       have A24 := Aside0.mk A240
       clear A240
       by_cases c25 : x10_3 < (x6_3.length : Int)
       rotate_left
       ·rw [if_neg c25] at H
        exact absurd H (by simp)
       rw [if_pos c25] at H
       have c25b0 : decide (x10_3 < (x6_3.length : Int)) = true := decide_eq_true c25
       clear c25
       by_cases c26 : 0 ≤ t751
       rotate_left
       ·rw [if_neg c26] at H
        exact absurd H (by simp)
       rw [if_pos c26] at H
       have c26b0 := eq_true c26
       have c26b1 : decide (0 ≤ t751) = true := decide_eq_true c26
       clear c26
       by_cases c27 : t751 ≤ (wrap64 (t751 + 1))
       rotate_left
       ·rw [if_neg c27] at H
        exact absurd H (by simp)
       rw [if_pos c27] at H
       have c27b0 := eq_true c27
       have c27b1 : decide (t751 ≤ (wrap64 (t751 + 1))) = true := decide_eq_true c27
       by_cases c28 : (wrap64 (t751 + 1)) ≤ 4
       rotate_left
       ·rw [if_neg c28] at H
        exact absurd H (by simp)
       rw [if_pos c28] at H
       have c28b0 := eq_true c28
       have c28b1 : decide ((wrap64 (t751 + 1)) ≤ 4) = true := decide_eq_true c28
       by_cases c29 : (rdOf ByteArray.empty x6_3 x10_3).size + ((⟨#[97, 98, 99, 100]⟩ : ByteArray).extract (t751 : Int).toNat ((wrap64 (t751 + 1)) : Int).toNat).size ≤ 9223372036854775807
       rotate_left
       ·rw [if_neg c29] at H
        exact absurd H (by simp)
       rw [if_pos c29] at H
       have c29b0 := eq_true c29
       have c29b1 : decide ((rdOf ByteArray.empty x6_3 x10_3).size + ((⟨#[97, 98, 99, 100]⟩ : ByteArray).extract (t751 : Int).toNat ((wrap64 (t751 + 1)) : Int).toNat).size ≤ 9223372036854775807) = true := decide_eq_true c29
       try have c29b2 : (9223372036854775807 < (rdOf ByteArray.empty x6_3 x10_3).size + ((⟨#[97, 98, 99, 100]⟩ : ByteArray).extract (t751 : Int).toNat ((wrap64 (t751 + 1)) : Int).toNat).size) = False := eq_false (Nat.not_lt.2 c29)
       try have c29b2c := c29b2
       (try simp only [ByteArray.size_extract, Nat.min_self] at c29b2c)
       try have c29b2d : (9223372036854775807 < (rdOf ByteArray.empty x6_3 x10_3).size + ((wrap64 (t751 + 1)).toNat - (t751).toNat)) = False := eq_false (by have h1_ : (wrap64 (t751 + 1)) ≤ 4 := of_decide_eq_true (by assumption); have h0_ : 0 ≤ t751 := of_decide_eq_true (by assumption); have h_ := c29; simp only [ByteArray.size_extract] at h_; rw [show (⟨#[97, 98, 99, 100]⟩ : ByteArray).size = 4 from rfl] at h_; omega)
       obtain ⟨y753, hy753⟩ : ∃ y_ : List ByteArray, y_ = (x6_3.set (x10_3 : Int).toNat ((rdOf ByteArray.empty x6_3 x10_3) ++ ((⟨#[97, 98, 99, 100]⟩ : ByteArray).extract (t751 : Int).toNat ((wrap64 (t751 + 1)) : Int).toNat))) := ⟨_, rfl⟩
       replace H : (spec_StemFill.l2 k3 l0 l1 y753 x8_2 t745 (wrap64 (x10_3 + 1))) = some (r1, r2) := by first | (rw [hy753]; with_reducible exact H) | (have H2_ := (Option.bind_some _ _).symm.trans H; rw [hy753]; with_reducible exact H2_) | (have H2_ := (Option.bind_some _ _).symm.trans H; with_reducible exact H2_) | with_reducible exact H | (rw [hy753]; exact H) | exact H
       have Ny753 := Aside0.mk hy753
       clear hy753
       have H' := Aside0.mk H
       clear H
       have p748 : 0 ≤ (x10_3 : Int) := of_decide_eq_true (by first | (with_reducible assumption) | assumption)
       have q748 : x10_3 < (l1.length : Int) := of_decide_eq_true (by first | (with_reducible assumption) | assumption)
       obtain ⟨ad748, e748, hx748_0⟩ := Kd.at_int HR1.out x10_3 p748 q748
       cases e748
       replace hx748_0 := (HB.out.cell (World.block_lt_of_cell? w _ hx748_0)).trans hx748_0
       replace p748 := eq_true p748
       replace q748 := eq_true q748
       obtain ⟨Ao31, co31, eo31⟩ := Kd.R_slice HO_6.out
       subst eo31
       have p749 : 0 ≤ ((rd l1 x10_3) : Int) := of_decide_eq_true (by first | (with_reducible assumption) | assumption)
       have q749 : (rd l1 x10_3) < (x6_3.length : Int) := of_decide_eq_true (by first | (with_reducible assumption) | assumption)
       obtain ⟨ad749, e749, hx749_0⟩ := Kd.at_string (Kd.R_reads' HO_6.out).2.2 (rd l1 x10_3) p749 q749
       cases e749
       replace p749 := eq_true p749
       replace q749 := eq_true q749
       have p22 : 0 ≤ (x8_2 : Int) := of_decide_eq_true (by first | (with_reducible assumption) | assumption)
       have q22 : x8_2 < ((rdOf ByteArray.empty x6_3 (rd l1 x10_3)).size : Int) := of_decide_eq_true (by first | (with_reducible assumption) | assumption)
       have hx22 := bt_at (rdOf ByteArray.empty x6_3 (rd l1 x10_3)) x8_2
       replace p22 := eq_true p22
       replace q22 := eq_true q22
       obtain ⟨Ao32, co32, eo32⟩ := Kd.S_slice HO_9.out
       subst eo32
       have p750 : 0 ≤ (x10_3 : Int) := of_decide_eq_true (by first | (with_reducible assumption) | assumption)
       have q750 : x10_3 < (t745.length : Int) := of_decide_eq_true (by first | (with_reducible assumption) | assumption)
       obtain ⟨ad750, A750_0, c750_0, e750, hx750_0, hl750_0, hi750_0⟩ := at_L4 (Kd.S_reads' HO_9.out).2.2 x10_3 p750 q750
       cases e750
       obtain ⟨ce750, hce750, hMe750, hcc750⟩ := Kd.S_get HO_9.out [] x10_3 p750 (by first | exact q750 | exact of_decide_eq_true (by first | (with_reducible assumption) | assumption) | (have e_ := (Kd.S_reads' HO_9.out).1; omega))
       obtain ⟨ve750_0, rfl, ge750_0⟩ := hMe750
       have hv750_0 := hcc750 0 _ rfl
       rw [Nat.add_zero, show ((Kd.slice 3 (Kd.int .i64))).sz = 1 from rfl, Nat.mul_one] at hv750_0
       replace hv750_0 := Option.some.inj (hv750_0.symm.trans hx750_0)
       rw [hv750_0] at ge750_0
       have HL750_0 := Aside0.mk (show Kd.R (Kd.int .i64) 3 _ _ _ _ (rd_L4 t745 x10_3) from ge750_0)
       clear hv750_0 ge750_0
       clear hcc750 hce750
       have HR750_0 := Aside0.mk hi750_0
       have HC750_0 := Aside0.mk hl750_0
       clear hi750_0 hl750_0
       replace p750 := eq_true p750
       replace q750 := eq_true q750
       try go_wp2_with (first | ((with_reducible refine gate_callee (f := 74) rfl ?_); refine goesL_ (some 64) rfl rfl Tryd.func74 (by kernel_rfl) rfl #[.slice A750_0 (rd_L4 t745 x10_3).length c750_0, .int .i64 (((bt (rdOf ByteArray.empty x6_3 (rd l1 x10_3)) x8_2) - 97) % 256)] rfl (by (try simp only [List.map_toArray, List.map_cons, List.map_nil]); first | done | rfl | (simp only [List.length_drop, List.length_take]; rfl)) ?_; (with_reducible refine (spec_l7Letter.calls k3 _ _ (rd_L4 t745 x10_3) (((bt (rdOf ByteArray.empty x6_3 (rd l1 x10_3)) x8_2) - 97) % 256) t751 _ ?side1 ?side2 A24.out).mono ?_); (case side1 => repeat (first | exact (by repeat (first | (with_reducible exact HR750_0.out) | (with_reducible refine Kd.C_alloc ?_ _) | (with_reducible refine Kd.C_drewN ?_ _) | (with_reducible refine Kd.C_drew ?_) | exact HR750_0.out)) | (with_reducible refine Kd.C_alloc ?_ _) | (with_reducible refine Kd.C_drewN ?_ _) | (with_reducible refine Kd.C_drew ?_))); (case side2 => exact HC750_0.out); rintro e w' ⟨rfl, ⟨nd, rfl⟩⟩; refine ⟨_, rfl, ?_⟩; (try (rw [drewN_self wr]; generalize hq_ : World.drewN wr _ = wr; have n0_ : Aside0 (Kd.R (Kd.int .i64) 3 wr w.heap.size (fun k_ => some k_ ≠ (.slice (some ad750) t745.length co32 : Value).ownBlock) (.slice A750_0 (rd_L4 t745 x10_3).length c750_0) (rd_L4 t745 x10_3)) := ⟨by rw [← hq_]; exact (by (with_reducible repeat (first | apply Kd.R_alloc | apply Kd.R_drewN | apply Kd.R_drew)); exact Kd.R_mono HL750_0.out (fun _ hk => hk.2))⟩; have n1_ : Aside0 (Kd.R Kd.string 9 wr w.heap.size (fun _ => True) (.slice (some ad749) x6_3.length co31) x6_3) := ⟨by rw [← hq_]; exact (by (with_reducible repeat (first | apply Kd.R_alloc | apply Kd.R_drewN | apply Kd.R_drew)); exact HO_6.out)⟩; have n2_ : Aside0 (Kd.S (Kd.slice 3 (Kd.int .i64)) 29 wr w.heap.size (fun _ => True) (.slice (some ad750) t745.length co32) t745) := ⟨by rw [← hq_]; exact (by (with_reducible repeat (first | apply Kd.S_alloc | apply Kd.S_drewN | apply Kd.S_drew)); exact HO_9.out)⟩; have n3_ : Aside0 (Below w.heap.size w wr) := ⟨by rw [← hq_]; exact (by repeat (first | (with_reducible first | exact HB.out | apply below_alloc | apply pw_below_drewN | apply below_drew1) | exact HB.out))⟩; have n4_ : Aside0 (Kd.C (Kd.int .i64) wr A750_0 (rd_L4 t745 x10_3).length (rd_L4 t745 x10_3)) := ⟨by rw [← hq_]; exact (by repeat (first | (with_reducible exact HR750_0.out) | (with_reducible refine Kd.C_alloc ?_ _) | (with_reducible refine Kd.C_drewN ?_ _) | (with_reducible refine Kd.C_drew ?_) | exact HR750_0.out))⟩; clear HL750_0 HO_6 HO_9 HB HR750_0 hq_; have HL750_0 := n0_; have HO_6 := n1_; have HO_9 := n2_; have HB := n3_; have HR750_0 := n4_; clear n0_ n1_ n2_ n3_ n4_))))
       have n0_ := Aside0.mk (Kd.R_drew HO_6.out)
       have n1_ := Aside0.mk (Kd.S_drew HO_9.out)
       have n2_ := Aside0.mk (Kd.R_drew HL750_0.out)
       have n3_ := Aside0.mk (Kd.C_drew HR750_0.out)
       have n4_ := Aside0.mk (below_drew1 HB.out)
       clear HO_6
       clear HO_9
       clear HL750_0
       clear HR750_0
       clear HB
       have HO_6 := n0_
       have HO_9 := n1_
       have HL750_0 := n2_
       have HR750_0 := n3_
       have HB := n4_
       clear n0_ n1_ n2_ n3_ n4_
       have p752 : 0 ≤ (x10_3 : Int) := of_decide_eq_true (by first | (with_reducible assumption) | assumption)
       have q752 : x10_3 < (x6_3.length : Int) := of_decide_eq_true (by first | (with_reducible assumption) | assumption)
       obtain ⟨ad752, e752, hx752_0⟩ := Kd.at_string (Kd.R_reads' HO_6.out).2.2 x10_3 p752 q752
       obtain rfl : ad749 = ad752 := (by injection e752)
       replace p752 := eq_true p752
       replace q752 := eq_true q752
       have p30 : 0 ≤ (x10_3 : Int) := of_decide_eq_true (by first | (with_reducible assumption) | assumption)
       have q30 : (x10_3 : Int) < ((x6_3.length : Int) : Int) := of_decide_eq_true (by first | (with_reducible assumption) | assumption)
       obtain ⟨go30, co30, eo30, gb30, gl30, cl30, HG30⟩ := Kd.R_form HO_6.out (by omega)
       (first | cases eo30 | (injection eo30 with ea_ en_ ec_; (first | subst ea_ | (injection ea_ with ea_; subst ea_)); subst ec_; clear en_))
       have GB30 := Aside0.mk gb30
       have GG30 := Aside0.mk HG30
       clear gb30 gl30 HG30
       (first | simp only [add_plain] at hx749_0 | skip)
       (first | simp only [add_plain] at hx752_0 | skip)
       obtain ⟨hx30_0, hf30_0⟩ := Kd.R_celln (⟨#[]⟩ : ByteArray) HO_6.out (x10_3 : Int) p30 q30
       replace p30 := eq_true p30
       replace q30 := eq_true q30
       have HP34 := Kd.R_putn HO_6.out (x10_3 : Int) ((rdOf ByteArray.empty x6_3 x10_3) ++ ((⟨#[97, 98, 99, 100]⟩ : ByteArray).extract (t751 : Int).toNat ((wrap64 (t751 + 1)) : Int).toNat))
       rw [← Ny753.out] at HP34
       have HQ34 := Aside0.mk HP34
       clear HP34
       refine start_ (n := 13) (S := fun w' => w'.cell? ⟨go30, (x10_3).toNat, none⟩ = some (.string (rdOf ByteArray.empty x6_3 x10_3))) (ds := [12]) #[false, false, false, false, false, false, false, false, false, false, false, false, false] (by kernel_rfl) rfl rfl (hx752_0) (fun hHeld => ?_); refine with_tabW spec_StemFill.tab19 spec_StemFill.bits19 (fun HT_ HW_ => ?_)
       generalize wr.drew = w33 at HO_6 HO_9 HL750_0 HR750_0 HB GG30 HQ34 hf30_0 hx30_0 hx749_0 hx752_0 hHeld ⊢
       refine pure_ (i := 0) (N := some 65) (v := ?_) (a' := ?_) #[true, false, false, false, false, false, false, false, false, false, false, false, false] rfl rfl (any_of HT_.out (by kernel_rfl)) (fun _ _ _ h => h) (Or.inl ⟨by rfl, ?_⟩) ?_ ?_
       rotate_left
       ·intro w'
        go_simp
        with_reducible rfl
       rotate_left
       ·simp only [Act.put, List.setIfInBounds_toArray, List.set_cons_zero, List.set_cons_succ, i64_w, i32_w]
        rfl
       refine pure_ (i := 1) (N := some 66) (v := ?_) (a' := ?_) #[true, true, false, false, false, false, false, false, false, false, false, false, false] rfl rfl (any_of HT_.out (by kernel_rfl)) (fun _ _ _ h => h) (Or.inl ⟨by rfl, ?_⟩) ?_ ?_
       rotate_left
       ·intro w'
        go_simp
        with_reducible rfl
       rotate_left
       ·simp only [Act.put, List.setIfInBounds_toArray, List.set_cons_zero, List.set_cons_succ, i64_w, i32_w]
        rfl
       refine pure_ (i := 2) (N := some 67) (v := ?_) (a' := ?_) #[true, true, true, false, false, false, false, false, false, false, false, false, false] rfl rfl (any_of HT_.out (by kernel_rfl)) (fun _ _ _ h => h) (Or.inl ⟨by rfl, ?_⟩) ?_ ?_
       rotate_left
       ·intro w'
        go_simp
        with_reducible rfl
       rotate_left
       ·simp only [Act.put, List.setIfInBounds_toArray, List.set_cons_zero, List.set_cons_succ, i64_w, i32_w]
        rfl
       refine pure_ (i := 3) (N := some 68) (v := ?_) (a' := ?_) #[true, true, true, true, false, false, false, false, false, false, false, false, false] rfl rfl (any_of HT_.out (by kernel_rfl)) (fun _ _ _ h => h) (Or.inl ⟨by rfl, ?_⟩) ?_ ?_
       rotate_left
       ·intro w'
        go_simp
        with_reducible rfl
       rotate_left
       ·simp only [Act.put, List.setIfInBounds_toArray, List.set_cons_zero, List.set_cons_succ, i64_w, i32_w]
        rfl
       refine pure_ (i := 4) (N := some 69) (v := ?_) (a' := ?_) #[true, true, true, true, true, false, false, false, false, false, false, false, false] rfl rfl (any_of HT_.out (by kernel_rfl)) (fun _ _ _ h => h) (Or.inl ⟨by rfl, ?_⟩) ?_ ?_
       rotate_left
       ·intro w'
        go_simp
        with_reducible rfl
       rotate_left
       ·simp only [Act.put, List.setIfInBounds_toArray, List.set_cons_zero, List.set_cons_succ, i64_w, i32_w]
        rfl
       refine pure_ (i := 6) (N := some 71) (v := ?_) (a' := ?_) #[true, true, true, true, true, false, true, false, false, false, false, false, false] rfl rfl (any_of HT_.out (by kernel_rfl)) (fun _ _ _ h => h) (Or.inl ⟨by rfl, ?_⟩) ?_ ?_
       rotate_left
       ·intro w'
        go_simp
        with_reducible rfl
       rotate_left
       ·simp only [Act.put, List.setIfInBounds_toArray, List.set_cons_zero, List.set_cons_succ, i64_w, i32_w]
        rfl
       refine pure_ (i := 7) (N := some 72) (v := ?_) (a' := ?_) #[true, true, true, true, true, false, true, true, false, false, false, false, false] rfl rfl (any_of HT_.out (by kernel_rfl)) (fun _ _ _ h => h) (Or.inl ⟨by rfl, ?_⟩) ?_ ?_
       rotate_left
       ·intro w'
        go_simp
        with_reducible rfl
       rotate_left
       ·simp only [Act.put, List.setIfInBounds_toArray, List.set_cons_zero, List.set_cons_succ, i64_w, i32_w]
        rfl
       refine pure_ (i := 8) (N := some 73) (v := ?_) (a' := ?_) #[true, true, true, true, true, false, true, true, true, false, false, false, false] rfl rfl (any_of HT_.out (by kernel_rfl)) (fun _ _ _ h => h) (Or.inl ⟨by rfl, ?_⟩) ?_ ?_
       rotate_left
       ·intro w'
        go_simp
        with_reducible rfl
       rotate_left
       ·simp only [Act.put, List.setIfInBounds_toArray, List.set_cons_zero, List.set_cons_succ, i64_w, i32_w]
        rfl
       refine pure_ (i := 9) (N := some 74) (v := ?_) (a' := ?_) #[true, true, true, true, true, false, true, true, true, true, false, false, false] rfl rfl (any_of HT_.out (by kernel_rfl)) (fun _ _ _ h => h) (Or.inl ⟨by rfl, ?_⟩) ?_ ?_
       rotate_left
       ·intro w'
        go_simp
        with_reducible rfl
       rotate_left
       ·simp only [Act.put, List.setIfInBounds_toArray, List.set_cons_zero, List.set_cons_succ, i64_w, i32_w]
        rfl
       refine take_ (i := 5) (N := some 70) (v := ?_) (a' := ?_) #[true, true, true, true, true, true, true, true, true, true, false, false, false] rfl rfl (take_ofW HT_.out HW_.out (by kernel_rfl)) (fun _ _ _ h => h) (Or.inl ⟨by rfl, ?_⟩) hHeld ?_ ?_
       rotate_left
       ·intro w' s0
        go_simp
        with_reducible rfl
       rotate_left
       ·simp only [Act.put, List.setIfInBounds_toArray, List.set_cons_zero, List.set_cons_succ, i64_w, i32_w]
        rfl
       refine pure_ (i := 10) (N := some 75) (v := ?_) (a' := ?_) #[true, true, true, true, true, true, true, true, true, true, true, false, false] rfl rfl (any_of HT_.out (by kernel_rfl)) (fun _ _ _ h => h) (Or.inl ⟨by rfl, ?_⟩) ?_ ?_
       rotate_left
       ·intro w'
        go_simp
        with_reducible rfl
       rotate_left
       ·simp only [Act.put, List.setIfInBounds_toArray, List.set_cons_zero, List.set_cons_succ, i64_w, i32_w]
        rfl
       refine pure_ (i := 11) (N := some 76) (v := ?_) (a' := ?_) #[true, true, true, true, true, true, true, true, true, true, true, true, false] rfl rfl (any_of HT_.out (by kernel_rfl)) (fun _ _ _ h => h) (Or.inl ⟨by rfl, ?_⟩) ?_ ?_
       rotate_left
       ·intro w'
        go_simp
        with_reducible rfl
       rotate_left
       ·simp only [Act.put, List.setIfInBounds_toArray, List.set_cons_zero, List.set_cons_succ, i64_w, i32_w]
        rfl
       refine last_ (i := 12) (N := none) #[true, true, true, true, true, true, true, true, true, true, true, true, true] rfl rfl (one_of HT_.out (by kernel_rfl)) (by decide) (fun K hK => ?_)
       refine skip_ (w1 := ?_) (by rfl) rfl ?_ ?_
       rotate_left
       ·go_simp
        rfl
       refine hK.out _ _ ?_
       clear hK K
       refine done_ (done_of HT_.out (by kernel_rfl)) ?_
       try go_wp2
       go_roundg k3
       case measure => have := HK1.out; have := HK2.out; have := HK3.out; omega
       case rel => exact ⟨(y753), (wrap64 (x10_3 + 1)), (by first | rfl | (simp; done) | (simp [*]; done)), H', ⟨by have := HK1.out; have := HK2.out; have := HK3.out; omega⟩, ⟨by (with_reducible repeat (first | apply Kd.R_alloc | apply Kd.R_drewN | apply Kd.R_drew)); exact HQ34.out⟩, ⟨by (with_reducible repeat (first | apply Kd.S_alloc | apply Kd.S_drewN | apply Kd.S_drew)); exact Kd.S_mono (Kd.S_far (p := ⟨go30, (x10_3 : Int).toNat, none⟩) (Kd.S_types HO_9.out GG30.out (by decide)) (fun _ hk => hk.2) (.string ((rdOf ByteArray.empty x6_3 x10_3) ++ ((⟨#[97, 98, 99, 100]⟩ : ByteArray).extract (t751 : Int).toNat ((wrap64 (t751 + 1)) : Int).toNat)))) (fun _ hk => trivial)⟩, ⟨by repeat (first | (with_reducible first | exact HB.out | apply below_alloc | apply pw_below_drewN | apply below_drew1 | refine below_set ?_ GB30.out) | exact HB.out)⟩⟩
end Go.Proofs.YtejoneninbdjbaaDoor.E
end
section
namespace Go.Proofs.YtejoneninbdjbaaDoor.E
open Go.RowKit Go.Proofs.YtejoneninbdjbaaDoorW.PrintWords Go.Proofs.YtejoneninbdjbaaDoorW.PrintLast Go.Proofs.YtejoneninbdjbaaDoorW.PrintMore
attribute [local go_sem] max2_int min2_int max_two min_two max_three min_three max_four min_four
set_option linter.unusedVariables false
set_option linter.unusedSimpArgs false
attribute [local go_sem] str_leq_ str_gtr_ str_geq_
def laws_heldStringS.l0 : Nat → List ByteArray → Int → Int → Option (Int)
 | 0, _, _, _ => none
 | k + 1, x0, x1, x5 => if x5 < (x0.length : Int) then (if 0 ≤ x5 then ((laws_markText.f k x1).bind fun t759 => (if (rdOf ByteArray.empty x0 x5).toList = t759.toList then (laws_heldStringS.l0 k x0 (wrap64 (x1 + 1)) (wrap64 (x5 + 1))) else (some (-1)))) else (none)) else (some x1)
def laws_heldStringS.f (k : Nat) (l0 : List ByteArray) (a1 : Int) : Option (Int) := laws_heldStringS.l0 k l0 a1 0
set_option maxHeartbeats 8000000 in
set_option maxRecDepth 100000 in
theorem laws_heldStringS.calls (k : Nat) (A0 : Option Addr) (c0 : Nat) (l0 : List ByteArray) (a1 : Int) (r : Int) (w : World) (hr0 : Kd.C Kd.string w A0 l0.length l0) (hc0 : l0.length ≤ c0) (h : laws_heldStringS.f k l0 a1 = some r) :
  Calls Tryd.prog 55 #[.slice A0 l0.length c0, .int .i64 a1] w fun e w' => e = .returned (.int .i64 r) ∧ Below w.heap.size w w' := by
 have HR0 := Aside0.mk hr0
 have HC0 := Aside0.mk hc0
 clear hr0 hc0
 have HB := Aside0.mk (Below.refl w.heap.size w)
 have H : (laws_heldStringS.l0 k l0 a1 0) = some r := h
 clear h
 have H' := Aside0.mk H
 clear H
 go_enter Tryd.func55, Tryd.ntmps55
 go_wp2
 go_loopg [1, 5] k (fun kq v1 v5 w' => ∃ (x1_1 : Int) (x5_1 : Int), v1 = .int .i64 x1_1 ∧ v5 = .int .i64 x5_1 ∧ Aside0 (laws_heldStringS.l0 kq l0 x1_1 x5_1 = some r) ∧ Aside0 (kq ≤ k) ∧ Aside0 (Below w.heap.size w w'))
 case atStart => exact ⟨(a1), (0), (by first | rfl | (simp; done) | (simp [*]; done)), (by first | rfl | (simp; done) | (simp [*]; done)), H', ⟨Nat.le_refl _⟩, ⟨by repeat (first | (with_reducible first | exact HB.out | apply below_alloc | apply pw_below_drewN | apply below_drew1) | exact HB.out)⟩⟩
 case round =>
  clear H'
  try clear p2
  obtain ⟨x1_1, x5_1, rfl, rfl, HA, HK1, HB⟩ := hrel
  cases gk with
  | zero => exact absurd HA.out (by simp [laws_heldStringS.l0])
  | succ k1 =>
   have H := HA.out
   clear HA
   simp only [laws_heldStringS.l0] at H
   by_cases c3 : x5_1 < (l0.length : Int)
   rotate_left
   ·rw [if_neg c3] at H
    have c3b0 : decide (x5_1 < (l0.length : Int)) = false := decide_eq_false c3
    clear c3
    obtain rfl := Option.some.inj H
    go_wp2
    go_ret
    exact ⟨by first | rfl | (simp [errW_none, errW_some] <;> rfl) | (simp [*, errW_none, errW_some] <;> rfl), by repeat (first | (with_reducible first | exact HB.out | apply below_alloc | apply pw_below_drewN | apply below_drew1) | exact HB.out)⟩
   rw [if_pos c3] at H
   have c3b0 : decide (x5_1 < (l0.length : Int)) = true := decide_eq_true c3
   clear c3
   by_cases c4 : 0 ≤ x5_1
   rotate_left
   ·rw [if_neg c4] at H
    exact absurd H (by simp)
   rw [if_pos c4] at H
   have c4b0 : decide (0 ≤ x5_1) = true := decide_eq_true c4
   clear c4
   replace H := Option.bind_eq_some_iff.mp H
   obtain ⟨t759, A50, H⟩ := H
   replace H : (if (rdOf ByteArray.empty l0 x5_1).toList = t759.toList then (laws_heldStringS.l0 k1 l0 (wrap64 (x1_1 + 1)) (wrap64 (x5_1 + 1))) else (some (-1))) = some r := H
   have A5 := Aside0.mk A50
   clear A50
   by_cases c6 : (rdOf ByteArray.empty l0 x5_1).toList = t759.toList
   rotate_left
   ·rw [if_neg c6] at H
    have c6b0 : ((rdOf ByteArray.empty l0 x5_1).toList == t759.toList) = false := beq_eq_false_iff_ne.mpr c6
    have c6b1 : ((rdOf ByteArray.empty l0 x5_1).toList != t759.toList) = true := bne_iff_ne.mpr c6
    obtain rfl := Option.some.inj H
    try go_wp2
    have n0_ := Aside0.mk (below_drew1 HB.out)
    clear HB
    have HB := n0_
    clear n0_
    have p758 : 0 ≤ (x5_1 : Int) := of_decide_eq_true (by first | (with_reducible assumption) | assumption)
    have q758 : x5_1 < (l0.length : Int) := of_decide_eq_true (by first | (with_reducible assumption) | assumption)
    obtain ⟨ad758, e758, hx758_0⟩ := Kd.at_string HR0.out x5_1 p758 q758
    have hw758_0 := hx758_0
    cases e758
    replace hx758_0 := (HB.out.cell (World.block_lt_of_cell? w _ hx758_0)).trans hx758_0
    replace p758 := eq_true p758
    replace q758 := eq_true q758
    refine start_ (n := 7) (S := fun w' => w'.cell? (ad758.add (x5_1).toNat) = some (.string (rdOf ByteArray.empty l0 x5_1))) (ds := []) #[false, false, false, false, false, false, false] (by kernel_rfl) rfl rfl (((HB.out.cell (World.block_lt_of_cell? w _ hw758_0)).trans hw758_0)) (fun hHeld => ?_)
    generalize wr.drew = w9 at HB hx758_0 hHeld ⊢
    refine pure_ (i := 0) (N := some 12) (v := ?_) (a' := ?_) #[true, false, false, false, false, false, false] rfl rfl (by kernel_rfl) (fun _ _ _ h => h) (Or.inl ⟨by rfl, ?_⟩) ?_ ?_
    rotate_left
    ·intro w'
     go_simp
     with_reducible rfl
    rotate_left
    ·simp only [Act.put, List.setIfInBounds_toArray, List.set_cons_zero, List.set_cons_succ, i64_w, i32_w]
     rfl
    refine pure_ (i := 1) (N := some 13) (v := ?_) (a' := ?_) #[true, true, false, false, false, false, false] rfl rfl (by kernel_rfl) (fun _ _ _ h => h) (Or.inl ⟨by rfl, ?_⟩) ?_ ?_
    rotate_left
    ·intro w'
     go_simp
     with_reducible rfl
    rotate_left
    ·simp only [Act.put, List.setIfInBounds_toArray, List.set_cons_zero, List.set_cons_succ, i64_w, i32_w]
     rfl
    refine pure_ (i := 2) (N := some 14) (v := ?_) (a' := ?_) #[true, true, true, false, false, false, false] rfl rfl (by kernel_rfl) (fun _ _ _ h => h) (Or.inl ⟨by rfl, ?_⟩) ?_ ?_
    rotate_left
    ·intro w'
     go_simp
     with_reducible rfl
    rotate_left
    ·simp only [Act.put, List.setIfInBounds_toArray, List.set_cons_zero, List.set_cons_succ, i64_w, i32_w]
     rfl
    refine pure_ (i := 4) (N := some 16) (v := ?_) (a' := ?_) #[true, true, true, false, true, false, false] rfl rfl (by kernel_rfl) (fun _ _ _ h => h) (Or.inl ⟨by rfl, ?_⟩) ?_ ?_
    rotate_left
    ·intro w'
     go_simp
     with_reducible rfl
    rotate_left
    ·simp only [Act.put, List.setIfInBounds_toArray, List.set_cons_zero, List.set_cons_succ, i64_w, i32_w]
     rfl
    refine take_ (i := 3) (N := some 15) (v := ?_) (a' := ?_) #[true, true, true, true, true, false, false] rfl rfl (by kernel_rfl) (fun _ _ _ h => h) (Or.inl ⟨by rfl, ?_⟩) hHeld ?_ ?_
    rotate_left
    ·intro w' s0
     go_simp
     with_reducible rfl
    rotate_left
    ·simp only [Act.put, List.setIfInBounds_toArray, List.set_cons_zero, List.set_cons_succ, i64_w, i32_w]
     rfl
    refine one_ (i := 5) (N := some 17) #[true, true, true, true, true, true, false] rfl rfl (by kernel_rfl) (by decide) (fun K hK => ?_)
    refine goes_ Tryd.func71 (by kernel_rfl) rfl #[.int .i64 x1_1] (by rfl) rfl rfl (by (try simp only [List.map_toArray, List.map_cons, List.map_nil]); first | done | rfl | (simp only [List.length_drop, List.length_take]; rfl)) ?_
    with_reducible refine (laws_markText.calls k1 x1_1 t759 _ A5.out).mono ?_
    rintro e w10 ⟨rfl, hb⟩
    refine ⟨_, rfl, ?_⟩
    have n0_ := Aside0.mk (below_step (by repeat (first | (with_reducible first | exact HB.out | apply below_alloc | apply pw_below_drewN | apply below_drew1) | exact HB.out)) hb)
    clear HB
    have HB := n0_
    clear n0_
    (try clear hb)
    (try clear hb2)
    (try clear hk)
    (try clear hi)
    refine hK.out _ _ (((HB.out.cell (World.block_lt_of_cell? w _ hw758_0)).trans hw758_0)) (fun hHeld => ?_)
    clear hK K
    refine norm_ (a' := ?_) ?_ ?_
    rotate_left
    ·show Act.put _ (some 17) _ = _
     simp only [Act.put, List.setIfInBounds_toArray, List.set_cons_zero, List.set_cons_succ, i64_w, i32_w]
     rfl
    refine pure_ (i := 6) (N := some 18) (v := ?_) (a' := ?_) #[true, true, true, true, true, true, true] rfl rfl (by kernel_rfl) (fun _ _ _ h => h) (Or.inl ⟨by rfl, ?_⟩) ?_ ?_
    rotate_left
    ·intro w'
     go_simp
     with_reducible rfl
    rotate_left
    ·simp only [Act.put, List.setIfInBounds_toArray, List.set_cons_zero, List.set_cons_succ, i64_w, i32_w]
     rfl
    refine done_ (by kernel_rfl) ?_
    try go_wp2
    go_ret
    exact ⟨by first | rfl | (simp [errW_none, errW_some] <;> rfl) | (simp [*, errW_none, errW_some] <;> rfl), by repeat (first | (with_reducible first | exact HB.out | apply below_alloc | apply pw_below_drewN | apply below_drew1) | exact HB.out)⟩
   rw [if_pos c6] at H
   have c6b0 : ((rdOf ByteArray.empty l0 x5_1).toList == t759.toList) = true := beq_iff_eq.mpr c6
   have c6b1 : ((rdOf ByteArray.empty l0 x5_1).toList != t759.toList) = false := bne_eq_false_iff_eq.mpr c6
   clear c6
   have H' := Aside0.mk H
   clear H
   try go_wp2
   have n0_ := Aside0.mk (below_drew1 HB.out)
   clear HB
   have HB := n0_
   clear n0_
   have p758 : 0 ≤ (x5_1 : Int) := of_decide_eq_true (by first | (with_reducible assumption) | assumption)
   have q758 : x5_1 < (l0.length : Int) := of_decide_eq_true (by first | (with_reducible assumption) | assumption)
   obtain ⟨ad758, e758, hx758_0⟩ := Kd.at_string HR0.out x5_1 p758 q758
   have hw758_0 := hx758_0
   cases e758
   replace hx758_0 := (HB.out.cell (World.block_lt_of_cell? w _ hx758_0)).trans hx758_0
   replace p758 := eq_true p758
   replace q758 := eq_true q758
   refine start_ (n := 7) (S := fun w' => w'.cell? (ad758.add (x5_1).toNat) = some (.string (rdOf ByteArray.empty l0 x5_1))) (ds := []) #[false, false, false, false, false, false, false] (by kernel_rfl) rfl rfl (((HB.out.cell (World.block_lt_of_cell? w _ hw758_0)).trans hw758_0)) (fun hHeld => ?_)
   generalize wr.drew = w7 at HB hx758_0 hHeld ⊢
   refine pure_ (i := 0) (N := some 12) (v := ?_) (a' := ?_) #[true, false, false, false, false, false, false] rfl rfl (by kernel_rfl) (fun _ _ _ h => h) (Or.inl ⟨by rfl, ?_⟩) ?_ ?_
   rotate_left
   ·intro w'
    go_simp
    with_reducible rfl
   rotate_left
   ·simp only [Act.put, List.setIfInBounds_toArray, List.set_cons_zero, List.set_cons_succ, i64_w, i32_w]
    rfl
   refine pure_ (i := 1) (N := some 13) (v := ?_) (a' := ?_) #[true, true, false, false, false, false, false] rfl rfl (by kernel_rfl) (fun _ _ _ h => h) (Or.inl ⟨by rfl, ?_⟩) ?_ ?_
   rotate_left
   ·intro w'
    go_simp
    with_reducible rfl
   rotate_left
   ·simp only [Act.put, List.setIfInBounds_toArray, List.set_cons_zero, List.set_cons_succ, i64_w, i32_w]
    rfl
   refine pure_ (i := 2) (N := some 14) (v := ?_) (a' := ?_) #[true, true, true, false, false, false, false] rfl rfl (by kernel_rfl) (fun _ _ _ h => h) (Or.inl ⟨by rfl, ?_⟩) ?_ ?_
   rotate_left
   ·intro w'
    go_simp
    with_reducible rfl
   rotate_left
   ·simp only [Act.put, List.setIfInBounds_toArray, List.set_cons_zero, List.set_cons_succ, i64_w, i32_w]
    rfl
   refine pure_ (i := 4) (N := some 16) (v := ?_) (a' := ?_) #[true, true, true, false, true, false, false] rfl rfl (by kernel_rfl) (fun _ _ _ h => h) (Or.inl ⟨by rfl, ?_⟩) ?_ ?_
   rotate_left
   ·intro w'
    go_simp
    with_reducible rfl
   rotate_left
   ·simp only [Act.put, List.setIfInBounds_toArray, List.set_cons_zero, List.set_cons_succ, i64_w, i32_w]
    rfl
   refine take_ (i := 3) (N := some 15) (v := ?_) (a' := ?_) #[true, true, true, true, true, false, false] rfl rfl (by kernel_rfl) (fun _ _ _ h => h) (Or.inl ⟨by rfl, ?_⟩) hHeld ?_ ?_
   rotate_left
   ·intro w' s0
    go_simp
    with_reducible rfl
   rotate_left
   ·simp only [Act.put, List.setIfInBounds_toArray, List.set_cons_zero, List.set_cons_succ, i64_w, i32_w]
    rfl
   refine one_ (i := 5) (N := some 17) #[true, true, true, true, true, true, false] rfl rfl (by kernel_rfl) (by decide) (fun K hK => ?_)
   refine goes_ Tryd.func71 (by kernel_rfl) rfl #[.int .i64 x1_1] (by rfl) rfl rfl (by (try simp only [List.map_toArray, List.map_cons, List.map_nil]); first | done | rfl | (simp only [List.length_drop, List.length_take]; rfl)) ?_
   with_reducible refine (laws_markText.calls k1 x1_1 t759 _ A5.out).mono ?_
   rintro e w8 ⟨rfl, hb⟩
   refine ⟨_, rfl, ?_⟩
   have n0_ := Aside0.mk (below_step (by repeat (first | (with_reducible first | exact HB.out | apply below_alloc | apply pw_below_drewN | apply below_drew1) | exact HB.out)) hb)
   clear HB
   have HB := n0_
   clear n0_
   (try clear hb)
   (try clear hb2)
   (try clear hk)
   (try clear hi)
   refine hK.out _ _ (((HB.out.cell (World.block_lt_of_cell? w _ hw758_0)).trans hw758_0)) (fun hHeld => ?_)
   clear hK K
   refine norm_ (a' := ?_) ?_ ?_
   rotate_left
   ·show Act.put _ (some 17) _ = _
    simp only [Act.put, List.setIfInBounds_toArray, List.set_cons_zero, List.set_cons_succ, i64_w, i32_w]
    rfl
   refine pure_ (i := 6) (N := some 18) (v := ?_) (a' := ?_) #[true, true, true, true, true, true, true] rfl rfl (by kernel_rfl) (fun _ _ _ h => h) (Or.inl ⟨by rfl, ?_⟩) ?_ ?_
   rotate_left
   ·intro w'
    go_simp
    with_reducible rfl
   rotate_left
   ·simp only [Act.put, List.setIfInBounds_toArray, List.set_cons_zero, List.set_cons_succ, i64_w, i32_w]
    rfl
   refine done_ (by kernel_rfl) ?_
   try go_wp2
   go_roundg k1
   case measure => have := HK1.out; omega
   case rel => exact ⟨(wrap64 (x1_1 + 1)), (wrap64 (x5_1 + 1)), (by first | rfl | (simp; done) | (simp [*]; done)), (by first | rfl | (simp; done) | (simp [*]; done)), H', ⟨by have := HK1.out; omega⟩, ⟨by repeat (first | (with_reducible first | exact HB.out | apply below_alloc | apply pw_below_drewN | apply below_drew1) | exact HB.out)⟩⟩
end Go.Proofs.YtejoneninbdjbaaDoor.E
end
section
namespace Go.Proofs.YtejoneninbdjbaaDoor.E
open Go.RowKit Go.Proofs.YtejoneninbdjbaaDoorW.PrintWords Go.Proofs.YtejoneninbdjbaaDoorW.PrintLast Go.Proofs.YtejoneninbdjbaaDoorW.PrintMore
attribute [local go_sem] max2_int min2_int max_two min_two max_three min_three max_four min_four
set_option linter.unusedVariables false
set_option linter.unusedSimpArgs false
attribute [local go_sem] str_leq_ str_gtr_ str_geq_
mutual
def laws_FnExactStemFill.j0 : Nat → List ByteArray → List Int → List ByteArray → Bool → List ByteArray → List Int → List ByteArray → Bool → Bool → Option (Bool)
 | 0, _, _, _, _, _, _, _, _, _ => none
 | k + 1, x0, x1, x6, x7, x8, x9, x10, x11, x51 => if x51 = true then (some false) else ((laws_toStringS.f k x0).bind fun t782 => ((laws_eqStringS.f k x8 t782).bind fun t785 => (if t785 = true then ((laws_toIntS.f k x1).bind fun t786 => ((laws_eqIntS.f k x9 t786).bind fun t789 => (if t789 = true then ((laws_markStringS.f k x8 1).bind fun bt790 => ((laws_markIntS.f k x9 bt790.1).bind fun bt792 => (if bt792.1 < 0 then (laws_FnExactStemFill.j1 k x0 x1 x6 x7 x10 true) else ((laws_eqStringS.f k x10 x6).bind fun t794 => (if t794 = true then (laws_FnExactStemFill.j1 k x0 x1 x6 x7 x10 (x11 != x7)) else (laws_FnExactStemFill.j1 k x0 x1 x6 x7 x10 true)))))) else (some false)))) else (some false))))
def laws_FnExactStemFill.j1 : Nat → List ByteArray → List Int → List ByteArray → Bool → List ByteArray → Bool → Option (Bool)
 | 0, _, _, _, _, _, _ => none
 | k + 1, x0, x1, x6, x7, x10, x80 => if x80 = true then (some false) else ((laws_markStringS.f k x10 1).bind fun bt795 => ((laws_heldStringS.f k bt795.2 1).bind fun t797 => (if t797 < 0 then (some false) else (if t797 = bt795.1 then ((laws_toStringS.f k x0).bind fun t798 => ((laws_toIntS.f k x1).bind fun t801 => ((impl_StemFill.f k t798 t801).bind fun bt804 => ((laws_eqStringS.f k bt804.1 x6).bind fun t808 => (if t808 = true then (laws_FnExactStemFill.j2 k bt795.2 bt795.1 (bt804.2 != x7)) else (laws_FnExactStemFill.j2 k bt795.2 bt795.1 true)))))) else (some false)))))
def laws_FnExactStemFill.j2 : Nat → List ByteArray → Int → Bool → Option (Bool)
 | 0, _, _, _ => none
 | k + 1, x10, x13, x108 => if x108 = true then (some false) else ((laws_heldStringS.f k x10 1).bind fun t809 => (if t809 < 0 then (some false) else (if t809 = x13 then (some true) else (some false))))
end
def laws_FnExactStemFill.f (k : Nat) (l0 : List ByteArray) (l1 : List Int) : Option (Bool) := if (l1.length : Int) > 1048576 then (some true) else ((laws_szStringS.f k l0 1048576).bind fun t760 => (if t760 < 0 then (some true) else ((laws_toStringS.f k l0).bind fun t761 => ((laws_toIntS.f k l1).bind fun t764 => ((spec_StemFill.f k t761 t764).bind fun bt767 => ((laws_toStringS.f k l0).bind fun t771 => ((laws_toIntS.f k l1).bind fun t774 => ((impl_StemFill.f k t771 t774).bind fun bt777 => ((laws_eqStringS.f k bt777.1 bt767.1).bind fun t781 => (if t781 = true then (laws_FnExactStemFill.j0 k l0 l1 bt767.1 bt767.2 t771 t774 bt777.1 bt777.2 (bt777.2 != bt767.2)) else (laws_FnExactStemFill.j0 k l0 l1 bt767.1 bt767.2 t771 t774 bt777.1 bt777.2 true)))))))))))
set_option maxHeartbeats 8000000 in
set_option maxRecDepth 100000 in
theorem laws_FnExactStemFill.calls (k : Nat) (A0 : Option Addr) (c0 : Nat) (l0 : List ByteArray) (A1 : Option Addr) (c1 : Nat) (l1 : List Int) (r : Bool) (w : World) (hr0 : Kd.C Kd.string w A0 l0.length l0) (hc0 : l0.length ≤ c0) (hr1 : Kd.C (Kd.int .i64) w A1 l1.length l1) (hc1 : l1.length ≤ c1) (h : laws_FnExactStemFill.f k l0 l1 = some r) :
  Calls Tryd.prog 17 #[.slice A0 l0.length c0, .slice A1 l1.length c1] w fun e w' => e = .returned (.bool r) ∧ Below w.heap.size w w' := by
 have HR0 := Aside0.mk hr0
 have HC0 := Aside0.mk hc0
 clear hr0 hc0
 have HR1 := Aside0.mk hr1
 have HC1 := Aside0.mk hc1
 clear hr1 hc1
 have HB := Aside0.mk (Below.refl w.heap.size w)
 have H : (if (l1.length : Int) > 1048576 then (some true) else ((laws_szStringS.f k l0 1048576).bind fun t760 => (if t760 < 0 then (some true) else ((laws_toStringS.f k l0).bind fun t761 => ((laws_toIntS.f k l1).bind fun t764 => ((spec_StemFill.f k t761 t764).bind fun bt767 => ((laws_toStringS.f k l0).bind fun t771 => ((laws_toIntS.f k l1).bind fun t774 => ((impl_StemFill.f k t771 t774).bind fun bt777 => ((laws_eqStringS.f k bt777.1 bt767.1).bind fun t781 => (if t781 = true then (laws_FnExactStemFill.j0 k l0 l1 bt767.1 bt767.2 t771 t774 bt777.1 bt777.2 (bt777.2 != bt767.2)) else (laws_FnExactStemFill.j0 k l0 l1 bt767.1 bt767.2 t771 t774 bt777.1 bt777.2 true)))))))))))) = some r := h
 clear h
 by_cases c3 : (l1.length : Int) > 1048576
 ·rw [if_pos c3] at H
  have c3b0 : decide (1048576 < (l1.length : Int)) = true := decide_eq_true c3
  have c3b1 : decide (1048576 < l1.length) = true := decide_eq_true (by omega)
  clear c3
  obtain rfl := Option.some.inj H
  go_enter Tryd.func17, Tryd.ntmps17
  go_wp2
  go_ret
  exact ⟨by first | rfl | (simp [errW_none, errW_some] <;> rfl) | (simp [*, errW_none, errW_some] <;> rfl), by repeat (first | (with_reducible first | exact HB.out | apply below_alloc | apply pw_below_drewN | apply below_drew1) | exact HB.out)⟩
 rw [if_neg c3] at H
 have c3b0 : decide (1048576 < (l1.length : Int)) = false := decide_eq_false c3
 have c3b1 : decide (1048576 < l1.length) = false := decide_eq_false (by omega)
 clear c3
 replace H := Option.bind_eq_some_iff.mp H
 obtain ⟨t760, A40, H⟩ := H
 replace H : (if t760 < 0 then (some true) else ((laws_toStringS.f k l0).bind fun t761 => ((laws_toIntS.f k l1).bind fun t764 => ((spec_StemFill.f k t761 t764).bind fun bt767 => ((laws_toStringS.f k l0).bind fun t771 => ((laws_toIntS.f k l1).bind fun t774 => ((impl_StemFill.f k t771 t774).bind fun bt777 => ((laws_eqStringS.f k bt777.1 bt767.1).bind fun t781 => (if t781 = true then (laws_FnExactStemFill.j0 k l0 l1 bt767.1 bt767.2 t771 t774 bt777.1 bt777.2 (bt777.2 != bt767.2)) else (laws_FnExactStemFill.j0 k l0 l1 bt767.1 bt767.2 t771 t774 bt777.1 bt777.2 true)))))))))) = some r := H
 have A4 := Aside0.mk A40
 clear A40
 by_cases c5 : t760 < 0
 ·rw [if_pos c5] at H
  have c5b0 : decide (t760 < 0) = true := decide_eq_true c5
  clear c5
  obtain rfl := Option.some.inj H
  go_enter Tryd.func17, Tryd.ntmps17
  go_wp2_with (first | ((with_reducible refine gate_callee (f := 21) rfl ?_); refine goesL_ (some 22) rfl rfl Tryd.func21 (by kernel_rfl) rfl #[.slice A0 l0.length c0, .int .i64 1048576] rfl (by (try simp only [List.map_toArray, List.map_cons, List.map_nil]); first | done | rfl | (simp only [List.length_drop, List.length_take]; rfl)) ?_; (with_reducible refine (laws_szStringS.calls k _ _ l0 1048576 t760 _ ?side1 ?side2 A4.out).mono ?_); (case side1 => repeat (first | exact HR0.out | (with_reducible refine Kd.C_alloc ?_ _) | (with_reducible refine Kd.C_drewN ?_ _) | (with_reducible refine Kd.C_drew ?_))); (case side2 => exact HC0.out); rintro e w' ⟨rfl, ⟨nd, rfl⟩⟩; refine ⟨_, rfl, ?_⟩))
  go_ret
  exact ⟨by first | rfl | (simp [errW_none, errW_some] <;> rfl) | (simp [*, errW_none, errW_some] <;> rfl), by repeat (first | (with_reducible first | exact HB.out | apply below_alloc | apply pw_below_drewN | apply below_drew1) | exact HB.out)⟩
 rw [if_neg c5] at H
 have c5b0 : decide (t760 < 0) = false := decide_eq_false c5
 clear c5
 replace H := Option.bind_eq_some_iff.mp H
 obtain ⟨t761, A60, H⟩ := H
 replace H : ((laws_toIntS.f k l1).bind fun t764 => ((spec_StemFill.f k t761 t764).bind fun bt767 => ((laws_toStringS.f k l0).bind fun t771 => ((laws_toIntS.f k l1).bind fun t774 => ((impl_StemFill.f k t771 t774).bind fun bt777 => ((laws_eqStringS.f k bt777.1 bt767.1).bind fun t781 => (if t781 = true then (laws_FnExactStemFill.j0 k l0 l1 bt767.1 bt767.2 t771 t774 bt777.1 bt777.2 (bt777.2 != bt767.2)) else (laws_FnExactStemFill.j0 k l0 l1 bt767.1 bt767.2 t771 t774 bt777.1 bt777.2 true)))))))) = some r := H
 have A6 := Aside0.mk A60
 clear A60
 replace H := Option.bind_eq_some_iff.mp H
 obtain ⟨t764, A70, H⟩ := H
 replace H : ((spec_StemFill.f k t761 t764).bind fun bt767 => ((laws_toStringS.f k l0).bind fun t771 => ((laws_toIntS.f k l1).bind fun t774 => ((impl_StemFill.f k t771 t774).bind fun bt777 => ((laws_eqStringS.f k bt777.1 bt767.1).bind fun t781 => (if t781 = true then (laws_FnExactStemFill.j0 k l0 l1 bt767.1 bt767.2 t771 t774 bt777.1 bt777.2 (bt777.2 != bt767.2)) else (laws_FnExactStemFill.j0 k l0 l1 bt767.1 bt767.2 t771 t774 bt777.1 bt777.2 true))))))) = some r := H
 have A7 := Aside0.mk A70
 clear A70
 replace H := Option.bind_eq_some_iff.mp H
 obtain ⟨⟨t767, t768⟩, A80, H⟩ := H
 replace H : ((laws_toStringS.f k l0).bind fun t771 => ((laws_toIntS.f k l1).bind fun t774 => ((impl_StemFill.f k t771 t774).bind fun bt777 => ((laws_eqStringS.f k bt777.1 t767).bind fun t781 => (if t781 = true then (laws_FnExactStemFill.j0 k l0 l1 t767 t768 t771 t774 bt777.1 bt777.2 (bt777.2 != t768)) else (laws_FnExactStemFill.j0 k l0 l1 t767 t768 t771 t774 bt777.1 bt777.2 true)))))) = some r := H
 have A8 := Aside0.mk A80
 clear A80
 replace H := Option.bind_eq_some_iff.mp H
 obtain ⟨t771, A90, H⟩ := H
 replace H : ((laws_toIntS.f k l1).bind fun t774 => ((impl_StemFill.f k t771 t774).bind fun bt777 => ((laws_eqStringS.f k bt777.1 t767).bind fun t781 => (if t781 = true then (laws_FnExactStemFill.j0 k l0 l1 t767 t768 t771 t774 bt777.1 bt777.2 (bt777.2 != t768)) else (laws_FnExactStemFill.j0 k l0 l1 t767 t768 t771 t774 bt777.1 bt777.2 true))))) = some r := H
 have A9 := Aside0.mk A90
 clear A90
 replace H := Option.bind_eq_some_iff.mp H
 obtain ⟨t774, A100, H⟩ := H
 replace H : ((impl_StemFill.f k t771 t774).bind fun bt777 => ((laws_eqStringS.f k bt777.1 t767).bind fun t781 => (if t781 = true then (laws_FnExactStemFill.j0 k l0 l1 t767 t768 t771 t774 bt777.1 bt777.2 (bt777.2 != t768)) else (laws_FnExactStemFill.j0 k l0 l1 t767 t768 t771 t774 bt777.1 bt777.2 true)))) = some r := H
 have A10 := Aside0.mk A100
 clear A100
 replace H := Option.bind_eq_some_iff.mp H
 obtain ⟨⟨t777, t778⟩, A110, H⟩ := H
 replace H : ((laws_eqStringS.f k t777 t767).bind fun t781 => (if t781 = true then (laws_FnExactStemFill.j0 k l0 l1 t767 t768 t771 t774 t777 t778 (t778 != t768)) else (laws_FnExactStemFill.j0 k l0 l1 t767 t768 t771 t774 t777 t778 true))) = some r := H
 have A11 := Aside0.mk A110
 clear A110
 have HC12 := Aside0.mk H
 clear H
 go_enter Tryd.func17, Tryd.ntmps17
 go_upto_region 11 with (first | ((with_reducible refine gate_callee (f := 21) rfl ?_); refine goesL_ (some 22) rfl rfl Tryd.func21 (by kernel_rfl) rfl #[.slice A0 l0.length c0, .int .i64 1048576] rfl (by (try simp only [List.map_toArray, List.map_cons, List.map_nil]); first | done | rfl | (simp only [List.length_drop, List.length_take]; rfl)) ?_; (with_reducible refine (laws_szStringS.calls k _ _ l0 1048576 t760 _ ?side1 ?side2 A4.out).mono ?_); (case side1 => repeat (first | exact HR0.out | (with_reducible refine Kd.C_alloc ?_ _) | (with_reducible refine Kd.C_drewN ?_ _) | (with_reducible refine Kd.C_drew ?_))); (case side2 => exact HC0.out); rintro e w' ⟨rfl, ⟨nd, rfl⟩⟩; refine ⟨_, rfl, ?_⟩) | ((with_reducible refine gate_callee (f := 23) rfl ?_); refine goesL_ (some 27) rfl rfl Tryd.func23 (by kernel_rfl) rfl #[.slice A0 l0.length c0] rfl (by (try simp only [List.map_toArray, List.map_cons, List.map_nil]); first | done | rfl | (simp only [List.length_drop, List.length_take]; rfl)) ?_; (with_reducible refine (laws_toStringS.calls k _ _ l0 t761 _ ?side1 ?side2 A6.out).mono ?_); (case side1 => repeat (first | exact HR0.out | (with_reducible refine Kd.C_alloc ?_ _) | (with_reducible refine Kd.C_drewN ?_ _) | (with_reducible refine Kd.C_drew ?_))); (case side2 => exact HC0.out); rintro e w13 ⟨v762, rfl, ho0, hb⟩; refine ⟨_, rfl, ?_⟩; have n0_ := Aside0.mk (Kd.R_lower ho0 (below_size (by repeat (first | (with_reducible first | exact HB.out | apply below_alloc | apply pw_below_drewN | apply below_drew1) | exact HB.out)))); have n1_ := Aside0.mk (below_step (by repeat (first | (with_reducible first | exact HB.out | apply below_alloc | apply pw_below_drewN | apply below_drew1) | exact HB.out)) hb); clear HB; have HO763 := n0_; have HB := n1_; clear n0_ n1_; (try clear hb); (try clear hb2); (try clear hk); (try clear hi); (try clear ho0)) | ((with_reducible refine gate_callee (f := 29) rfl ?_); refine goesL_ (some 29) rfl rfl Tryd.func29 (by kernel_rfl) rfl #[.slice A1 l1.length c1] rfl (by (try simp only [List.map_toArray, List.map_cons, List.map_nil]); first | done | rfl | (simp only [List.length_drop, List.length_take]; rfl)) ?_; (with_reducible refine (laws_toIntS.calls k _ _ l1 t764 _ ?side1 ?side2 A7.out).mono ?_); (case side1 => repeat (first | exact (Kd.C_below HR1.out HB.out) | (with_reducible refine Kd.C_alloc ?_ _) | (with_reducible refine Kd.C_drewN ?_ _) | (with_reducible refine Kd.C_drew ?_))); (case side2 => exact HC1.out); rintro e w14 ⟨v765, rfl, ho0, hb⟩; refine ⟨_, rfl, ?_⟩; have n0_ := Aside0.mk (Kd.R_below (by (with_reducible repeat (first | apply Kd.R_alloc | apply Kd.R_drewN | apply Kd.R_drew)); exact HO763.out) hb); have n1_ := Aside0.mk (Kd.R_lower ho0 (below_size (by repeat (first | (with_reducible first | exact HB.out | apply below_alloc | apply pw_below_drewN | apply below_drew1) | exact HB.out)))); have n2_ := Aside0.mk (below_step (by repeat (first | (with_reducible first | exact HB.out | apply below_alloc | apply pw_below_drewN | apply below_drew1) | exact HB.out)) hb); clear HO763; clear HB; have HO763 := n0_; have HO766 := n1_; have HB := n2_; clear n0_ n1_ n2_; (try clear hb); (try clear hb2); (try clear hk); (try clear hi); (try clear ho0); obtain ⟨Ao15, co15, eo15⟩ := Kd.R_slice HO763.out; subst eo15; obtain ⟨Ao16, co16, eo16⟩ := Kd.R_slice HO766.out; subst eo16) | ((with_reducible refine gate_callee (f := 53) rfl ?_); refine goesL_ (some 30) rfl rfl Tryd.func53 (by kernel_rfl) rfl #[.slice Ao15 t761.length co15, .slice Ao16 t764.length co16] rfl (by (try simp only [List.map_toArray, List.map_cons, List.map_nil]); first | done | rfl | (simp only [List.length_drop, List.length_take]; rfl)) ?_; (with_reducible refine (spec_StemFill.calls k _ _ t761 _ _ t764 t767 t768 _ ?side1 ?side2 ?side3 ?side4 A8.out).mono ?_); (case side1 => repeat (first | exact (Kd.R_reads' HO763.out).2.2 | (with_reducible refine Kd.C_alloc ?_ _) | (with_reducible refine Kd.C_drewN ?_ _) | (with_reducible refine Kd.C_drew ?_))); (case side2 => exact (Kd.R_reads' HO763.out).2.1); (case side3 => repeat (first | exact (Kd.R_reads' HO766.out).2.2 | (with_reducible refine Kd.C_alloc ?_ _) | (with_reducible refine Kd.C_drewN ?_ _) | (with_reducible refine Kd.C_drew ?_))); (case side4 => exact (Kd.R_reads' HO766.out).2.1); rintro e w17 ⟨v769, rfl, ho0, hb⟩; refine ⟨_, rfl, ?_⟩; have n0_ := Aside0.mk (Kd.R_elder' (by (with_reducible repeat (first | apply Kd.R_alloc | apply Kd.R_drewN | apply Kd.R_drew)); exact HO763.out) (Kd.R_base ho0) hb); have n1_ := Aside0.mk (Kd.R_below (by (with_reducible repeat (first | apply Kd.R_alloc | apply Kd.R_drewN | apply Kd.R_drew)); exact HO766.out) hb); have n2_ := Aside0.mk (Kd.R_lower (Kd.R_new' ho0 (Kd.R_lt (by (with_reducible repeat (first | apply Kd.R_alloc | apply Kd.R_drewN | apply Kd.R_drew)); exact HO763.out))) (below_size (by repeat (first | (with_reducible first | exact HB.out | apply below_alloc | apply pw_below_drewN | apply below_drew1) | exact HB.out)))); have n3_ := Aside0.mk (below_step (by repeat (first | (with_reducible first | exact HB.out | apply below_alloc | apply pw_below_drewN | apply below_drew1) | exact HB.out)) hb); clear HO763; clear HO766; clear HB; have HO763 := n0_; have HO766 := n1_; have HO770 := n2_; have HB := n3_; clear n0_ n1_ n2_ n3_; (try clear hb); (try clear hb2); (try clear hk); (try clear hi); (try clear ho0)) | ((with_reducible refine gate_callee (f := 23) rfl ?_); refine goesL_ (some 34) rfl rfl Tryd.func23 (by kernel_rfl) rfl #[.slice A0 l0.length c0] rfl (by (try simp only [List.map_toArray, List.map_cons, List.map_nil]); first | done | rfl | (simp only [List.length_drop, List.length_take]; rfl)) ?_; (with_reducible refine (laws_toStringS.calls k _ _ l0 t771 _ ?side1 ?side2 A9.out).mono ?_); (case side1 => repeat (first | exact (Kd.C_below HR0.out HB.out) | (with_reducible refine Kd.C_alloc ?_ _) | (with_reducible refine Kd.C_drewN ?_ _) | (with_reducible refine Kd.C_drew ?_))); (case side2 => exact HC0.out); rintro e w18 ⟨v772, rfl, ho0, hb⟩; refine ⟨_, rfl, ?_⟩; have n0_ := Aside0.mk (Kd.R_elder' (by (with_reducible repeat (first | apply Kd.R_alloc | apply Kd.R_drewN | apply Kd.R_drew)); exact HO763.out) (Kd.R_base ho0) hb); have n1_ := Aside0.mk (Kd.R_below (by (with_reducible repeat (first | apply Kd.R_alloc | apply Kd.R_drewN | apply Kd.R_drew)); exact HO766.out) hb); have n2_ := Aside0.mk (Kd.R_elder' (by (with_reducible repeat (first | apply Kd.R_alloc | apply Kd.R_drewN | apply Kd.R_drew)); exact HO770.out) (Kd.R_base ho0) hb); have n3_ := Aside0.mk (Kd.R_lower (Kd.R_new' (Kd.R_new' ho0 (Kd.R_lt (by (with_reducible repeat (first | apply Kd.R_alloc | apply Kd.R_drewN | apply Kd.R_drew)); exact HO763.out))) (Kd.R_lt (by (with_reducible repeat (first | apply Kd.R_alloc | apply Kd.R_drewN | apply Kd.R_drew)); exact HO770.out))) (below_size (by repeat (first | (with_reducible first | exact HB.out | apply below_alloc | apply pw_below_drewN | apply below_drew1) | exact HB.out)))); have n4_ := Aside0.mk (below_step (by repeat (first | (with_reducible first | exact HB.out | apply below_alloc | apply pw_below_drewN | apply below_drew1) | exact HB.out)) hb); clear HO763; clear HO766; clear HO770; clear HB; have HO763 := n0_; have HO766 := n1_; have HO770 := n2_; have HO773 := n3_; have HB := n4_; clear n0_ n1_ n2_ n3_ n4_; (try clear hb); (try clear hb2); (try clear hk); (try clear hi); (try clear ho0)) | ((with_reducible refine gate_callee (f := 29) rfl ?_); refine goesL_ (some 36) rfl rfl Tryd.func29 (by kernel_rfl) rfl #[.slice A1 l1.length c1] rfl (by (try simp only [List.map_toArray, List.map_cons, List.map_nil]); first | done | rfl | (simp only [List.length_drop, List.length_take]; rfl)) ?_; (with_reducible refine (laws_toIntS.calls k _ _ l1 t774 _ ?side1 ?side2 A10.out).mono ?_); (case side1 => repeat (first | exact (Kd.C_below HR1.out HB.out) | (with_reducible refine Kd.C_alloc ?_ _) | (with_reducible refine Kd.C_drewN ?_ _) | (with_reducible refine Kd.C_drew ?_))); (case side2 => exact HC1.out); rintro e w19 ⟨v775, rfl, ho0, hb⟩; refine ⟨_, rfl, ?_⟩; have n0_ := Aside0.mk (Kd.R_below (by (with_reducible repeat (first | apply Kd.R_alloc | apply Kd.R_drewN | apply Kd.R_drew)); exact HO763.out) hb); have n1_ := Aside0.mk (Kd.R_elder' (by (with_reducible repeat (first | apply Kd.R_alloc | apply Kd.R_drewN | apply Kd.R_drew)); exact HO766.out) (Kd.R_base ho0) hb); have n2_ := Aside0.mk (Kd.R_below (by (with_reducible repeat (first | apply Kd.R_alloc | apply Kd.R_drewN | apply Kd.R_drew)); exact HO770.out) hb); have n3_ := Aside0.mk (Kd.R_below (by (with_reducible repeat (first | apply Kd.R_alloc | apply Kd.R_drewN | apply Kd.R_drew)); exact HO773.out) hb); have n4_ := Aside0.mk (Kd.R_lower (Kd.R_new' ho0 (Kd.R_lt (by (with_reducible repeat (first | apply Kd.R_alloc | apply Kd.R_drewN | apply Kd.R_drew)); exact HO766.out))) (below_size (by repeat (first | (with_reducible first | exact HB.out | apply below_alloc | apply pw_below_drewN | apply below_drew1) | exact HB.out)))); have n5_ := Aside0.mk (below_step (by repeat (first | (with_reducible first | exact HB.out | apply below_alloc | apply pw_below_drewN | apply below_drew1) | exact HB.out)) hb); clear HO763; clear HO766; clear HO770; clear HO773; clear HB; have HO763 := n0_; have HO766 := n1_; have HO770 := n2_; have HO773 := n3_; have HO776 := n4_; have HB := n5_; clear n0_ n1_ n2_ n3_ n4_ n5_; (try clear hb); (try clear hb2); (try clear hk); (try clear hi); (try clear ho0); obtain ⟨Ao20, co20, eo20⟩ := Kd.R_slice HO773.out; subst eo20; obtain ⟨Ao21, co21, eo21⟩ := Kd.R_slice HO776.out; subst eo21) | ((with_reducible refine gate_callee (f := 54) rfl ?_); refine goesL_ (some 40) rfl rfl Tryd.func54 (by kernel_rfl) rfl #[.slice Ao20 t771.length co20, .slice Ao21 t774.length co21] rfl (by (try simp only [List.map_toArray, List.map_cons, List.map_nil]); first | done | rfl | (simp only [List.length_drop, List.length_take]; rfl)) ?_; (with_reducible refine (impl_StemFill.calls k _ _ t771 _ _ t774 t777 t778 _ ?side1 ?side2 ?side3 ?side4 A11.out).mono ?_); (case side1 => repeat (first | exact (Kd.R_reads' HO773.out).2.2 | (with_reducible refine Kd.C_alloc ?_ _) | (with_reducible refine Kd.C_drewN ?_ _) | (with_reducible refine Kd.C_drew ?_))); (case side2 => exact (Kd.R_reads' HO773.out).2.1); (case side3 => repeat (first | exact (Kd.R_reads' HO776.out).2.2 | (with_reducible refine Kd.C_alloc ?_ _) | (with_reducible refine Kd.C_drewN ?_ _) | (with_reducible refine Kd.C_drew ?_))); (case side4 => exact (Kd.R_reads' HO776.out).2.1); rintro e w22 ⟨v779, rfl, ho0, hb⟩; refine ⟨_, rfl, ?_⟩; have n0_ := Aside0.mk (Kd.R_elder' (by (with_reducible repeat (first | apply Kd.R_alloc | apply Kd.R_drewN | apply Kd.R_drew)); exact HO763.out) (Kd.R_base ho0) hb); have n1_ := Aside0.mk (Kd.R_below (by (with_reducible repeat (first | apply Kd.R_alloc | apply Kd.R_drewN | apply Kd.R_drew)); exact HO766.out) hb); have n2_ := Aside0.mk (Kd.R_elder' (by (with_reducible repeat (first | apply Kd.R_alloc | apply Kd.R_drewN | apply Kd.R_drew)); exact HO770.out) (Kd.R_base ho0) hb); have n3_ := Aside0.mk (Kd.R_elder' (by (with_reducible repeat (first | apply Kd.R_alloc | apply Kd.R_drewN | apply Kd.R_drew)); exact HO773.out) (Kd.R_base ho0) hb); have n4_ := Aside0.mk (Kd.R_below (by (with_reducible repeat (first | apply Kd.R_alloc | apply Kd.R_drewN | apply Kd.R_drew)); exact HO776.out) hb); have n5_ := Aside0.mk (Kd.R_lower (Kd.R_new' (Kd.R_new' (Kd.R_new' ho0 (Kd.R_lt (by (with_reducible repeat (first | apply Kd.R_alloc | apply Kd.R_drewN | apply Kd.R_drew)); exact HO763.out))) (Kd.R_lt (by (with_reducible repeat (first | apply Kd.R_alloc | apply Kd.R_drewN | apply Kd.R_drew)); exact HO770.out))) (Kd.R_lt (by (with_reducible repeat (first | apply Kd.R_alloc | apply Kd.R_drewN | apply Kd.R_drew)); exact HO773.out))) (below_size (by repeat (first | (with_reducible first | exact HB.out | apply below_alloc | apply pw_below_drewN | apply below_drew1) | exact HB.out)))); have n6_ := Aside0.mk (below_step (by repeat (first | (with_reducible first | exact HB.out | apply below_alloc | apply pw_below_drewN | apply below_drew1) | exact HB.out)) hb); clear HO763; clear HO766; clear HO770; clear HO773; clear HO776; clear HB; have HO763 := n0_; have HO766 := n1_; have HO770 := n2_; have HO773 := n3_; have HO776 := n4_; have HO780 := n5_; have HB := n6_; clear n0_ n1_ n2_ n3_ n4_ n5_ n6_; (try clear hb); (try clear hb2); (try clear hk); (try clear hi); (try clear ho0)))
 (try simp only [Act.put, List.setIfInBounds_toArray, List.set_cons_zero, List.set_cons_succ])
 go_cut [51] (fun v51 wc => ∃ (kq : Nat) (x51_11 : Bool), v51 = .bool x51_11 ∧ Aside0 (laws_FnExactStemFill.j0 kq l0 l1 t767 t768 t771 t774 t777 t778 x51_11 = some r) ∧ Aside0 (kq ≤ k) ∧ Aside0 (Kd.R Kd.string 9 wc w.heap.size (fun k_ => some k_ ≠ ((.slice Ao20 t771.length co20) : Value).ownBlock ∧ some k_ ≠ (v779 : Value).ownBlock) v769 t767) ∧ Aside0 (Kd.R Kd.string 9 wc w.heap.size (fun k_ => some k_ ≠ (v769 : Value).ownBlock ∧ some k_ ≠ (v779 : Value).ownBlock) (.slice Ao20 t771.length co20) t771) ∧ Aside0 (Kd.R (Kd.int .i64) 3 wc w.heap.size (fun _ => True) (.slice Ao21 t774.length co21) t774) ∧ Aside0 (Kd.R Kd.string 9 wc w.heap.size (fun k_ => some k_ ≠ (v769 : Value).ownBlock ∧ some k_ ≠ ((.slice Ao20 t771.length co20) : Value).ownBlock) v779 t777) ∧ Aside0 (Below w.heap.size w wc))
 case first =>
  have H := HC12.out
  clear HC12
  replace H := Option.bind_eq_some_iff.mp H
  obtain ⟨t781, A230, H⟩ := H
  replace H : (if t781 = true then (laws_FnExactStemFill.j0 k l0 l1 t767 t768 t771 t774 t777 t778 (t778 != t768)) else (laws_FnExactStemFill.j0 k l0 l1 t767 t768 t771 t774 t777 t778 true)) = some r := H
  have A23 := Aside0.mk A230
  clear A230
  by_cases c24 : t781 = true
  ·subst c24
   have H1 : (laws_FnExactStemFill.j0 k l0 l1 t767 t768 t771 t774 t777 t778 (t778 != t768)) = some r := by rw [if_pos rfl] at H; exact H
   clear H
   have H := H1
   clear H1
   have H' := Aside0.mk H
   clear H
   obtain ⟨Ao25, co25, eo25⟩ := Kd.R_slice HO780.out
   subst eo25
   obtain ⟨Ao26, co26, eo26⟩ := Kd.R_slice HO770.out
   subst eo26
   go_wp2_with (first | ((with_reducible refine gate_callee (f := 25) rfl ?_); refine goesL_ (some 45) rfl rfl Tryd.func25 (by kernel_rfl) rfl #[.slice Ao25 t777.length co25, .slice Ao26 t767.length co26] rfl (by (try simp only [List.map_toArray, List.map_cons, List.map_nil]); first | done | rfl | (simp only [List.length_drop, List.length_take]; rfl)) ?_; (with_reducible refine (laws_eqStringS.calls k _ _ t777 _ _ t767 true _ ?side1 ?side2 ?side3 ?side4 A23.out).mono ?_); (case side1 => repeat (first | exact (Kd.R_reads' HO780.out).2.2 | (with_reducible refine Kd.C_alloc ?_ _) | (with_reducible refine Kd.C_drewN ?_ _) | (with_reducible refine Kd.C_drew ?_))); (case side2 => exact (Kd.R_reads' HO780.out).2.1); (case side3 => repeat (first | exact (Kd.R_reads' HO770.out).2.2 | (with_reducible refine Kd.C_alloc ?_ _) | (with_reducible refine Kd.C_drewN ?_ _) | (with_reducible refine Kd.C_drew ?_))); (case side4 => exact (Kd.R_reads' HO770.out).2.1); rintro e w' ⟨rfl, ⟨nd, rfl⟩⟩; refine ⟨_, rfl, ?_⟩))
   go_meet
   case rel => exact ⟨_, ((t778 != t768)), (by first | rfl | (simp; done) | (simp [*]; done)), H', ⟨by first | omega | exact Nat.le_refl _⟩, ⟨by (with_reducible repeat (first | apply Kd.R_alloc | apply Kd.R_drewN | apply Kd.R_drew)); exact Kd.R_mono HO770.out (fun _ hk => ⟨hk.1.2, hk.2⟩)⟩, ⟨by (with_reducible repeat (first | apply Kd.R_alloc | apply Kd.R_drewN | apply Kd.R_drew)); exact Kd.R_mono HO773.out (fun _ hk => ⟨hk.1.2, hk.2⟩)⟩, ⟨by (with_reducible repeat (first | apply Kd.R_alloc | apply Kd.R_drewN | apply Kd.R_drew)); exact Kd.R_mono HO776.out (fun _ hk => trivial)⟩, ⟨by (with_reducible repeat (first | apply Kd.R_alloc | apply Kd.R_drewN | apply Kd.R_drew)); exact Kd.R_mono HO780.out (fun _ hk => ⟨hk.1.2, hk.2⟩)⟩, ⟨by repeat (first | (with_reducible first | exact HB.out | apply below_alloc | apply pw_below_drewN | apply below_drew1) | exact HB.out)⟩⟩
  replace c24 := Bool.eq_false_iff.mpr c24
  subst c24
  have H1 : (laws_FnExactStemFill.j0 k l0 l1 t767 t768 t771 t774 t777 t778 true) = some r := by rw [if_neg (show ¬ (false = true) by decide)] at H; exact H
  clear H
  have H := H1
  clear H1
  have H' := Aside0.mk H
  clear H
  obtain ⟨Ao27, co27, eo27⟩ := Kd.R_slice HO780.out
  subst eo27
  obtain ⟨Ao28, co28, eo28⟩ := Kd.R_slice HO770.out
  subst eo28
  go_wp2_with (first | ((with_reducible refine gate_callee (f := 25) rfl ?_); refine goesL_ (some 45) rfl rfl Tryd.func25 (by kernel_rfl) rfl #[.slice Ao27 t777.length co27, .slice Ao28 t767.length co28] rfl (by (try simp only [List.map_toArray, List.map_cons, List.map_nil]); first | done | rfl | (simp only [List.length_drop, List.length_take]; rfl)) ?_; (with_reducible refine (laws_eqStringS.calls k _ _ t777 _ _ t767 false _ ?side1 ?side2 ?side3 ?side4 A23.out).mono ?_); (case side1 => repeat (first | exact (Kd.R_reads' HO780.out).2.2 | (with_reducible refine Kd.C_alloc ?_ _) | (with_reducible refine Kd.C_drewN ?_ _) | (with_reducible refine Kd.C_drew ?_))); (case side2 => exact (Kd.R_reads' HO780.out).2.1); (case side3 => repeat (first | exact (Kd.R_reads' HO770.out).2.2 | (with_reducible refine Kd.C_alloc ?_ _) | (with_reducible refine Kd.C_drewN ?_ _) | (with_reducible refine Kd.C_drew ?_))); (case side4 => exact (Kd.R_reads' HO770.out).2.1); rintro e w' ⟨rfl, ⟨nd, rfl⟩⟩; refine ⟨_, rfl, ?_⟩))
  go_meet
  case rel => exact ⟨_, (true), (by first | rfl | (simp; done) | (simp [*]; done)), H', ⟨by first | omega | exact Nat.le_refl _⟩, ⟨by (with_reducible repeat (first | apply Kd.R_alloc | apply Kd.R_drewN | apply Kd.R_drew)); exact Kd.R_mono HO770.out (fun _ hk => ⟨hk.1.2, hk.2⟩)⟩, ⟨by (with_reducible repeat (first | apply Kd.R_alloc | apply Kd.R_drewN | apply Kd.R_drew)); exact Kd.R_mono HO773.out (fun _ hk => ⟨hk.1.2, hk.2⟩)⟩, ⟨by (with_reducible repeat (first | apply Kd.R_alloc | apply Kd.R_drewN | apply Kd.R_drew)); exact Kd.R_mono HO776.out (fun _ hk => trivial)⟩, ⟨by (with_reducible repeat (first | apply Kd.R_alloc | apply Kd.R_drewN | apply Kd.R_drew)); exact Kd.R_mono HO780.out (fun _ hk => ⟨hk.1.2, hk.2⟩)⟩, ⟨by repeat (first | (with_reducible first | exact HB.out | apply below_alloc | apply pw_below_drewN | apply below_drew1) | exact HB.out)⟩⟩
 case rest =>
  clear HC12
  try clear c1
  try clear c2
  try clear p2
  try clear c3
  try clear c3b0
  try clear c3b1
  try clear c5
  try clear c5b0
  try clear c17
  try clear c21
  try clear c23
  try clear c24
  try clear c25
  obtain ⟨kq, x51_11, rfl, HA, HJ11, HO_6, HO_8, HO_9, HO_10, HB⟩ := hcut
  cases kq with
  | zero => exact absurd HA.out (by simp [laws_FnExactStemFill.j0])
  | succ kj11 =>
   have H := HA.out
   clear HA
   simp only [laws_FnExactStemFill.j0] at H
   by_cases c29 : x51_11 = true
   ·subst c29
    have H1 : (some false) = some r := by rw [if_pos rfl] at H; exact H
    clear H
    have H := H1
    clear H1
    obtain rfl := Option.some.inj H
    go_wp2
    go_ret
    exact ⟨by first | rfl | (simp [errW_none, errW_some] <;> rfl) | (simp [*, errW_none, errW_some] <;> rfl), by repeat (first | (with_reducible first | exact HB.out | apply below_alloc | apply pw_below_drewN | apply below_drew1) | exact HB.out)⟩
   replace c29 := Bool.eq_false_iff.mpr c29
   subst c29
   have H1 : ((laws_toStringS.f kj11 l0).bind fun t782 => ((laws_eqStringS.f kj11 t771 t782).bind fun t785 => (if t785 = true then ((laws_toIntS.f kj11 l1).bind fun t786 => ((laws_eqIntS.f kj11 t774 t786).bind fun t789 => (if t789 = true then ((laws_markStringS.f kj11 t771 1).bind fun bt790 => ((laws_markIntS.f kj11 t774 bt790.1).bind fun bt792 => (if bt792.1 < 0 then (laws_FnExactStemFill.j1 kj11 l0 l1 t767 t768 t777 true) else ((laws_eqStringS.f kj11 t777 t767).bind fun t794 => (if t794 = true then (laws_FnExactStemFill.j1 kj11 l0 l1 t767 t768 t777 (t778 != t768)) else (laws_FnExactStemFill.j1 kj11 l0 l1 t767 t768 t777 true)))))) else (some false)))) else (some false)))) = some r := by rw [if_neg (show ¬ (false = true) by decide)] at H; exact H
   clear H
   have H := H1
   clear H1
   replace H := Option.bind_eq_some_iff.mp H
   obtain ⟨t782, A300, H⟩ := H
   replace H : ((laws_eqStringS.f kj11 t771 t782).bind fun t785 => (if t785 = true then ((laws_toIntS.f kj11 l1).bind fun t786 => ((laws_eqIntS.f kj11 t774 t786).bind fun t789 => (if t789 = true then ((laws_markStringS.f kj11 t771 1).bind fun bt790 => ((laws_markIntS.f kj11 t774 bt790.1).bind fun bt792 => (if bt792.1 < 0 then (laws_FnExactStemFill.j1 kj11 l0 l1 t767 t768 t777 true) else ((laws_eqStringS.f kj11 t777 t767).bind fun t794 => (if t794 = true then (laws_FnExactStemFill.j1 kj11 l0 l1 t767 t768 t777 (t778 != t768)) else (laws_FnExactStemFill.j1 kj11 l0 l1 t767 t768 t777 true)))))) else (some false)))) else (some false))) = some r := H
   have A30 := Aside0.mk A300
   clear A300
   replace H := Option.bind_eq_some_iff.mp H
   obtain ⟨t785, A310, H⟩ := H
   replace H : (if t785 = true then ((laws_toIntS.f kj11 l1).bind fun t786 => ((laws_eqIntS.f kj11 t774 t786).bind fun t789 => (if t789 = true then ((laws_markStringS.f kj11 t771 1).bind fun bt790 => ((laws_markIntS.f kj11 t774 bt790.1).bind fun bt792 => (if bt792.1 < 0 then (laws_FnExactStemFill.j1 kj11 l0 l1 t767 t768 t777 true) else ((laws_eqStringS.f kj11 t777 t767).bind fun t794 => (if t794 = true then (laws_FnExactStemFill.j1 kj11 l0 l1 t767 t768 t777 (t778 != t768)) else (laws_FnExactStemFill.j1 kj11 l0 l1 t767 t768 t777 true)))))) else (some false)))) else (some false)) = some r := H
   have A31 := Aside0.mk A310
   clear A310
   by_cases c32 : t785 = true
   rotate_left
   ·replace c32 := Bool.eq_false_iff.mpr c32
    subst c32
    have H1 : (some false) = some r := by rw [if_neg (show ¬ (false = true) by decide)] at H; exact H
    clear H
    have H := H1
    clear H1
    obtain rfl := Option.some.inj H
    go_wp2_with (first | ((with_reducible refine gate_callee (f := 23) rfl ?_); refine goesL_ (some 54) rfl rfl Tryd.func23 (by kernel_rfl) rfl #[.slice A0 l0.length c0] rfl (by (try simp only [List.map_toArray, List.map_cons, List.map_nil]); first | done | rfl | (simp only [List.length_drop, List.length_take]; rfl)) ?_; (with_reducible refine (laws_toStringS.calls kj11 _ _ l0 t782 _ ?side1 ?side2 A30.out).mono ?_); (case side1 => repeat (first | exact (Kd.C_below HR0.out HB.out) | (with_reducible refine Kd.C_alloc ?_ _) | (with_reducible refine Kd.C_drewN ?_ _) | (with_reducible refine Kd.C_drew ?_))); (case side2 => exact HC0.out); rintro e w92 ⟨v783, rfl, ho0, hb⟩; refine ⟨_, rfl, ?_⟩; have n0_ := Aside0.mk (Kd.R_elder' (by (with_reducible repeat (first | apply Kd.R_alloc | apply Kd.R_drewN | apply Kd.R_drew)); exact HO_6.out) (Kd.R_base ho0) hb); have n1_ := Aside0.mk (Kd.R_elder' (by (with_reducible repeat (first | apply Kd.R_alloc | apply Kd.R_drewN | apply Kd.R_drew)); exact HO_8.out) (Kd.R_base ho0) hb); have n2_ := Aside0.mk (Kd.R_below (by (with_reducible repeat (first | apply Kd.R_alloc | apply Kd.R_drewN | apply Kd.R_drew)); exact HO_9.out) hb); have n3_ := Aside0.mk (Kd.R_elder' (by (with_reducible repeat (first | apply Kd.R_alloc | apply Kd.R_drewN | apply Kd.R_drew)); exact HO_10.out) (Kd.R_base ho0) hb); have n4_ := Aside0.mk (Kd.R_lower (Kd.R_new' (Kd.R_new' (Kd.R_new' ho0 (Kd.R_lt (by (with_reducible repeat (first | apply Kd.R_alloc | apply Kd.R_drewN | apply Kd.R_drew)); exact HO_6.out))) (Kd.R_lt (by (with_reducible repeat (first | apply Kd.R_alloc | apply Kd.R_drewN | apply Kd.R_drew)); exact HO_8.out))) (Kd.R_lt (by (with_reducible repeat (first | apply Kd.R_alloc | apply Kd.R_drewN | apply Kd.R_drew)); exact HO_10.out))) (below_size (by repeat (first | (with_reducible first | exact HB.out | apply below_alloc | apply pw_below_drewN | apply below_drew1) | exact HB.out)))); have n5_ := Aside0.mk (below_step (by repeat (first | (with_reducible first | exact HB.out | apply below_alloc | apply pw_below_drewN | apply below_drew1) | exact HB.out)) hb); clear HO_6; clear HO_8; clear HO_9; clear HO_10; clear HB; have HO_6 := n0_; have HO_8 := n1_; have HO_9 := n2_; have HO_10 := n3_; have HO784 := n4_; have HB := n5_; clear n0_ n1_ n2_ n3_ n4_ n5_; (try clear hb); (try clear hb2); (try clear hk); (try clear hi); (try clear ho0); obtain ⟨Ao93, co93, eo93⟩ := Kd.R_slice HO784.out; subst eo93) | ((with_reducible refine gate_callee (f := 25) rfl ?_); refine goesL_ (some 55) rfl rfl Tryd.func25 (by kernel_rfl) rfl #[.slice Ao20 t771.length co20, .slice Ao93 t782.length co93] rfl (by (try simp only [List.map_toArray, List.map_cons, List.map_nil]); first | done | rfl | (simp only [List.length_drop, List.length_take]; rfl)) ?_; (with_reducible refine (laws_eqStringS.calls kj11 _ _ t771 _ _ t782 false _ ?side1 ?side2 ?side3 ?side4 A31.out).mono ?_); (case side1 => repeat (first | exact (Kd.R_reads' HO_8.out).2.2 | (with_reducible refine Kd.C_alloc ?_ _) | (with_reducible refine Kd.C_drewN ?_ _) | (with_reducible refine Kd.C_drew ?_))); (case side2 => exact (Kd.R_reads' HO_8.out).2.1); (case side3 => repeat (first | exact (Kd.R_reads' HO784.out).2.2 | (with_reducible refine Kd.C_alloc ?_ _) | (with_reducible refine Kd.C_drewN ?_ _) | (with_reducible refine Kd.C_drew ?_))); (case side4 => exact (Kd.R_reads' HO784.out).2.1); rintro e w' ⟨rfl, ⟨nd, rfl⟩⟩; refine ⟨_, rfl, ?_⟩))
    go_ret
    exact ⟨by first | rfl | (simp [errW_none, errW_some] <;> rfl) | (simp [*, errW_none, errW_some] <;> rfl), by repeat (first | (with_reducible first | exact HB.out | apply below_alloc | apply pw_below_drewN | apply below_drew1) | exact HB.out)⟩
   subst c32
   have H1 : ((laws_toIntS.f kj11 l1).bind fun t786 => ((laws_eqIntS.f kj11 t774 t786).bind fun t789 => (if t789 = true then ((laws_markStringS.f kj11 t771 1).bind fun bt790 => ((laws_markIntS.f kj11 t774 bt790.1).bind fun bt792 => (if bt792.1 < 0 then (laws_FnExactStemFill.j1 kj11 l0 l1 t767 t768 t777 true) else ((laws_eqStringS.f kj11 t777 t767).bind fun t794 => (if t794 = true then (laws_FnExactStemFill.j1 kj11 l0 l1 t767 t768 t777 (t778 != t768)) else (laws_FnExactStemFill.j1 kj11 l0 l1 t767 t768 t777 true)))))) else (some false)))) = some r := by rw [if_pos rfl] at H; exact H
   clear H
   have H := H1
   clear H1
   replace H := Option.bind_eq_some_iff.mp H
   obtain ⟨t786, A330, H⟩ := H
   replace H : ((laws_eqIntS.f kj11 t774 t786).bind fun t789 => (if t789 = true then ((laws_markStringS.f kj11 t771 1).bind fun bt790 => ((laws_markIntS.f kj11 t774 bt790.1).bind fun bt792 => (if bt792.1 < 0 then (laws_FnExactStemFill.j1 kj11 l0 l1 t767 t768 t777 true) else ((laws_eqStringS.f kj11 t777 t767).bind fun t794 => (if t794 = true then (laws_FnExactStemFill.j1 kj11 l0 l1 t767 t768 t777 (t778 != t768)) else (laws_FnExactStemFill.j1 kj11 l0 l1 t767 t768 t777 true)))))) else (some false))) = some r := H
   have A33 := Aside0.mk A330
   clear A330
   replace H := Option.bind_eq_some_iff.mp H
   obtain ⟨t789, A340, H⟩ := H
   replace H : (if t789 = true then ((laws_markStringS.f kj11 t771 1).bind fun bt790 => ((laws_markIntS.f kj11 t774 bt790.1).bind fun bt792 => (if bt792.1 < 0 then (laws_FnExactStemFill.j1 kj11 l0 l1 t767 t768 t777 true) else ((laws_eqStringS.f kj11 t777 t767).bind fun t794 => (if t794 = true then (laws_FnExactStemFill.j1 kj11 l0 l1 t767 t768 t777 (t778 != t768)) else (laws_FnExactStemFill.j1 kj11 l0 l1 t767 t768 t777 true)))))) else (some false)) = some r := H
   have A34 := Aside0.mk A340
   clear A340
   by_cases c35 : t789 = true
   rotate_left
   ·replace c35 := Bool.eq_false_iff.mpr c35
    subst c35
    have H1 : (some false) = some r := by rw [if_neg (show ¬ (false = true) by decide)] at H; exact H
    clear H
    have H := H1
    clear H1
    obtain rfl := Option.some.inj H
    go_wp2_with (first | ((with_reducible refine gate_callee (f := 23) rfl ?_); refine goesL_ (some 54) rfl rfl Tryd.func23 (by kernel_rfl) rfl #[.slice A0 l0.length c0] rfl (by (try simp only [List.map_toArray, List.map_cons, List.map_nil]); first | done | rfl | (simp only [List.length_drop, List.length_take]; rfl)) ?_; (with_reducible refine (laws_toStringS.calls kj11 _ _ l0 t782 _ ?side1 ?side2 A30.out).mono ?_); (case side1 => repeat (first | exact (Kd.C_below HR0.out HB.out) | (with_reducible refine Kd.C_alloc ?_ _) | (with_reducible refine Kd.C_drewN ?_ _) | (with_reducible refine Kd.C_drew ?_))); (case side2 => exact HC0.out); rintro e w88 ⟨v783, rfl, ho0, hb⟩; refine ⟨_, rfl, ?_⟩; have n0_ := Aside0.mk (Kd.R_elder' (by (with_reducible repeat (first | apply Kd.R_alloc | apply Kd.R_drewN | apply Kd.R_drew)); exact HO_6.out) (Kd.R_base ho0) hb); have n1_ := Aside0.mk (Kd.R_elder' (by (with_reducible repeat (first | apply Kd.R_alloc | apply Kd.R_drewN | apply Kd.R_drew)); exact HO_8.out) (Kd.R_base ho0) hb); have n2_ := Aside0.mk (Kd.R_below (by (with_reducible repeat (first | apply Kd.R_alloc | apply Kd.R_drewN | apply Kd.R_drew)); exact HO_9.out) hb); have n3_ := Aside0.mk (Kd.R_elder' (by (with_reducible repeat (first | apply Kd.R_alloc | apply Kd.R_drewN | apply Kd.R_drew)); exact HO_10.out) (Kd.R_base ho0) hb); have n4_ := Aside0.mk (Kd.R_lower (Kd.R_new' (Kd.R_new' (Kd.R_new' ho0 (Kd.R_lt (by (with_reducible repeat (first | apply Kd.R_alloc | apply Kd.R_drewN | apply Kd.R_drew)); exact HO_6.out))) (Kd.R_lt (by (with_reducible repeat (first | apply Kd.R_alloc | apply Kd.R_drewN | apply Kd.R_drew)); exact HO_8.out))) (Kd.R_lt (by (with_reducible repeat (first | apply Kd.R_alloc | apply Kd.R_drewN | apply Kd.R_drew)); exact HO_10.out))) (below_size (by repeat (first | (with_reducible first | exact HB.out | apply below_alloc | apply pw_below_drewN | apply below_drew1) | exact HB.out)))); have n5_ := Aside0.mk (below_step (by repeat (first | (with_reducible first | exact HB.out | apply below_alloc | apply pw_below_drewN | apply below_drew1) | exact HB.out)) hb); clear HO_6; clear HO_8; clear HO_9; clear HO_10; clear HB; have HO_6 := n0_; have HO_8 := n1_; have HO_9 := n2_; have HO_10 := n3_; have HO784 := n4_; have HB := n5_; clear n0_ n1_ n2_ n3_ n4_ n5_; (try clear hb); (try clear hb2); (try clear hk); (try clear hi); (try clear ho0); obtain ⟨Ao89, co89, eo89⟩ := Kd.R_slice HO784.out; subst eo89) | ((with_reducible refine gate_callee (f := 25) rfl ?_); refine goesL_ (some 55) rfl rfl Tryd.func25 (by kernel_rfl) rfl #[.slice Ao20 t771.length co20, .slice Ao89 t782.length co89] rfl (by (try simp only [List.map_toArray, List.map_cons, List.map_nil]); first | done | rfl | (simp only [List.length_drop, List.length_take]; rfl)) ?_; (with_reducible refine (laws_eqStringS.calls kj11 _ _ t771 _ _ t782 true _ ?side1 ?side2 ?side3 ?side4 A31.out).mono ?_); (case side1 => repeat (first | exact (Kd.R_reads' HO_8.out).2.2 | (with_reducible refine Kd.C_alloc ?_ _) | (with_reducible refine Kd.C_drewN ?_ _) | (with_reducible refine Kd.C_drew ?_))); (case side2 => exact (Kd.R_reads' HO_8.out).2.1); (case side3 => repeat (first | exact (Kd.R_reads' HO784.out).2.2 | (with_reducible refine Kd.C_alloc ?_ _) | (with_reducible refine Kd.C_drewN ?_ _) | (with_reducible refine Kd.C_drew ?_))); (case side4 => exact (Kd.R_reads' HO784.out).2.1); rintro e w' ⟨rfl, ⟨nd, rfl⟩⟩; refine ⟨_, rfl, ?_⟩) | ((with_reducible refine gate_callee (f := 29) rfl ?_); refine goesL_ (some 59) rfl rfl Tryd.func29 (by kernel_rfl) rfl #[.slice A1 l1.length c1] rfl (by (try simp only [List.map_toArray, List.map_cons, List.map_nil]); first | done | rfl | (simp only [List.length_drop, List.length_take]; rfl)) ?_; (with_reducible refine (laws_toIntS.calls kj11 _ _ l1 t786 _ ?side1 ?side2 A33.out).mono ?_); (case side1 => repeat (first | exact (Kd.C_below HR1.out (by repeat (first | (with_reducible first | exact HB.out | apply below_alloc | apply pw_below_drewN | apply below_drew1) | exact HB.out))) | (with_reducible refine Kd.C_alloc ?_ _) | (with_reducible refine Kd.C_drewN ?_ _) | (with_reducible refine Kd.C_drew ?_))); (case side2 => exact HC1.out); rintro e w90 ⟨v787, rfl, ho0, hb⟩; refine ⟨_, rfl, ?_⟩; have n0_ := Aside0.mk (Kd.R_below (by (with_reducible repeat (first | apply Kd.R_alloc | apply Kd.R_drewN | apply Kd.R_drew)); exact HO_6.out) hb); have n1_ := Aside0.mk (Kd.R_below (by (with_reducible repeat (first | apply Kd.R_alloc | apply Kd.R_drewN | apply Kd.R_drew)); exact HO_8.out) hb); have n2_ := Aside0.mk (Kd.R_elder' (by (with_reducible repeat (first | apply Kd.R_alloc | apply Kd.R_drewN | apply Kd.R_drew)); exact HO_9.out) (Kd.R_base ho0) hb); have n3_ := Aside0.mk (Kd.R_below (by (with_reducible repeat (first | apply Kd.R_alloc | apply Kd.R_drewN | apply Kd.R_drew)); exact HO_10.out) hb); have n4_ := Aside0.mk (Kd.R_below (by (with_reducible repeat (first | apply Kd.R_alloc | apply Kd.R_drewN | apply Kd.R_drew)); exact HO784.out) hb); have n5_ := Aside0.mk (Kd.R_lower (Kd.R_new' ho0 (Kd.R_lt (by (with_reducible repeat (first | apply Kd.R_alloc | apply Kd.R_drewN | apply Kd.R_drew)); exact HO_9.out))) (below_size (by repeat (first | (with_reducible first | exact HB.out | apply below_alloc | apply pw_below_drewN | apply below_drew1) | exact HB.out)))); have n6_ := Aside0.mk (below_step (by repeat (first | (with_reducible first | exact HB.out | apply below_alloc | apply pw_below_drewN | apply below_drew1) | exact HB.out)) hb); clear HO_6; clear HO_8; clear HO_9; clear HO_10; clear HO784; clear HB; have HO_6 := n0_; have HO_8 := n1_; have HO_9 := n2_; have HO_10 := n3_; have HO784 := n4_; have HO788 := n5_; have HB := n6_; clear n0_ n1_ n2_ n3_ n4_ n5_ n6_; (try clear hb); (try clear hb2); (try clear hk); (try clear hi); (try clear ho0); obtain ⟨Ao91, co91, eo91⟩ := Kd.R_slice HO788.out; subst eo91) | ((with_reducible refine gate_callee (f := 31) rfl ?_); refine goesL_ (some 60) rfl rfl Tryd.func31 (by kernel_rfl) rfl #[.slice Ao21 t774.length co21, .slice Ao91 t786.length co91] rfl (by (try simp only [List.map_toArray, List.map_cons, List.map_nil]); first | done | rfl | (simp only [List.length_drop, List.length_take]; rfl)) ?_; (with_reducible refine (laws_eqIntS.calls kj11 _ _ t774 _ _ t786 false _ ?side1 ?side2 ?side3 ?side4 A34.out).mono ?_); (case side1 => repeat (first | exact (Kd.R_reads' HO_9.out).2.2 | (with_reducible refine Kd.C_alloc ?_ _) | (with_reducible refine Kd.C_drewN ?_ _) | (with_reducible refine Kd.C_drew ?_))); (case side2 => exact (Kd.R_reads' HO_9.out).2.1); (case side3 => repeat (first | exact (Kd.R_reads' HO788.out).2.2 | (with_reducible refine Kd.C_alloc ?_ _) | (with_reducible refine Kd.C_drewN ?_ _) | (with_reducible refine Kd.C_drew ?_))); (case side4 => exact (Kd.R_reads' HO788.out).2.1); rintro e w' ⟨rfl, ⟨nd, rfl⟩⟩; refine ⟨_, rfl, ?_⟩))
    go_ret
    exact ⟨by first | rfl | (simp [errW_none, errW_some] <;> rfl) | (simp [*, errW_none, errW_some] <;> rfl), by repeat (first | (with_reducible first | exact HB.out | apply below_alloc | apply pw_below_drewN | apply below_drew1) | exact HB.out)⟩
   subst c35
   have H1 : ((laws_markStringS.f kj11 t771 1).bind fun bt790 => ((laws_markIntS.f kj11 t774 bt790.1).bind fun bt792 => (if bt792.1 < 0 then (laws_FnExactStemFill.j1 kj11 l0 l1 t767 t768 t777 true) else ((laws_eqStringS.f kj11 t777 t767).bind fun t794 => (if t794 = true then (laws_FnExactStemFill.j1 kj11 l0 l1 t767 t768 t777 (t778 != t768)) else (laws_FnExactStemFill.j1 kj11 l0 l1 t767 t768 t777 true)))))) = some r := by rw [if_pos rfl] at H; exact H
   clear H
   have H := H1
   clear H1
   replace H := Option.bind_eq_some_iff.mp H
   obtain ⟨⟨t790, t791⟩, A360, H⟩ := H
   replace H : ((laws_markIntS.f kj11 t774 t790).bind fun bt792 => (if bt792.1 < 0 then (laws_FnExactStemFill.j1 kj11 l0 l1 t767 t768 t777 true) else ((laws_eqStringS.f kj11 t777 t767).bind fun t794 => (if t794 = true then (laws_FnExactStemFill.j1 kj11 l0 l1 t767 t768 t777 (t778 != t768)) else (laws_FnExactStemFill.j1 kj11 l0 l1 t767 t768 t777 true))))) = some r := H
   have A36 := Aside0.mk A360
   clear A360
   replace H := Option.bind_eq_some_iff.mp H
   obtain ⟨⟨t792, t793⟩, A370, H⟩ := H
   replace H : (if t792 < 0 then (laws_FnExactStemFill.j1 kj11 l0 l1 t767 t768 t777 true) else ((laws_eqStringS.f kj11 t777 t767).bind fun t794 => (if t794 = true then (laws_FnExactStemFill.j1 kj11 l0 l1 t767 t768 t777 (t778 != t768)) else (laws_FnExactStemFill.j1 kj11 l0 l1 t767 t768 t777 true)))) = some r := H
   have A37 := Aside0.mk A370
   clear A370
   have HC38 := Aside0.mk H
   clear H
   go_upto_region 20 with (first | ((with_reducible refine gate_callee (f := 23) rfl ?_); refine goesL_ (some 54) rfl rfl Tryd.func23 (by kernel_rfl) rfl #[.slice A0 l0.length c0] rfl (by (try simp only [List.map_toArray, List.map_cons, List.map_nil]); first | done | rfl | (simp only [List.length_drop, List.length_take]; rfl)) ?_; (with_reducible refine (laws_toStringS.calls kj11 _ _ l0 t782 _ ?side1 ?side2 A30.out).mono ?_); (case side1 => repeat (first | exact (Kd.C_below HR0.out HB.out) | (with_reducible refine Kd.C_alloc ?_ _) | (with_reducible refine Kd.C_drewN ?_ _) | (with_reducible refine Kd.C_drew ?_))); (case side2 => exact HC0.out); rintro e w39 ⟨v783, rfl, ho0, hb⟩; refine ⟨_, rfl, ?_⟩; have n0_ := Aside0.mk (Kd.R_elder' (by (with_reducible repeat (first | apply Kd.R_alloc | apply Kd.R_drewN | apply Kd.R_drew)); exact HO_6.out) (Kd.R_base ho0) hb); have n1_ := Aside0.mk (Kd.R_elder' (by (with_reducible repeat (first | apply Kd.R_alloc | apply Kd.R_drewN | apply Kd.R_drew)); exact HO_8.out) (Kd.R_base ho0) hb); have n2_ := Aside0.mk (Kd.R_below (by (with_reducible repeat (first | apply Kd.R_alloc | apply Kd.R_drewN | apply Kd.R_drew)); exact HO_9.out) hb); have n3_ := Aside0.mk (Kd.R_elder' (by (with_reducible repeat (first | apply Kd.R_alloc | apply Kd.R_drewN | apply Kd.R_drew)); exact HO_10.out) (Kd.R_base ho0) hb); have n4_ := Aside0.mk (Kd.R_lower (Kd.R_new' (Kd.R_new' (Kd.R_new' ho0 (Kd.R_lt (by (with_reducible repeat (first | apply Kd.R_alloc | apply Kd.R_drewN | apply Kd.R_drew)); exact HO_6.out))) (Kd.R_lt (by (with_reducible repeat (first | apply Kd.R_alloc | apply Kd.R_drewN | apply Kd.R_drew)); exact HO_8.out))) (Kd.R_lt (by (with_reducible repeat (first | apply Kd.R_alloc | apply Kd.R_drewN | apply Kd.R_drew)); exact HO_10.out))) (below_size (by repeat (first | (with_reducible first | exact HB.out | apply below_alloc | apply pw_below_drewN | apply below_drew1) | exact HB.out)))); have n5_ := Aside0.mk (below_step (by repeat (first | (with_reducible first | exact HB.out | apply below_alloc | apply pw_below_drewN | apply below_drew1) | exact HB.out)) hb); clear HO_6; clear HO_8; clear HO_9; clear HO_10; clear HB; have HO_6 := n0_; have HO_8 := n1_; have HO_9 := n2_; have HO_10 := n3_; have HO784 := n4_; have HB := n5_; clear n0_ n1_ n2_ n3_ n4_ n5_; (try clear hb); (try clear hb2); (try clear hk); (try clear hi); (try clear ho0); obtain ⟨Ao40, co40, eo40⟩ := Kd.R_slice HO784.out; subst eo40) | ((with_reducible refine gate_callee (f := 25) rfl ?_); refine goesL_ (some 55) rfl rfl Tryd.func25 (by kernel_rfl) rfl #[.slice Ao20 t771.length co20, .slice Ao40 t782.length co40] rfl (by (try simp only [List.map_toArray, List.map_cons, List.map_nil]); first | done | rfl | (simp only [List.length_drop, List.length_take]; rfl)) ?_; (with_reducible refine (laws_eqStringS.calls kj11 _ _ t771 _ _ t782 true _ ?side1 ?side2 ?side3 ?side4 A31.out).mono ?_); (case side1 => repeat (first | exact (Kd.R_reads' HO_8.out).2.2 | (with_reducible refine Kd.C_alloc ?_ _) | (with_reducible refine Kd.C_drewN ?_ _) | (with_reducible refine Kd.C_drew ?_))); (case side2 => exact (Kd.R_reads' HO_8.out).2.1); (case side3 => repeat (first | exact (Kd.R_reads' HO784.out).2.2 | (with_reducible refine Kd.C_alloc ?_ _) | (with_reducible refine Kd.C_drewN ?_ _) | (with_reducible refine Kd.C_drew ?_))); (case side4 => exact (Kd.R_reads' HO784.out).2.1); rintro e w' ⟨rfl, ⟨nd, rfl⟩⟩; refine ⟨_, rfl, ?_⟩) | ((with_reducible refine gate_callee (f := 29) rfl ?_); refine goesL_ (some 59) rfl rfl Tryd.func29 (by kernel_rfl) rfl #[.slice A1 l1.length c1] rfl (by (try simp only [List.map_toArray, List.map_cons, List.map_nil]); first | done | rfl | (simp only [List.length_drop, List.length_take]; rfl)) ?_; (with_reducible refine (laws_toIntS.calls kj11 _ _ l1 t786 _ ?side1 ?side2 A33.out).mono ?_); (case side1 => repeat (first | exact (Kd.C_below HR1.out (by repeat (first | (with_reducible first | exact HB.out | apply below_alloc | apply pw_below_drewN | apply below_drew1) | exact HB.out))) | (with_reducible refine Kd.C_alloc ?_ _) | (with_reducible refine Kd.C_drewN ?_ _) | (with_reducible refine Kd.C_drew ?_))); (case side2 => exact HC1.out); rintro e w41 ⟨v787, rfl, ho0, hb⟩; refine ⟨_, rfl, ?_⟩; have n0_ := Aside0.mk (Kd.R_below (by (with_reducible repeat (first | apply Kd.R_alloc | apply Kd.R_drewN | apply Kd.R_drew)); exact HO_6.out) hb); have n1_ := Aside0.mk (Kd.R_below (by (with_reducible repeat (first | apply Kd.R_alloc | apply Kd.R_drewN | apply Kd.R_drew)); exact HO_8.out) hb); have n2_ := Aside0.mk (Kd.R_elder' (by (with_reducible repeat (first | apply Kd.R_alloc | apply Kd.R_drewN | apply Kd.R_drew)); exact HO_9.out) (Kd.R_base ho0) hb); have n3_ := Aside0.mk (Kd.R_below (by (with_reducible repeat (first | apply Kd.R_alloc | apply Kd.R_drewN | apply Kd.R_drew)); exact HO_10.out) hb); have n4_ := Aside0.mk (Kd.R_below (by (with_reducible repeat (first | apply Kd.R_alloc | apply Kd.R_drewN | apply Kd.R_drew)); exact HO784.out) hb); have n5_ := Aside0.mk (Kd.R_lower (Kd.R_new' ho0 (Kd.R_lt (by (with_reducible repeat (first | apply Kd.R_alloc | apply Kd.R_drewN | apply Kd.R_drew)); exact HO_9.out))) (below_size (by repeat (first | (with_reducible first | exact HB.out | apply below_alloc | apply pw_below_drewN | apply below_drew1) | exact HB.out)))); have n6_ := Aside0.mk (below_step (by repeat (first | (with_reducible first | exact HB.out | apply below_alloc | apply pw_below_drewN | apply below_drew1) | exact HB.out)) hb); clear HO_6; clear HO_8; clear HO_9; clear HO_10; clear HO784; clear HB; have HO_6 := n0_; have HO_8 := n1_; have HO_9 := n2_; have HO_10 := n3_; have HO784 := n4_; have HO788 := n5_; have HB := n6_; clear n0_ n1_ n2_ n3_ n4_ n5_ n6_; (try clear hb); (try clear hb2); (try clear hk); (try clear hi); (try clear ho0); obtain ⟨Ao42, co42, eo42⟩ := Kd.R_slice HO788.out; subst eo42) | ((with_reducible refine gate_callee (f := 31) rfl ?_); refine goesL_ (some 60) rfl rfl Tryd.func31 (by kernel_rfl) rfl #[.slice Ao21 t774.length co21, .slice Ao42 t786.length co42] rfl (by (try simp only [List.map_toArray, List.map_cons, List.map_nil]); first | done | rfl | (simp only [List.length_drop, List.length_take]; rfl)) ?_; (with_reducible refine (laws_eqIntS.calls kj11 _ _ t774 _ _ t786 true _ ?side1 ?side2 ?side3 ?side4 A34.out).mono ?_); (case side1 => repeat (first | exact (Kd.R_reads' HO_9.out).2.2 | (with_reducible refine Kd.C_alloc ?_ _) | (with_reducible refine Kd.C_drewN ?_ _) | (with_reducible refine Kd.C_drew ?_))); (case side2 => exact (Kd.R_reads' HO_9.out).2.1); (case side3 => repeat (first | exact (Kd.R_reads' HO788.out).2.2 | (with_reducible refine Kd.C_alloc ?_ _) | (with_reducible refine Kd.C_drewN ?_ _) | (with_reducible refine Kd.C_drew ?_))); (case side4 => exact (Kd.R_reads' HO788.out).2.1); rintro e w' ⟨rfl, ⟨nd, rfl⟩⟩; refine ⟨_, rfl, ?_⟩) | ((with_reducible refine gate_callee (f := 42) rfl ?_); refine goesL_ (some 64) rfl rfl Tryd.func42 (by kernel_rfl) rfl #[.slice Ao20 t771.length co20, .int .i64 1] rfl (by (try simp only [List.map_toArray, List.map_cons, List.map_nil]); first | done | rfl | (simp only [List.length_drop, List.length_take]; rfl)) ?_; (with_reducible refine (laws_markStringS.calls kj11 (fun k_ => some k_ = (.slice Ao20 t771.length co20 : Value).ownBlock) (.slice Ao20 t771.length co20) t771 1 t790 t791 w _ ?side1 ?side2 A36.out).mono ?_); (case side1 => repeat (first | (with_reducible first | exact HB.out | apply below_alloc | apply pw_below_drewN | apply below_drew1) | exact HB.out)); (case side2 => exact Kd.R_tight rfl HO_8.out); rintro e w43 ⟨rfl, hy0, hb, hkp⟩; refine ⟨_, rfl, ?_⟩; have n0_ := Aside0.mk (Kd.R_mono (ok' := fun k_ => some k_ ≠ (.slice Ao20 t771.length co20 : Value).ownBlock ∧ some k_ ≠ (v779 : Value).ownBlock ∧ some k_ ≠ (.slice Ao40 t782.length co40 : Value).ownBlock) (Kd.R_keptB (HO_6.out) hkp (fun k_ hk_ hs_ => (hk_.1.1) hs_)) (fun k_ hk_ => ⟨hk_.1.1.1, hk_.1.1.2, hk_.1.2⟩)); have n1_ := Aside0.mk (Kd.R_reok rfl hy0 (fun k_ e_ => HO_8.out.1 k_ e_)); have n2_ := Aside0.mk (Kd.R_mono (ok' := fun k_ => some k_ ≠ (.slice Ao42 t786.length co42 : Value).ownBlock) (Kd.R_keptB ((Kd.R_apart' HO_9.out (Kd.R_typed HO_8.out) (by decide))) hkp (fun k_ hk_ hs_ => (hk_.2) hs_)) (fun k_ hk_ => hk_.1.1.2)); have n3_ := Aside0.mk (Kd.R_mono (ok' := fun k_ => some k_ ≠ (v769 : Value).ownBlock ∧ some k_ ≠ (.slice Ao20 t771.length co20 : Value).ownBlock ∧ some k_ ≠ (.slice Ao40 t782.length co40 : Value).ownBlock) (Kd.R_keptB (HO_10.out) hkp (fun k_ hk_ hs_ => (hk_.1.2) hs_)) (fun k_ hk_ => ⟨hk_.1.1.1, hk_.1.1.2, hk_.1.2⟩)); have n4_ := Aside0.mk (Kd.R_mono (ok' := fun k_ => some k_ ≠ (v769 : Value).ownBlock ∧ some k_ ≠ (.slice Ao20 t771.length co20 : Value).ownBlock ∧ some k_ ≠ (v779 : Value).ownBlock) (Kd.R_keptB (HO784.out) hkp (fun k_ hk_ hs_ => (hk_.1.2) hs_)) (fun k_ hk_ => ⟨hk_.1.1.1.2, hk_.1.1.2, hk_.1.2⟩)); have n5_ := Aside0.mk (Kd.R_mono (ok' := fun k_ => some k_ ≠ (.slice Ao21 t774.length co21 : Value).ownBlock) (Kd.R_keptB ((Kd.R_apart' HO788.out (Kd.R_typed HO_8.out) (by decide))) hkp (fun k_ hk_ hs_ => (hk_.2) hs_)) (fun k_ hk_ => hk_.1.1.2)); have n6_ := Aside0.mk (hb); clear HO_6; clear HO_8; clear HO_9; clear HO_10; clear HO784; clear HO788; clear HB; have HO_6 := n0_; have HO_8 := n1_; have HO_9 := n2_; have HO_10 := n3_; have HO784 := n4_; have HO788 := n5_; have HB := n6_; clear n0_ n1_ n2_ n3_ n4_ n5_ n6_; (try clear hb); (try clear hkp); (try clear hy0)) | ((with_reducible refine gate_callee (f := 43) rfl ?_); refine goesL_ (some 67) rfl rfl Tryd.func43 (by kernel_rfl) rfl #[.slice Ao21 t774.length co21, .int .i64 t790] rfl (by (try simp only [List.map_toArray, List.map_cons, List.map_nil]); first | done | rfl | (simp only [List.length_drop, List.length_take]; rfl)) ?_; (with_reducible refine (laws_markIntS.calls kj11 (fun k_ => some k_ = (.slice Ao21 t774.length co21 : Value).ownBlock) (.slice Ao21 t774.length co21) t774 t790 t792 t793 w _ ?side1 ?side2 A37.out).mono ?_); (case side1 => repeat (first | (with_reducible first | exact HB.out | apply below_alloc | apply pw_below_drewN | apply below_drew1) | exact HB.out)); (case side2 => exact Kd.R_tight rfl HO_9.out); rintro e w44 ⟨rfl, hy0, hb, hkp⟩; refine ⟨_, rfl, ?_⟩; have n0_ := Aside0.mk (Kd.R_mono (ok' := fun k_ => some k_ ≠ (.slice Ao20 t771.length co20 : Value).ownBlock ∧ some k_ ≠ (v779 : Value).ownBlock ∧ some k_ ≠ (.slice Ao40 t782.length co40 : Value).ownBlock) (Kd.R_keptB ((Kd.R_apart' HO_6.out (Kd.R_typed HO_9.out) (by decide))) hkp (fun k_ hk_ hs_ => (hk_.2) hs_)) (fun k_ hk_ => ⟨hk_.1.1.1, hk_.1.1.2.1, hk_.1.1.2.2⟩)); have n1_ := Aside0.mk (Kd.R_mono (ok' := fun k_ => some k_ ≠ (v769 : Value).ownBlock ∧ some k_ ≠ (v779 : Value).ownBlock ∧ some k_ ≠ (.slice Ao40 t782.length co40 : Value).ownBlock) (Kd.R_keptB ((Kd.R_apart' HO_8.out (Kd.R_typed HO_9.out) (by decide))) hkp (fun k_ hk_ hs_ => (hk_.2) hs_)) (fun k_ hk_ => ⟨hk_.1.1.1.1, hk_.1.1.1.2, hk_.1.1.2⟩)); have n2_ := Aside0.mk (Kd.R_reok rfl hy0 (fun k_ e_ => HO_9.out.1 k_ e_)); have n3_ := Aside0.mk (Kd.R_mono (ok' := fun k_ => some k_ ≠ (v769 : Value).ownBlock ∧ some k_ ≠ (.slice Ao20 t771.length co20 : Value).ownBlock ∧ some k_ ≠ (.slice Ao40 t782.length co40 : Value).ownBlock) (Kd.R_keptB ((Kd.R_apart' HO_10.out (Kd.R_typed HO_9.out) (by decide))) hkp (fun k_ hk_ hs_ => (hk_.2) hs_)) (fun k_ hk_ => ⟨hk_.1.1.1, hk_.1.1.2.1, hk_.1.1.2.2⟩)); have n4_ := Aside0.mk (Kd.R_mono (ok' := fun k_ => some k_ ≠ (v769 : Value).ownBlock ∧ some k_ ≠ (.slice Ao20 t771.length co20 : Value).ownBlock ∧ some k_ ≠ (v779 : Value).ownBlock) (Kd.R_keptB ((Kd.R_apart' HO784.out (Kd.R_typed HO_9.out) (by decide))) hkp (fun k_ hk_ hs_ => (hk_.2) hs_)) (fun k_ hk_ => ⟨hk_.1.1.1, hk_.1.1.2.1, hk_.1.1.2.2⟩)); have n5_ := Aside0.mk (Kd.R_mono (ok' := fun k_ => some k_ ≠ (.slice Ao21 t774.length co21 : Value).ownBlock) (Kd.R_keptB (HO788.out) hkp (fun k_ hk_ hs_ => (hk_) hs_)) (fun k_ hk_ => hk_.1)); have n6_ := Aside0.mk (hb); clear HO_6; clear HO_8; clear HO_9; clear HO_10; clear HO784; clear HO788; clear HB; have HO_6 := n0_; have HO_8 := n1_; have HO_9 := n2_; have HO_10 := n3_; have HO784 := n4_; have HO788 := n5_; have HB := n6_; clear n0_ n1_ n2_ n3_ n4_ n5_ n6_; (try clear hb); (try clear hkp); (try clear hy0)))
   (try simp only [Act.put, List.setIfInBounds_toArray, List.set_cons_zero, List.set_cons_succ])
   go_cut [80] (fun v80 wc => ∃ (kq : Nat) (x80_37 : Bool), v80 = .bool x80_37 ∧ Aside0 (laws_FnExactStemFill.j1 kq l0 l1 t767 t768 t777 x80_37 = some r) ∧ Aside0 (kq ≤ kj11) ∧ Aside0 (Kd.R Kd.string 9 wc w.heap.size (fun k_ => some k_ ≠ (v779 : Value).ownBlock) v769 t767) ∧ Aside0 (Kd.R Kd.string 9 wc w.heap.size (fun k_ => some k_ ≠ (v769 : Value).ownBlock) v779 t777) ∧ Aside0 (Below w.heap.size w wc))
   case first =>
    have H := HC38.out
    clear HC38
    by_cases c45 : t792 < 0
    ·rw [if_pos c45] at H
     have c45b0 : decide (t792 < 0) = true := decide_eq_true c45
     clear c45
     (first | rw [c45b0] | (simp only [i64_w, i32_w]; rw [c45b0]) | skip)
     have H' := Aside0.mk H
     clear H
     go_wp2
     go_meet
     case rel => exact ⟨_, (true), (by first | rfl | (simp; done) | (simp [*]; done)), H', ⟨by have := HJ11.out; first | omega | exact Nat.le_refl _⟩, ⟨by (with_reducible repeat (first | apply Kd.R_alloc | apply Kd.R_drewN | apply Kd.R_drew)); exact Kd.R_mono HO_6.out (fun _ hk => hk.2.1)⟩, ⟨by (with_reducible repeat (first | apply Kd.R_alloc | apply Kd.R_drewN | apply Kd.R_drew)); exact Kd.R_mono HO_10.out (fun _ hk => hk.1)⟩, ⟨by repeat (first | (with_reducible first | exact HB.out | apply below_alloc | apply pw_below_drewN | apply below_drew1) | exact HB.out)⟩⟩
    rw [if_neg c45] at H
    have c45b0 : decide (t792 < 0) = false := decide_eq_false c45
    clear c45
    (first | rw [c45b0] | (simp only [i64_w, i32_w]; rw [c45b0]) | skip)
    replace H := Option.bind_eq_some_iff.mp H
    obtain ⟨t794, A460, H⟩ := H
    replace H : (if t794 = true then (laws_FnExactStemFill.j1 kj11 l0 l1 t767 t768 t777 (t778 != t768)) else (laws_FnExactStemFill.j1 kj11 l0 l1 t767 t768 t777 true)) = some r := H
    have A46 := Aside0.mk A460
    clear A460
    by_cases c47 : t794 = true
    ·subst c47
     have H1 : (laws_FnExactStemFill.j1 kj11 l0 l1 t767 t768 t777 (t778 != t768)) = some r := by rw [if_pos rfl] at H; exact H
     clear H
     have H := H1
     clear H1
     have H' := Aside0.mk H
     clear H
     obtain ⟨Ao48, co48, eo48⟩ := Kd.R_slice HO_10.out
     subst eo48
     obtain ⟨Ao49, co49, eo49⟩ := Kd.R_slice HO_6.out
     subst eo49
     go_wp2_with (first | (go_at_call 25; (with_reducible refine (laws_eqStringS.calls kj11 _ _ t777 _ _ t767 true _ ?side1 ?side2 ?side3 ?side4 A46.out).mono ?_); (case side1 => repeat (first | exact (Kd.R_reads' HO_10.out).2.2 | (with_reducible refine Kd.C_alloc ?_ _) | (with_reducible refine Kd.C_drewN ?_ _) | (with_reducible refine Kd.C_drew ?_))); (case side2 => exact (Kd.R_reads' HO_10.out).2.1); (case side3 => repeat (first | exact (Kd.R_reads' HO_6.out).2.2 | (with_reducible refine Kd.C_alloc ?_ _) | (with_reducible refine Kd.C_drewN ?_ _) | (with_reducible refine Kd.C_drew ?_))); (case side4 => exact (Kd.R_reads' HO_6.out).2.1); rintro e w' ⟨rfl, ⟨nd, rfl⟩⟩))
     go_meet
     case rel => exact ⟨_, ((t778 != t768)), (by first | rfl | (simp; done) | (simp [*]; done)), H', ⟨by have := HJ11.out; first | omega | exact Nat.le_refl _⟩, ⟨by (with_reducible repeat (first | apply Kd.R_alloc | apply Kd.R_drewN | apply Kd.R_drew)); exact Kd.R_mono HO_6.out (fun _ hk => hk.2.1)⟩, ⟨by (with_reducible repeat (first | apply Kd.R_alloc | apply Kd.R_drewN | apply Kd.R_drew)); exact Kd.R_mono HO_10.out (fun _ hk => hk.1)⟩, ⟨by repeat (first | (with_reducible first | exact HB.out | apply below_alloc | apply pw_below_drewN | apply below_drew1) | exact HB.out)⟩⟩
    replace c47 := Bool.eq_false_iff.mpr c47
    subst c47
    have H1 : (laws_FnExactStemFill.j1 kj11 l0 l1 t767 t768 t777 true) = some r := by rw [if_neg (show ¬ (false = true) by decide)] at H; exact H
    clear H
    have H := H1
    clear H1
    have H' := Aside0.mk H
    clear H
    obtain ⟨Ao50, co50, eo50⟩ := Kd.R_slice HO_10.out
    subst eo50
    obtain ⟨Ao51, co51, eo51⟩ := Kd.R_slice HO_6.out
    subst eo51
    go_wp2_with (first | (go_at_call 25; (with_reducible refine (laws_eqStringS.calls kj11 _ _ t777 _ _ t767 false _ ?side1 ?side2 ?side3 ?side4 A46.out).mono ?_); (case side1 => repeat (first | exact (Kd.R_reads' HO_10.out).2.2 | (with_reducible refine Kd.C_alloc ?_ _) | (with_reducible refine Kd.C_drewN ?_ _) | (with_reducible refine Kd.C_drew ?_))); (case side2 => exact (Kd.R_reads' HO_10.out).2.1); (case side3 => repeat (first | exact (Kd.R_reads' HO_6.out).2.2 | (with_reducible refine Kd.C_alloc ?_ _) | (with_reducible refine Kd.C_drewN ?_ _) | (with_reducible refine Kd.C_drew ?_))); (case side4 => exact (Kd.R_reads' HO_6.out).2.1); rintro e w' ⟨rfl, ⟨nd, rfl⟩⟩))
    go_meet
    case rel => exact ⟨_, (true), (by first | rfl | (simp; done) | (simp [*]; done)), H', ⟨by have := HJ11.out; first | omega | exact Nat.le_refl _⟩, ⟨by (with_reducible repeat (first | apply Kd.R_alloc | apply Kd.R_drewN | apply Kd.R_drew)); exact Kd.R_mono HO_6.out (fun _ hk => hk.2.1)⟩, ⟨by (with_reducible repeat (first | apply Kd.R_alloc | apply Kd.R_drewN | apply Kd.R_drew)); exact Kd.R_mono HO_10.out (fun _ hk => hk.1)⟩, ⟨by repeat (first | (with_reducible first | exact HB.out | apply below_alloc | apply pw_below_drewN | apply below_drew1) | exact HB.out)⟩⟩
   case rest =>
    clear HC38
    try clear c1
    try clear c2
    try clear p2
    try clear c3
    try clear c3b0
    try clear c3b1
    try clear c4
    try clear c5
    try clear c5b0
    try clear c17
    try clear c21
    try clear c23
    try clear c24
    try clear c25
    try clear c29
    try clear c31
    try clear c32
    try clear c35
    try clear c42
    try clear c43
    try clear c45
    try clear c45b0
    try clear c47
    try clear p2
    obtain ⟨kq, x80_37, rfl, HA, HJ37, HO_6, HO_10, HB⟩ := hcut
    cases kq with
    | zero => exact absurd HA.out (by simp [laws_FnExactStemFill.j1])
    | succ kj37 =>
     have H := HA.out
     clear HA
     simp only [laws_FnExactStemFill.j1] at H
     by_cases c52 : x80_37 = true
     ·subst c52
      have H1 : (some false) = some r := by rw [if_pos rfl] at H; exact H
      clear H
      have H := H1
      clear H1
      obtain rfl := Option.some.inj H
      go_wp2
      go_ret
      exact ⟨by first | rfl | (simp [errW_none, errW_some] <;> rfl) | (simp [*, errW_none, errW_some] <;> rfl), by repeat (first | (with_reducible first | exact HB.out | apply below_alloc | apply pw_below_drewN | apply below_drew1) | exact HB.out)⟩
     replace c52 := Bool.eq_false_iff.mpr c52
     subst c52
     have H1 : ((laws_markStringS.f kj37 t777 1).bind fun bt795 => ((laws_heldStringS.f kj37 bt795.2 1).bind fun t797 => (if t797 < 0 then (some false) else (if t797 = bt795.1 then ((laws_toStringS.f kj37 l0).bind fun t798 => ((laws_toIntS.f kj37 l1).bind fun t801 => ((impl_StemFill.f kj37 t798 t801).bind fun bt804 => ((laws_eqStringS.f kj37 bt804.1 t767).bind fun t808 => (if t808 = true then (laws_FnExactStemFill.j2 kj37 bt795.2 bt795.1 (bt804.2 != t768)) else (laws_FnExactStemFill.j2 kj37 bt795.2 bt795.1 true)))))) else (some false))))) = some r := by rw [if_neg (show ¬ (false = true) by decide)] at H; exact H
     clear H
     have H := H1
     clear H1
     replace H := Option.bind_eq_some_iff.mp H
     obtain ⟨⟨t795, t796⟩, A530, H⟩ := H
     replace H : ((laws_heldStringS.f kj37 t796 1).bind fun t797 => (if t797 < 0 then (some false) else (if t797 = t795 then ((laws_toStringS.f kj37 l0).bind fun t798 => ((laws_toIntS.f kj37 l1).bind fun t801 => ((impl_StemFill.f kj37 t798 t801).bind fun bt804 => ((laws_eqStringS.f kj37 bt804.1 t767).bind fun t808 => (if t808 = true then (laws_FnExactStemFill.j2 kj37 t796 t795 (bt804.2 != t768)) else (laws_FnExactStemFill.j2 kj37 t796 t795 true)))))) else (some false)))) = some r := H
     have A53 := Aside0.mk A530
     clear A530
     replace H := Option.bind_eq_some_iff.mp H
     obtain ⟨t797, A540, H⟩ := H
     replace H : (if t797 < 0 then (some false) else (if t797 = t795 then ((laws_toStringS.f kj37 l0).bind fun t798 => ((laws_toIntS.f kj37 l1).bind fun t801 => ((impl_StemFill.f kj37 t798 t801).bind fun bt804 => ((laws_eqStringS.f kj37 bt804.1 t767).bind fun t808 => (if t808 = true then (laws_FnExactStemFill.j2 kj37 t796 t795 (bt804.2 != t768)) else (laws_FnExactStemFill.j2 kj37 t796 t795 true)))))) else (some false))) = some r := H
     have A54 := Aside0.mk A540
     clear A540
     by_cases c55 : t797 < 0
     ·rw [if_pos c55] at H
      have c55b0 : decide (t797 < 0) = true := decide_eq_true c55
      clear c55
      obtain rfl := Option.some.inj H
      obtain ⟨Ao56, co56, eo56⟩ := Kd.R_slice HO_10.out
      subst eo56
      go_wp2_with (first | ((with_reducible refine gate_callee (f := 42) rfl ?_); refine goesL_ (some 83) rfl rfl Tryd.func42 (by kernel_rfl) rfl #[.slice Ao56 t777.length co56, .int .i64 1] rfl (by (try simp only [List.map_toArray, List.map_cons, List.map_nil]); first | done | rfl | (simp only [List.length_drop, List.length_take]; rfl)) ?_; (with_reducible refine (laws_markStringS.calls kj37 (fun k_ => some k_ = (.slice Ao56 t777.length co56 : Value).ownBlock) (.slice Ao56 t777.length co56) t777 1 t795 t796 w _ ?side1 ?side2 A53.out).mono ?_); (case side1 => repeat (first | (with_reducible first | exact HB.out | apply below_alloc | apply pw_below_drewN | apply below_drew1) | exact HB.out)); (case side2 => exact Kd.R_tight rfl HO_10.out); rintro e w57 ⟨rfl, hy0, hb, hkp⟩; refine ⟨_, rfl, ?_⟩; have n0_ := Aside0.mk (Kd.R_mono (ok' := fun k_ => some k_ ≠ (.slice Ao56 t777.length co56 : Value).ownBlock) (Kd.R_keptB (HO_6.out) hkp (fun k_ hk_ hs_ => (hk_) hs_)) (fun k_ hk_ => hk_.1)); have n1_ := Aside0.mk (Kd.R_reok rfl hy0 (fun k_ e_ => HO_10.out.1 k_ e_)); have n2_ := Aside0.mk (hb); clear HO_6; clear HO_10; clear HB; have HO_6 := n0_; have HO_10 := n1_; have HB := n2_; clear n0_ n1_ n2_; (try clear hb); (try clear hkp); (try clear hy0)) | ((with_reducible refine gate_callee (f := 55) rfl ?_); refine goesL_ (some 86) rfl rfl Tryd.func55 (by kernel_rfl) rfl #[.slice Ao56 t796.length co56, .int .i64 1] rfl (by (try simp only [List.map_toArray, List.map_cons, List.map_nil]); first | done | (rw [show t796.length = t777.length from (Kd.R_reads' HO_10.out).1.symm] <;> rfl) | rfl | (simp only [List.length_drop, List.length_take]; rfl)) ?_; (with_reducible refine (laws_heldStringS.calls kj37 _ _ t796 1 t797 _ ?side1 ?side2 A54.out).mono ?_); (case side1 => repeat (first | exact (Kd.R_reads' HO_10.out).2.2 | (with_reducible refine Kd.C_alloc ?_ _) | (with_reducible refine Kd.C_drewN ?_ _) | (with_reducible refine Kd.C_drew ?_))); (case side2 => rw [show t796.length = t777.length from (Kd.R_reads' HO_10.out).1.symm]; exact (Kd.R_reads' HO_10.out).2.1); rintro e w58 ⟨rfl, hb⟩; refine ⟨_, rfl, ?_⟩; have n0_ := Aside0.mk (Kd.R_below (by (with_reducible repeat (first | apply Kd.R_alloc | apply Kd.R_drewN | apply Kd.R_drew)); exact HO_6.out) hb); have n1_ := Aside0.mk (Kd.R_below (by (with_reducible repeat (first | apply Kd.R_alloc | apply Kd.R_drewN | apply Kd.R_drew)); exact HO_10.out) hb); have n2_ := Aside0.mk (below_step (by repeat (first | (with_reducible first | exact HB.out | apply below_alloc | apply pw_below_drewN | apply below_drew1) | exact HB.out)) hb); clear HO_6; clear HO_10; clear HB; have HO_6 := n0_; have HO_10 := n1_; have HB := n2_; clear n0_ n1_ n2_; (try clear hb); (try clear hb2); (try clear hk); (try clear hi)))
      go_ret
      exact ⟨by first | rfl | (simp [errW_none, errW_some] <;> rfl) | (simp [*, errW_none, errW_some] <;> rfl), by repeat (first | (with_reducible first | exact HB.out | apply below_alloc | apply pw_below_drewN | apply below_drew1) | exact HB.out)⟩
     rw [if_neg c55] at H
     have c55b0 : decide (t797 < 0) = false := decide_eq_false c55
     clear c55
     by_cases c59 : t797 = t795
     rotate_left
     ·rw [if_neg c59] at H
      have c59b0 : (t797 == t795) = false := beq_eq_false_iff_ne.mpr c59
      have c59b1 : (t797 != t795) = true := bne_iff_ne.mpr c59
      obtain rfl := Option.some.inj H
      obtain ⟨Ao85, co85, eo85⟩ := Kd.R_slice HO_10.out
      subst eo85
      go_wp2_with (first | ((with_reducible refine gate_callee (f := 42) rfl ?_); refine goesL_ (some 83) rfl rfl Tryd.func42 (by kernel_rfl) rfl #[.slice Ao85 t777.length co85, .int .i64 1] rfl (by (try simp only [List.map_toArray, List.map_cons, List.map_nil]); first | done | rfl | (simp only [List.length_drop, List.length_take]; rfl)) ?_; (with_reducible refine (laws_markStringS.calls kj37 (fun k_ => some k_ = (.slice Ao85 t777.length co85 : Value).ownBlock) (.slice Ao85 t777.length co85) t777 1 t795 t796 w _ ?side1 ?side2 A53.out).mono ?_); (case side1 => repeat (first | (with_reducible first | exact HB.out | apply below_alloc | apply pw_below_drewN | apply below_drew1) | exact HB.out)); (case side2 => exact Kd.R_tight rfl HO_10.out); rintro e w86 ⟨rfl, hy0, hb, hkp⟩; refine ⟨_, rfl, ?_⟩; have n0_ := Aside0.mk (Kd.R_mono (ok' := fun k_ => some k_ ≠ (.slice Ao85 t777.length co85 : Value).ownBlock) (Kd.R_keptB (HO_6.out) hkp (fun k_ hk_ hs_ => (hk_) hs_)) (fun k_ hk_ => hk_.1)); have n1_ := Aside0.mk (Kd.R_reok rfl hy0 (fun k_ e_ => HO_10.out.1 k_ e_)); have n2_ := Aside0.mk (hb); clear HO_6; clear HO_10; clear HB; have HO_6 := n0_; have HO_10 := n1_; have HB := n2_; clear n0_ n1_ n2_; (try clear hb); (try clear hkp); (try clear hy0)) | ((with_reducible refine gate_callee (f := 55) rfl ?_); refine goesL_ (some 86) rfl rfl Tryd.func55 (by kernel_rfl) rfl #[.slice Ao85 t796.length co85, .int .i64 1] rfl (by (try simp only [List.map_toArray, List.map_cons, List.map_nil]); first | done | (rw [show t796.length = t777.length from (Kd.R_reads' HO_10.out).1.symm] <;> rfl) | rfl | (simp only [List.length_drop, List.length_take]; rfl)) ?_; (with_reducible refine (laws_heldStringS.calls kj37 _ _ t796 1 t797 _ ?side1 ?side2 A54.out).mono ?_); (case side1 => repeat (first | exact (Kd.R_reads' HO_10.out).2.2 | (with_reducible refine Kd.C_alloc ?_ _) | (with_reducible refine Kd.C_drewN ?_ _) | (with_reducible refine Kd.C_drew ?_))); (case side2 => rw [show t796.length = t777.length from (Kd.R_reads' HO_10.out).1.symm]; exact (Kd.R_reads' HO_10.out).2.1); rintro e w87 ⟨rfl, hb⟩; refine ⟨_, rfl, ?_⟩; have n0_ := Aside0.mk (Kd.R_below (by (with_reducible repeat (first | apply Kd.R_alloc | apply Kd.R_drewN | apply Kd.R_drew)); exact HO_6.out) hb); have n1_ := Aside0.mk (Kd.R_below (by (with_reducible repeat (first | apply Kd.R_alloc | apply Kd.R_drewN | apply Kd.R_drew)); exact HO_10.out) hb); have n2_ := Aside0.mk (below_step (by repeat (first | (with_reducible first | exact HB.out | apply below_alloc | apply pw_below_drewN | apply below_drew1) | exact HB.out)) hb); clear HO_6; clear HO_10; clear HB; have HO_6 := n0_; have HO_10 := n1_; have HB := n2_; clear n0_ n1_ n2_; (try clear hb); (try clear hb2); (try clear hk); (try clear hi)))
      go_ret
      exact ⟨by first | rfl | (simp [errW_none, errW_some] <;> rfl) | (simp [*, errW_none, errW_some] <;> rfl), by repeat (first | (with_reducible first | exact HB.out | apply below_alloc | apply pw_below_drewN | apply below_drew1) | exact HB.out)⟩
     rw [if_pos c59] at H
     have c59b0 : (t797 == t795) = true := beq_iff_eq.mpr c59
     have c59b1 : (t797 != t795) = false := bne_eq_false_iff_eq.mpr c59
     clear c59
     replace H := Option.bind_eq_some_iff.mp H
     obtain ⟨t798, A600, H⟩ := H
     replace H : ((laws_toIntS.f kj37 l1).bind fun t801 => ((impl_StemFill.f kj37 t798 t801).bind fun bt804 => ((laws_eqStringS.f kj37 bt804.1 t767).bind fun t808 => (if t808 = true then (laws_FnExactStemFill.j2 kj37 t796 t795 (bt804.2 != t768)) else (laws_FnExactStemFill.j2 kj37 t796 t795 true))))) = some r := H
     have A60 := Aside0.mk A600
     clear A600
     replace H := Option.bind_eq_some_iff.mp H
     obtain ⟨t801, A610, H⟩ := H
     replace H : ((impl_StemFill.f kj37 t798 t801).bind fun bt804 => ((laws_eqStringS.f kj37 bt804.1 t767).bind fun t808 => (if t808 = true then (laws_FnExactStemFill.j2 kj37 t796 t795 (bt804.2 != t768)) else (laws_FnExactStemFill.j2 kj37 t796 t795 true)))) = some r := H
     have A61 := Aside0.mk A610
     clear A610
     replace H := Option.bind_eq_some_iff.mp H
     obtain ⟨⟨t804, t805⟩, A620, H⟩ := H
     replace H : ((laws_eqStringS.f kj37 t804 t767).bind fun t808 => (if t808 = true then (laws_FnExactStemFill.j2 kj37 t796 t795 (t805 != t768)) else (laws_FnExactStemFill.j2 kj37 t796 t795 true))) = some r := H
     have A62 := Aside0.mk A620
     clear A620
     have HC63 := Aside0.mk H
     clear H
     obtain ⟨Ao64, co64, eo64⟩ := Kd.R_slice HO_10.out
     subst eo64
     go_upto_region 31 with (first | ((with_reducible refine gate_callee (f := 42) rfl ?_); refine goesL_ (some 83) rfl rfl Tryd.func42 (by kernel_rfl) rfl #[.slice Ao64 t777.length co64, .int .i64 1] rfl (by (try simp only [List.map_toArray, List.map_cons, List.map_nil]); first | done | rfl | (simp only [List.length_drop, List.length_take]; rfl)) ?_; (with_reducible refine (laws_markStringS.calls kj37 (fun k_ => some k_ = (.slice Ao64 t777.length co64 : Value).ownBlock) (.slice Ao64 t777.length co64) t777 1 t795 t796 w _ ?side1 ?side2 A53.out).mono ?_); (case side1 => repeat (first | (with_reducible first | exact HB.out | apply below_alloc | apply pw_below_drewN | apply below_drew1) | exact HB.out)); (case side2 => exact Kd.R_tight rfl HO_10.out); rintro e w65 ⟨rfl, hy0, hb, hkp⟩; refine ⟨_, rfl, ?_⟩; have n0_ := Aside0.mk (Kd.R_mono (ok' := fun k_ => some k_ ≠ (.slice Ao64 t777.length co64 : Value).ownBlock) (Kd.R_keptB (HO_6.out) hkp (fun k_ hk_ hs_ => (hk_) hs_)) (fun k_ hk_ => hk_.1)); have n1_ := Aside0.mk (Kd.R_reok rfl hy0 (fun k_ e_ => HO_10.out.1 k_ e_)); have n2_ := Aside0.mk (hb); clear HO_6; clear HO_10; clear HB; have HO_6 := n0_; have HO_10 := n1_; have HB := n2_; clear n0_ n1_ n2_; (try clear hb); (try clear hkp); (try clear hy0)) | ((with_reducible refine gate_callee (f := 55) rfl ?_); refine goesL_ (some 86) rfl rfl Tryd.func55 (by kernel_rfl) rfl #[.slice Ao64 t796.length co64, .int .i64 1] rfl (by (try simp only [List.map_toArray, List.map_cons, List.map_nil]); first | done | (rw [show t796.length = t777.length from (Kd.R_reads' HO_10.out).1.symm] <;> rfl) | rfl | (simp only [List.length_drop, List.length_take]; rfl)) ?_; (with_reducible refine (laws_heldStringS.calls kj37 _ _ t796 1 t797 _ ?side1 ?side2 A54.out).mono ?_); (case side1 => repeat (first | exact (Kd.R_reads' HO_10.out).2.2 | (with_reducible refine Kd.C_alloc ?_ _) | (with_reducible refine Kd.C_drewN ?_ _) | (with_reducible refine Kd.C_drew ?_))); (case side2 => rw [show t796.length = t777.length from (Kd.R_reads' HO_10.out).1.symm]; exact (Kd.R_reads' HO_10.out).2.1); rintro e w66 ⟨rfl, hb⟩; refine ⟨_, rfl, ?_⟩; have n0_ := Aside0.mk (Kd.R_below (by (with_reducible repeat (first | apply Kd.R_alloc | apply Kd.R_drewN | apply Kd.R_drew)); exact HO_6.out) hb); have n1_ := Aside0.mk (Kd.R_below (by (with_reducible repeat (first | apply Kd.R_alloc | apply Kd.R_drewN | apply Kd.R_drew)); exact HO_10.out) hb); have n2_ := Aside0.mk (below_step (by repeat (first | (with_reducible first | exact HB.out | apply below_alloc | apply pw_below_drewN | apply below_drew1) | exact HB.out)) hb); clear HO_6; clear HO_10; clear HB; have HO_6 := n0_; have HO_10 := n1_; have HB := n2_; clear n0_ n1_ n2_; (try clear hb); (try clear hb2); (try clear hk); (try clear hi)) | ((with_reducible refine gate_callee (f := 23) rfl ?_); refine goesL_ (some 94) rfl rfl Tryd.func23 (by kernel_rfl) rfl #[.slice A0 l0.length c0] rfl (by (try simp only [List.map_toArray, List.map_cons, List.map_nil]); first | done | rfl | (simp only [List.length_drop, List.length_take]; rfl)) ?_; (with_reducible refine (laws_toStringS.calls kj37 _ _ l0 t798 _ ?side1 ?side2 A60.out).mono ?_); (case side1 => repeat (first | exact (Kd.C_below HR0.out HB.out) | (with_reducible refine Kd.C_alloc ?_ _) | (with_reducible refine Kd.C_drewN ?_ _) | (with_reducible refine Kd.C_drew ?_))); (case side2 => exact HC0.out); rintro e w67 ⟨v799, rfl, ho0, hb⟩; refine ⟨_, rfl, ?_⟩; have n0_ := Aside0.mk (Kd.R_elder' (by (with_reducible repeat (first | apply Kd.R_alloc | apply Kd.R_drewN | apply Kd.R_drew)); exact HO_6.out) (Kd.R_base ho0) hb); have n1_ := Aside0.mk (Kd.R_elder' (by (with_reducible repeat (first | apply Kd.R_alloc | apply Kd.R_drewN | apply Kd.R_drew)); exact HO_10.out) (Kd.R_base ho0) hb); have n2_ := Aside0.mk (Kd.R_lower (Kd.R_new' (Kd.R_new' ho0 (Kd.R_lt (by (with_reducible repeat (first | apply Kd.R_alloc | apply Kd.R_drewN | apply Kd.R_drew)); exact HO_6.out))) (Kd.R_lt (by (with_reducible repeat (first | apply Kd.R_alloc | apply Kd.R_drewN | apply Kd.R_drew)); exact HO_10.out))) (below_size (by repeat (first | (with_reducible first | exact HB.out | apply below_alloc | apply pw_below_drewN | apply below_drew1) | exact HB.out)))); have n3_ := Aside0.mk (below_step (by repeat (first | (with_reducible first | exact HB.out | apply below_alloc | apply pw_below_drewN | apply below_drew1) | exact HB.out)) hb); clear HO_6; clear HO_10; clear HB; have HO_6 := n0_; have HO_10 := n1_; have HO800 := n2_; have HB := n3_; clear n0_ n1_ n2_ n3_; (try clear hb); (try clear hb2); (try clear hk); (try clear hi); (try clear ho0)) | ((with_reducible refine gate_callee (f := 29) rfl ?_); refine goesL_ (some 96) rfl rfl Tryd.func29 (by kernel_rfl) rfl #[.slice A1 l1.length c1] rfl (by (try simp only [List.map_toArray, List.map_cons, List.map_nil]); first | done | rfl | (simp only [List.length_drop, List.length_take]; rfl)) ?_; (with_reducible refine (laws_toIntS.calls kj37 _ _ l1 t801 _ ?side1 ?side2 A61.out).mono ?_); (case side1 => repeat (first | exact (Kd.C_below HR1.out HB.out) | (with_reducible refine Kd.C_alloc ?_ _) | (with_reducible refine Kd.C_drewN ?_ _) | (with_reducible refine Kd.C_drew ?_))); (case side2 => exact HC1.out); rintro e w68 ⟨v802, rfl, ho0, hb⟩; refine ⟨_, rfl, ?_⟩; have n0_ := Aside0.mk (Kd.R_below (by (with_reducible repeat (first | apply Kd.R_alloc | apply Kd.R_drewN | apply Kd.R_drew)); exact HO_6.out) hb); have n1_ := Aside0.mk (Kd.R_below (by (with_reducible repeat (first | apply Kd.R_alloc | apply Kd.R_drewN | apply Kd.R_drew)); exact HO_10.out) hb); have n2_ := Aside0.mk (Kd.R_below (by (with_reducible repeat (first | apply Kd.R_alloc | apply Kd.R_drewN | apply Kd.R_drew)); exact HO800.out) hb); have n3_ := Aside0.mk (Kd.R_lower ho0 (below_size (by repeat (first | (with_reducible first | exact HB.out | apply below_alloc | apply pw_below_drewN | apply below_drew1) | exact HB.out)))); have n4_ := Aside0.mk (below_step (by repeat (first | (with_reducible first | exact HB.out | apply below_alloc | apply pw_below_drewN | apply below_drew1) | exact HB.out)) hb); clear HO_6; clear HO_10; clear HO800; clear HB; have HO_6 := n0_; have HO_10 := n1_; have HO800 := n2_; have HO803 := n3_; have HB := n4_; clear n0_ n1_ n2_ n3_ n4_; (try clear hb); (try clear hb2); (try clear hk); (try clear hi); (try clear ho0); obtain ⟨Ao69, co69, eo69⟩ := Kd.R_slice HO800.out; subst eo69; obtain ⟨Ao70, co70, eo70⟩ := Kd.R_slice HO803.out; subst eo70) | ((with_reducible refine gate_callee (f := 54) rfl ?_); refine goesL_ (some 97) rfl rfl Tryd.func54 (by kernel_rfl) rfl #[.slice Ao69 t798.length co69, .slice Ao70 t801.length co70] rfl (by (try simp only [List.map_toArray, List.map_cons, List.map_nil]); first | done | rfl | (simp only [List.length_drop, List.length_take]; rfl)) ?_; (with_reducible refine (impl_StemFill.calls kj37 _ _ t798 _ _ t801 t804 t805 _ ?side1 ?side2 ?side3 ?side4 A62.out).mono ?_); (case side1 => repeat (first | exact (Kd.R_reads' HO800.out).2.2 | (with_reducible refine Kd.C_alloc ?_ _) | (with_reducible refine Kd.C_drewN ?_ _) | (with_reducible refine Kd.C_drew ?_))); (case side2 => exact (Kd.R_reads' HO800.out).2.1); (case side3 => repeat (first | exact (Kd.R_reads' HO803.out).2.2 | (with_reducible refine Kd.C_alloc ?_ _) | (with_reducible refine Kd.C_drewN ?_ _) | (with_reducible refine Kd.C_drew ?_))); (case side4 => exact (Kd.R_reads' HO803.out).2.1); rintro e w71 ⟨v806, rfl, ho0, hb⟩; refine ⟨_, rfl, ?_⟩; have n0_ := Aside0.mk (Kd.R_elder' (by (with_reducible repeat (first | apply Kd.R_alloc | apply Kd.R_drewN | apply Kd.R_drew)); exact HO_6.out) (Kd.R_base ho0) hb); have n1_ := Aside0.mk (Kd.R_elder' (by (with_reducible repeat (first | apply Kd.R_alloc | apply Kd.R_drewN | apply Kd.R_drew)); exact HO_10.out) (Kd.R_base ho0) hb); have n2_ := Aside0.mk (Kd.R_elder' (by (with_reducible repeat (first | apply Kd.R_alloc | apply Kd.R_drewN | apply Kd.R_drew)); exact HO800.out) (Kd.R_base ho0) hb); have n3_ := Aside0.mk (Kd.R_below (by (with_reducible repeat (first | apply Kd.R_alloc | apply Kd.R_drewN | apply Kd.R_drew)); exact HO803.out) hb); have n4_ := Aside0.mk (Kd.R_lower (Kd.R_new' (Kd.R_new' (Kd.R_new' ho0 (Kd.R_lt (by (with_reducible repeat (first | apply Kd.R_alloc | apply Kd.R_drewN | apply Kd.R_drew)); exact HO_6.out))) (Kd.R_lt (by (with_reducible repeat (first | apply Kd.R_alloc | apply Kd.R_drewN | apply Kd.R_drew)); exact HO_10.out))) (Kd.R_lt (by (with_reducible repeat (first | apply Kd.R_alloc | apply Kd.R_drewN | apply Kd.R_drew)); exact HO800.out))) (below_size (by repeat (first | (with_reducible first | exact HB.out | apply below_alloc | apply pw_below_drewN | apply below_drew1) | exact HB.out)))); have n5_ := Aside0.mk (below_step (by repeat (first | (with_reducible first | exact HB.out | apply below_alloc | apply pw_below_drewN | apply below_drew1) | exact HB.out)) hb); clear HO_6; clear HO_10; clear HO800; clear HO803; clear HB; have HO_6 := n0_; have HO_10 := n1_; have HO800 := n2_; have HO803 := n3_; have HO807 := n4_; have HB := n5_; clear n0_ n1_ n2_ n3_ n4_ n5_; (try clear hb); (try clear hb2); (try clear hk); (try clear hi); (try clear ho0)))
     (try simp only [Act.put, List.setIfInBounds_toArray, List.set_cons_zero, List.set_cons_succ])
     go_cut [108] (fun v108 wc => ∃ (kq : Nat) (x108_62 : Bool), v108 = .bool x108_62 ∧ Aside0 (laws_FnExactStemFill.j2 kq t796 t795 x108_62 = some r) ∧ Aside0 (kq ≤ kj37) ∧ Aside0 (Kd.R Kd.string 9 wc w.heap.size (fun _ => True) (.slice Ao64 t777.length co64) t796) ∧ Aside0 (Below w.heap.size w wc))
     case first =>
      have H := HC63.out
      clear HC63
      replace H := Option.bind_eq_some_iff.mp H
      obtain ⟨t808, A720, H⟩ := H
      replace H : (if t808 = true then (laws_FnExactStemFill.j2 kj37 t796 t795 (t805 != t768)) else (laws_FnExactStemFill.j2 kj37 t796 t795 true)) = some r := H
      have A72 := Aside0.mk A720
      clear A720
      by_cases c73 : t808 = true
      ·subst c73
       have H1 : (laws_FnExactStemFill.j2 kj37 t796 t795 (t805 != t768)) = some r := by rw [if_pos rfl] at H; exact H
       clear H
       have H := H1
       clear H1
       have H' := Aside0.mk H
       clear H
       obtain ⟨Ao74, co74, eo74⟩ := Kd.R_slice HO807.out
       subst eo74
       obtain ⟨Ao75, co75, eo75⟩ := Kd.R_slice HO_6.out
       subst eo75
       go_wp2_with (first | ((with_reducible refine gate_callee (f := 25) rfl ?_); refine goesL_ (some 102) rfl rfl Tryd.func25 (by kernel_rfl) rfl #[.slice Ao74 t804.length co74, .slice Ao75 t767.length co75] rfl (by (try simp only [List.map_toArray, List.map_cons, List.map_nil]); first | done | rfl | (simp only [List.length_drop, List.length_take]; rfl)) ?_; (with_reducible refine (laws_eqStringS.calls kj37 _ _ t804 _ _ t767 true _ ?side1 ?side2 ?side3 ?side4 A72.out).mono ?_); (case side1 => repeat (first | exact (Kd.R_reads' HO807.out).2.2 | (with_reducible refine Kd.C_alloc ?_ _) | (with_reducible refine Kd.C_drewN ?_ _) | (with_reducible refine Kd.C_drew ?_))); (case side2 => exact (Kd.R_reads' HO807.out).2.1); (case side3 => repeat (first | exact (Kd.R_reads' HO_6.out).2.2 | (with_reducible refine Kd.C_alloc ?_ _) | (with_reducible refine Kd.C_drewN ?_ _) | (with_reducible refine Kd.C_drew ?_))); (case side4 => exact (Kd.R_reads' HO_6.out).2.1); rintro e w' ⟨rfl, ⟨nd, rfl⟩⟩; refine ⟨_, rfl, ?_⟩))
       go_meet
       case rel => exact ⟨_, ((t805 != t768)), (by first | rfl | (simp; done) | (simp [*]; done)), H', ⟨by have := HJ11.out; have := HJ37.out; first | omega | exact Nat.le_refl _⟩, ⟨by (with_reducible repeat (first | apply Kd.R_alloc | apply Kd.R_drewN | apply Kd.R_drew)); exact Kd.R_mono HO_10.out (fun _ hk => trivial)⟩, ⟨by repeat (first | (with_reducible first | exact HB.out | apply below_alloc | apply pw_below_drewN | apply below_drew1) | exact HB.out)⟩⟩
      replace c73 := Bool.eq_false_iff.mpr c73
      subst c73
      have H1 : (laws_FnExactStemFill.j2 kj37 t796 t795 true) = some r := by rw [if_neg (show ¬ (false = true) by decide)] at H; exact H
      clear H
      have H := H1
      clear H1
      have H' := Aside0.mk H
      clear H
      obtain ⟨Ao76, co76, eo76⟩ := Kd.R_slice HO807.out
      subst eo76
      obtain ⟨Ao77, co77, eo77⟩ := Kd.R_slice HO_6.out
      subst eo77
      go_wp2_with (first | ((with_reducible refine gate_callee (f := 25) rfl ?_); refine goesL_ (some 102) rfl rfl Tryd.func25 (by kernel_rfl) rfl #[.slice Ao76 t804.length co76, .slice Ao77 t767.length co77] rfl (by (try simp only [List.map_toArray, List.map_cons, List.map_nil]); first | done | rfl | (simp only [List.length_drop, List.length_take]; rfl)) ?_; (with_reducible refine (laws_eqStringS.calls kj37 _ _ t804 _ _ t767 false _ ?side1 ?side2 ?side3 ?side4 A72.out).mono ?_); (case side1 => repeat (first | exact (Kd.R_reads' HO807.out).2.2 | (with_reducible refine Kd.C_alloc ?_ _) | (with_reducible refine Kd.C_drewN ?_ _) | (with_reducible refine Kd.C_drew ?_))); (case side2 => exact (Kd.R_reads' HO807.out).2.1); (case side3 => repeat (first | exact (Kd.R_reads' HO_6.out).2.2 | (with_reducible refine Kd.C_alloc ?_ _) | (with_reducible refine Kd.C_drewN ?_ _) | (with_reducible refine Kd.C_drew ?_))); (case side4 => exact (Kd.R_reads' HO_6.out).2.1); rintro e w' ⟨rfl, ⟨nd, rfl⟩⟩; refine ⟨_, rfl, ?_⟩))
      go_meet
      case rel => exact ⟨_, (true), (by first | rfl | (simp; done) | (simp [*]; done)), H', ⟨by have := HJ11.out; have := HJ37.out; first | omega | exact Nat.le_refl _⟩, ⟨by (with_reducible repeat (first | apply Kd.R_alloc | apply Kd.R_drewN | apply Kd.R_drew)); exact Kd.R_mono HO_10.out (fun _ hk => trivial)⟩, ⟨by repeat (first | (with_reducible first | exact HB.out | apply below_alloc | apply pw_below_drewN | apply below_drew1) | exact HB.out)⟩⟩
     case rest =>
      clear HC63
      try clear c1
      try clear c2
      try clear p2
      try clear c3
      try clear c3b0
      try clear c3b1
      try clear c4
      try clear c5
      try clear c5b0
      try clear c7
      try clear c17
      try clear c21
      try clear c23
      try clear c24
      try clear c25
      try clear c29
      try clear c31
      try clear c32
      try clear c35
      try clear c42
      try clear c43
      try clear c45
      try clear c45b0
      try clear c47
      try clear c52
      try clear c53
      try clear c54
      try clear c55
      try clear c55b0
      try clear c59
      try clear c59b0
      try clear c59b1
      try clear c73
      try clear p2
      obtain ⟨kq, x108_62, rfl, HA, HJ62, HO_10, HB⟩ := hcut
      have hl10_62 := (Kd.R_reads' HO_10.out).1
      rw [hl10_62] at HO_10
      (try simp only [hl10_62])
      cases kq with
      | zero => exact absurd HA.out (by simp [laws_FnExactStemFill.j2])
      | succ kj62 =>
       have H := HA.out
       clear HA
       simp only [laws_FnExactStemFill.j2] at H
       by_cases c78 : x108_62 = true
       ·subst c78
        have H1 : (some false) = some r := by rw [if_pos rfl] at H; exact H
        clear H
        have H := H1
        clear H1
        obtain rfl := Option.some.inj H
        go_wp2
        go_ret
        exact ⟨by first | rfl | (simp [errW_none, errW_some] <;> rfl) | (simp [*, errW_none, errW_some] <;> rfl), by repeat (first | (with_reducible first | exact HB.out | apply below_alloc | apply pw_below_drewN | apply below_drew1) | exact HB.out)⟩
       replace c78 := Bool.eq_false_iff.mpr c78
       subst c78
       have H1 : ((laws_heldStringS.f kj62 t796 1).bind fun t809 => (if t809 < 0 then (some false) else (if t809 = t795 then (some true) else (some false)))) = some r := by rw [if_neg (show ¬ (false = true) by decide)] at H; exact H
       clear H
       have H := H1
       clear H1
       replace H := Option.bind_eq_some_iff.mp H
       obtain ⟨t809, A790, H⟩ := H
       replace H : (if t809 < 0 then (some false) else (if t809 = t795 then (some true) else (some false))) = some r := H
       have A79 := Aside0.mk A790
       clear A790
       by_cases c80 : t809 < 0
       ·rw [if_pos c80] at H
        have c80b0 : decide (t809 < 0) = true := decide_eq_true c80
        clear c80
        obtain rfl := Option.some.inj H
        go_wp2_with (first | ((with_reducible refine gate_callee (f := 55) rfl ?_); refine goesL_ (some 111) rfl rfl Tryd.func55 (by kernel_rfl) rfl #[.slice Ao64 t796.length co64, .int .i64 1] rfl (by (try simp only [List.map_toArray, List.map_cons, List.map_nil]); first | done | rfl | (simp only [List.length_drop, List.length_take]; rfl)) ?_; (with_reducible refine (laws_heldStringS.calls kj62 _ _ t796 1 t809 _ ?side1 ?side2 A79.out).mono ?_); (case side1 => repeat (first | exact (Kd.R_reads' HO_10.out).2.2 | (with_reducible refine Kd.C_alloc ?_ _) | (with_reducible refine Kd.C_drewN ?_ _) | (with_reducible refine Kd.C_drew ?_))); (case side2 => exact (Kd.R_reads' HO_10.out).2.1); rintro e w81 ⟨rfl, hb⟩; refine ⟨_, rfl, ?_⟩; have n0_ := Aside0.mk (Kd.R_below (by (with_reducible repeat (first | apply Kd.R_alloc | apply Kd.R_drewN | apply Kd.R_drew)); exact HO_10.out) hb); have n1_ := Aside0.mk (below_step (by repeat (first | (with_reducible first | exact HB.out | apply below_alloc | apply pw_below_drewN | apply below_drew1) | exact HB.out)) hb); clear HO_10; clear HB; have HO_10 := n0_; have HB := n1_; clear n0_ n1_; (try clear hb); (try clear hb2); (try clear hk); (try clear hi)))
        go_ret
        exact ⟨by first | rfl | (simp [errW_none, errW_some] <;> rfl) | (simp [*, errW_none, errW_some] <;> rfl), by repeat (first | (with_reducible first | exact HB.out | apply below_alloc | apply pw_below_drewN | apply below_drew1) | exact HB.out)⟩
       rw [if_neg c80] at H
       have c80b0 : decide (t809 < 0) = false := decide_eq_false c80
       clear c80
       by_cases c82 : t809 = t795
       rotate_left
       ·rw [if_neg c82] at H
        have c82b0 : (t809 == t795) = false := beq_eq_false_iff_ne.mpr c82
        have c82b1 : (t809 != t795) = true := bne_iff_ne.mpr c82
        obtain rfl := Option.some.inj H
        go_wp2_with (first | ((with_reducible refine gate_callee (f := 55) rfl ?_); refine goesL_ (some 111) rfl rfl Tryd.func55 (by kernel_rfl) rfl #[.slice Ao64 t796.length co64, .int .i64 1] rfl (by (try simp only [List.map_toArray, List.map_cons, List.map_nil]); first | done | rfl | (simp only [List.length_drop, List.length_take]; rfl)) ?_; (with_reducible refine (laws_heldStringS.calls kj62 _ _ t796 1 t809 _ ?side1 ?side2 A79.out).mono ?_); (case side1 => repeat (first | exact (Kd.R_reads' HO_10.out).2.2 | (with_reducible refine Kd.C_alloc ?_ _) | (with_reducible refine Kd.C_drewN ?_ _) | (with_reducible refine Kd.C_drew ?_))); (case side2 => exact (Kd.R_reads' HO_10.out).2.1); rintro e w84 ⟨rfl, hb⟩; refine ⟨_, rfl, ?_⟩; have n0_ := Aside0.mk (Kd.R_below (by (with_reducible repeat (first | apply Kd.R_alloc | apply Kd.R_drewN | apply Kd.R_drew)); exact HO_10.out) hb); have n1_ := Aside0.mk (below_step (by repeat (first | (with_reducible first | exact HB.out | apply below_alloc | apply pw_below_drewN | apply below_drew1) | exact HB.out)) hb); clear HO_10; clear HB; have HO_10 := n0_; have HB := n1_; clear n0_ n1_; (try clear hb); (try clear hb2); (try clear hk); (try clear hi)))
        go_ret
        exact ⟨by first | rfl | (simp [errW_none, errW_some] <;> rfl) | (simp [*, errW_none, errW_some] <;> rfl), by repeat (first | (with_reducible first | exact HB.out | apply below_alloc | apply pw_below_drewN | apply below_drew1) | exact HB.out)⟩
       rw [if_pos c82] at H
       have c82b0 : (t809 == t795) = true := beq_iff_eq.mpr c82
       have c82b1 : (t809 != t795) = false := bne_eq_false_iff_eq.mpr c82
       clear c82
       obtain rfl := Option.some.inj H
       go_wp2_with (first | ((with_reducible refine gate_callee (f := 55) rfl ?_); refine goesL_ (some 111) rfl rfl Tryd.func55 (by kernel_rfl) rfl #[.slice Ao64 t796.length co64, .int .i64 1] rfl (by (try simp only [List.map_toArray, List.map_cons, List.map_nil]); first | done | rfl | (simp only [List.length_drop, List.length_take]; rfl)) ?_; (with_reducible refine (laws_heldStringS.calls kj62 _ _ t796 1 t809 _ ?side1 ?side2 A79.out).mono ?_); (case side1 => repeat (first | exact (Kd.R_reads' HO_10.out).2.2 | (with_reducible refine Kd.C_alloc ?_ _) | (with_reducible refine Kd.C_drewN ?_ _) | (with_reducible refine Kd.C_drew ?_))); (case side2 => exact (Kd.R_reads' HO_10.out).2.1); rintro e w83 ⟨rfl, hb⟩; refine ⟨_, rfl, ?_⟩; have n0_ := Aside0.mk (Kd.R_below (by (with_reducible repeat (first | apply Kd.R_alloc | apply Kd.R_drewN | apply Kd.R_drew)); exact HO_10.out) hb); have n1_ := Aside0.mk (below_step (by repeat (first | (with_reducible first | exact HB.out | apply below_alloc | apply pw_below_drewN | apply below_drew1) | exact HB.out)) hb); clear HO_10; clear HB; have HO_10 := n0_; have HB := n1_; clear n0_ n1_; (try clear hb); (try clear hb2); (try clear hk); (try clear hi)))
       go_ret
       exact ⟨by first | rfl | (simp [errW_none, errW_some] <;> rfl) | (simp [*, errW_none, errW_some] <;> rfl), by repeat (first | (with_reducible first | exact HB.out | apply below_alloc | apply pw_below_drewN | apply below_drew1) | exact HB.out)⟩
end Go.Proofs.YtejoneninbdjbaaDoor.E
end
section
namespace Go.Proofs.YtejoneninbdjbaaDoor.Pur
open Go.RowKit Go.Proofs.YtejoneninbdjbaaDoorW.PrintWords
def EvP {α : Type} (g : Nat → Option α) (P : α → Prop) : Prop := ∃ r, Ev g r ∧ P r
section
variable {α β : Type}
theorem EvP.bind {g : Nat → Option α} {f : Nat → α → Option β} {P : α → Prop} {Q : β → Prop} (h : EvP g P) (k : ∀ a, P a → EvP (fun n => f n a) Q) : EvP (fun n => (g n).bind (f n)) Q := by
  obtain ⟨a, ha, hp⟩ := h
  obtain ⟨b, hb, hq⟩ := k a hp
  exact ⟨b, Ev.bind ha hb, hq⟩
theorem EvP.ret {P : α → Prop} {r : α} (h : P r) : EvP (fun _ => some r) P := ⟨r, Ev.now r, h⟩
theorem EvP.con {o : Option α} {P : α → Prop} {r : α} (h : o = some r) (hp : P r) : EvP (fun _ => o) P := by subst h; exact .ret hp
theorem EvP.ite {c : Prop} [Decidable c] {f g : Nat → Option α} {P : α → Prop} (h : c → EvP f P) (k : ¬ c → EvP g P) : EvP (fun n => if c then f n else g n) P := by
  by_cases hc : c
  · obtain ⟨r, hr, hp⟩ := h hc
    exact ⟨r, Ev.congr (fun n => if_pos hc) hr, hp⟩
  · obtain ⟨r, hr, hp⟩ := k hc
    exact ⟨r, Ev.congr (fun n => if_neg hc) hr, hp⟩
theorem EvP.yes {c : Prop} [Decidable c] {f g : Nat → Option α} {P : α → Prop} (hc : c) (h : EvP f P) : EvP (fun n => if c then f n else g n) P := .ite (fun _ => h) (fun k => absurd hc k)
theorem EvP.no {c : Prop} [Decidable c] {f g : Nat → Option α} {P : α → Prop} (hc : ¬ c) (h : EvP g P) : EvP (fun n => if c then f n else g n) P := .ite (fun k => absurd k hc) (fun _ => h)
theorem EvP.step {g f : Nat → Option α} {P : α → Prop} (h : ∀ k, g (k + 1) = f k) (k : EvP f P) : EvP g P := by
  obtain ⟨r, hr, hp⟩ := k
  exact ⟨r, Ev.step h hr, hp⟩
theorem EvP.succ {g : Nat → Option α} {P : α → Prop} (k : EvP (fun n => g (n + 1)) P) : EvP g P := EvP.step (fun _ => rfl) k
theorem EvP.mono {g : Nat → Option α} {P Q : α → Prop} (h : EvP g P) (k : ∀ r, P r → Q r) : EvP g Q := by
  obtain ⟨r, hr, hp⟩ := h
  exact ⟨r, hr, k r hp⟩
theorem EvP.rounds {g : Nat → Option α} {r : α} (h : EvP g (· = r)) : ∃ k, g k = some r := by
  obtain ⟨_, hr, rfl⟩ := h
  exact hr.rounds
theorem EvP.of {g : Nat → Option α} {P : α → Prop} {r : α} (h : Ev g r) (hp : P r) : EvP g P := ⟨r, h, hp⟩
end
structure Hd (p : Prop) : Prop where mk :: (out : p)
theorem w64 {i : Int} (h0 : -9223372036854775808 ≤ i) (h1 : i ≤ 9223372036854775807) : wrap64 i = i := by unfold wrap64; omega
theorem tdiv_pos {a : Int} (b : Int) (h : 0 ≤ a) : Int.tdiv a b = a / b := Int.tdiv_eq_ediv_of_nonneg h
theorem toNat_nat (n : Nat) : ((n : Int)).toNat = n := rfl
end Go.Proofs.YtejoneninbdjbaaDoor.Pur
end
section
namespace Go.Proofs.YtejoneninbdjbaaDoor.Pur
open Go.RowKit Go.Proofs.YtejoneninbdjbaaDoorW.PrintWords Go.Proofs.YtejoneninbdjbaaDoor.E
def sumTo (f : Nat → Int) : Nat → Int
  | 0 => 0
  | n + 1 => sumTo f n + f n
theorem sumTo_zero {f : Nat → Int} : ∀ n : Nat, (∀ i, i < n → f i = 0) → sumTo f n = 0
  | 0, _ => rfl
  | n + 1, h => by rw [sumTo, sumTo_zero n (fun i hi => h i (by omega)), h n (by omega)]; rfl
theorem sumTo_nonneg {f : Nat → Int} : ∀ n : Nat, (∀ i, i < n → 0 ≤ f i) → 0 ≤ sumTo f n
  | 0, _ => Int.le_refl _
  | n + 1, h => by
    have a := sumTo_nonneg n (fun i hi => h i (by omega))
    have b := h n (by omega)
    rw [sumTo]
    omega
theorem sumTo_bound {f : Nat → Int} {z : Int} : ∀ n : Nat, (∀ i, i < n → f i ≤ z) → sumTo f n ≤ z * n
  | 0, _ => by rw [sumTo]; simp
  | n + 1, h => by
    have a := sumTo_bound n (fun i hi => h i (by omega))
    have b := h n (by omega)
    rw [sumTo, show ((n + 1 : Nat) : Int) = (n : Int) + 1 from rfl, Int.mul_add]
    omega
def kidSum (s : Nat → Nat) (f : Nat → Int) (n j : Nat) : Int := sumTo (fun k => if 0 < k ∧ s k = j then f k else 0) n
def dif (a b : Nat) : Int := if a = b then 0 else 1
theorem dif_bd (a b : Nat) : 0 ≤ dif a b ∧ dif a b ≤ 1 := by unfold dif; split <;> omega
def cost (n : Nat) (s : Nat → Nat) (b : Nat → Nat → Int) (y : Nat → Nat) : Int := sumTo (fun j => b j (y j)) n + sumTo (fun k => if 0 < k then dif (y k) (y (s k)) else 0) n
def Few (n : Nat) (s : Nat → Nat) (b : Nat → Nat → Int) (F : Int) : Prop := (∀ y : Nat → Nat, (∀ j, j < n → y j < 4) → F ≤ cost n s b y) ∧ ∃ y : Nat → Nat, (∀ j, j < n → y j < 4) ∧ cost n s b y = F
structure IsDp (n : Nat) (s : Nat → Nat) (b ch m : Nat → Nat → Int) : Prop where
  pos : 0 < n
  par : ∀ k, 0 < k → k < n → s k < k
  eq : ∀ j x, j < n → x < 4 → ch j x = b j x + kidSum s (fun k => m k x) n j
  le : ∀ k x d, k < n → x < 4 → d < 4 → m k x ≤ ch k d + dif d x
section
variable {n : Nat} {s : Nat → Nat} {b ch m : Nat → Nat → Int}
end
end Go.Proofs.YtejoneninbdjbaaDoor.Pur
end
section
namespace Go.Proofs.YtejoneninbdjbaaDoor.Pur
open Go.RowKit Go.Proofs.YtejoneninbdjbaaDoorW.PrintWords Go.Proofs.YtejoneninbdjbaaDoor.E
def adj (c : Nat → Int) (q : Int) (x : Nat) : Int := if q ≥ 0 ∧ (x : Int) ≠ q then c x + 1 else c x
def IsBest (c : Nat → Int) (q : Int) (i : Nat) : Prop := i < 4 ∧ ∀ x, x < 4 → adj c q i ≤ adj c q x ∧ (x < i → adj c q i < adj c q x)
theorem IsBest.one {c : Nat → Int} {q : Int} {i j : Nat} (h : IsBest c q i) (k : IsBest c q j) : i = j := by
  rcases Nat.lt_trichotomy i j with g | g | g
  · have := (h.2 j k.1).1
    have := (k.2 i h.1).2 g
    omega
  · exact g
  · have := (k.2 i h.1).1
    have := (h.2 j k.1).2 g
    omega
theorem best_to {c : Nat → Int} {q : Int} (hc : ∀ x, x < 4 → 0 ≤ c x ∧ c x ≤ 1000000000000000) : ∀ j : Nat, j < 4 → ∃ i, i < j + 1 ∧ bestTo c q (j + 1) = ((i : Int), adj c q i) ∧ ∀ x, x < j + 1 → adj c q i ≤ adj c q x ∧ (x < i → adj c q i < adj c q x) := by
  have hv : ∀ x : Nat, x < 4 → (if q ≥ 0 ∧ (x : Int) ≠ q then wrap64 (c x + 1) else c x) = adj c q x := by
    intro x hx
    have := hc x hx
    unfold adj
    by_cases h : q ≥ 0 ∧ (x : Int) ≠ q
    · rw [if_pos h, if_pos h]; exact w64 (by omega) (by omega)
    · rw [if_neg h, if_neg h]
  intro j
  induction j with
  | zero =>
    intro _
    refine ⟨0, by omega, ?_, fun x hx => ?_⟩
    · rw [bestTo_step (show bestTo c q 0 = (-1, 0) from rfl) _ (hv 0 (by omega)), if_pos (Or.inl (by decide))]
    · obtain rfl : x = 0 := by omega
      exact ⟨Int.le_refl _, fun h => by omega⟩
  | succ j ih =>
    intro hj
    obtain ⟨i, hi, e, h⟩ := ih (by omega)
    have st := bestTo_step e _ (hv (j + 1) hj)
    by_cases g : adj c q (j + 1) < adj c q i
    · rw [if_pos (Or.inr g)] at st
      refine ⟨j + 1, by omega, st, fun x hx => ?_⟩
      by_cases ex : x = j + 1
      · subst ex; exact ⟨Int.le_refl _, fun h => by omega⟩
      · have := h x (by omega)
        exact ⟨by omega, fun _ => by omega⟩
    · rw [if_neg (by omega)] at st
      refine ⟨i, by omega, st, fun x hx => ?_⟩
      by_cases ex : x = j + 1
      · subst ex; exact ⟨by omega, fun h => by omega⟩
      · exact h x (by omega)
def bi (c : Nat → Int) (q : Int) : Nat := (bestTo c q 4).1.toNat
theorem best_is {c : Nat → Int} {q : Int} (hc : ∀ x, x < 4 → 0 ≤ c x ∧ c x ≤ 1000000000000000) : IsBest c q (bi c q) ∧ bestTo c q 4 = (((bi c q : Nat) : Int), adj c q (bi c q)) := by
  obtain ⟨i, hi, e, h⟩ := best_to (q := q) hc 3 (by omega)
  have eb : bi c q = i := by unfold bi; rw [e]; rfl
  rw [eb]
  exact ⟨⟨hi, h⟩, e⟩
theorem adj_dif (c : Nat → Int) (x d : Nat) : adj c (x : Int) d = c d + dif d x := by
  unfold adj dif
  by_cases h : d = x
  · subst h; rw [if_neg (fun h => h.2 rfl), if_pos rfl]; omega
  · rw [if_pos ⟨by omega, by omega⟩, if_neg h]
def lsum (V : Nat → Int) : List Nat → Int
  | [] => 0
  | k :: ks => V k + lsum V ks
theorem lsum_append (V : Nat → Int) : ∀ a b : List Nat, lsum V (a ++ b) = lsum V a + lsum V b
  | [], b => by simp [lsum]
  | k :: a, b => by rw [List.cons_append, lsum, lsum, lsum_append V a b]; omega
theorem lsum_bd {V : Nat → Int} {M : Int} : ∀ ks : List Nat, (∀ k, k ∈ ks → 0 ≤ V k ∧ V k ≤ M) → 0 ≤ lsum V ks ∧ lsum V ks ≤ M * ks.length
  | [], _ => by simp [lsum]
  | k :: ks, h => by
    have a := h k (List.mem_cons_self ..)
    have b := lsum_bd ks (fun k hk => h k (List.mem_cons_of_mem _ hk))
    rw [lsum, List.length_cons, show ((ks.length + 1 : Nat) : Int) = (ks.length : Int) + 1 from rfl, Int.mul_add]
    omega
theorem cnt_eq {ch : Nat → Nat → Int} {x : Nat} {V : Nat → Int} {M : Int} (hM : 0 ≤ M) : ∀ (ks : List Nat) (b : Int), (∀ k, k ∈ ks → (bestTo (ch k) (x : Int) 4).2 = V k ∧ 0 ≤ V k ∧ V k ≤ M) → 0 ≤ b → b + M * ks.length ≤ 9000000000000000000 → cnt ch x b ks = b + lsum V ks
  | [], b, _, _, _ => by simp [cnt, lsum]
  | k :: ks, b, h, h0, h1 => by
    have a := h k (List.mem_cons_self ..)
    rw [List.length_cons, show ((ks.length + 1 : Nat) : Int) = (ks.length : Int) + 1 from rfl, Int.mul_add] at h1
    have hp : 0 ≤ M * (ks.length : Int) := Int.mul_nonneg hM (by omega)
    show cnt ch x (wrap64 (b + (bestTo (ch k) (x : Int) 4).2)) ks = _
    rw [a.1, w64 (by omega) (by omega), cnt_eq hM ks (b + V k) (fun k hk => h k (List.mem_cons_of_mem _ hk)) (by omega) (by omega), lsum]
    omega
section
variable {st : List Int} {n : Nat} {b : Nat → Nat → Int} (hn : n ≤ 6) (hb : ∀ j x, 0 ≤ b j x ∧ b j x ≤ 1000)
include hn hb
omit hn hb in
theorem best_val {c : Nat → Int} {M : Int} {x : Nat} (hM : M ≤ 1000000000000000) (hc : ∀ z, 0 ≤ c z ∧ c z ≤ M) : (bestTo c (x : Int) 4).2 = adj c x (bi c x) ∧ 0 ≤ adj c x (bi c x) ∧ adj c x (bi c x) ≤ M + 1 := by
  have h := best_is (c := c) (q := (x : Int)) (fun z _ => ⟨(hc z).1, by have := (hc z).2; omega⟩)
  refine ⟨by rw [h.2], ?_, ?_⟩
  · rw [adj_dif]
    have := hc (bi c x)
    have := dif_bd (bi c x) x
    omega
  · rw [adj_dif]
    have := hc (bi c x)
    have := dif_bd (bi c x) x
    omega
theorem chP_bd : ∀ d : Nat, d ≤ 6 → ∀ j x, 0 ≤ chP st n b d j x ∧ chP st n b d j x ≤ 2000 * 8 ^ d := by
  intro d
  induction d with
  | zero => intro _ j x; exact ⟨Int.le_refl _, show (0 : Int) ≤ 2000 * 8 ^ 0 by decide⟩
  | succ d ih =>
    intro hd j x
    have ih := ih (by omega)
    have hp : (1 : Int) ≤ 8 ^ d := by
      have : (0 : Int) < 8 ^ d := Int.pow_pos (by decide)
      omega
    have hq : (8 : Int) ^ d ≤ 32768 := by
      obtain rfl | rfl | rfl | rfl | rfl | rfl : d = 0 ∨ d = 1 ∨ d = 2 ∨ d = 3 ∨ d = 4 ∨ d = 5 := by omega
      all_goals decide
    have hk := kidx_len st n j
    have e := cnt_eq (ch := chP st n b d) (x := x) (V := fun k => adj (chP st n b d k) x (bi (chP st n b d k) x)) (M := 2000 * 8 ^ d + 1) (by omega) (kidx st n j) (b j x) (fun k _ => best_val (by omega) (ih k)) (hb j x).1 (by
      have : (2000 * 8 ^ d + 1) * ((kidx st n j).length : Int) ≤ (2000 * 8 ^ d + 1) * 6 := Int.mul_le_mul_of_nonneg_left (by omega) (by omega)
      have := (hb j x).2
      omega)
    have l := lsum_bd (V := fun k => adj (chP st n b d k) x (bi (chP st n b d k) x)) (M := 2000 * 8 ^ d + 1) (kidx st n j) (fun k _ => (best_val (by omega) (ih k)).2)
    have l2 : (2000 * 8 ^ d + 1) * ((kidx st n j).length : Int) ≤ (2000 * 8 ^ d + 1) * 6 := Int.mul_le_mul_of_nonneg_left (by omega) (by omega)
    have hbj := hb j x
    show 0 ≤ cnt (chP st n b d) x (b j x) (kidx st n j) ∧ cnt (chP st n b d) x (b j x) (kidx st n j) ≤ 2000 * 8 ^ (d + 1)
    rw [e, Int.pow_succ]
    omega
theorem chP_bd6 (j x : Nat) : 0 ≤ chP st n b n j x ∧ chP st n b n j x ≤ 1000000000 := by
  have h := chP_bd (st := st) hn hb n hn j x
  have hq : (8 : Int) ^ n ≤ 262144 := by
    obtain rfl | rfl | rfl | rfl | rfl | rfl | rfl : n = 0 ∨ n = 1 ∨ n = 2 ∨ n = 3 ∨ n = 4 ∨ n = 5 ∨ n = 6 := by omega
    all_goals decide
  omega
end
theorem lsum_kid {st : List Int} {V : Nat → Int} {j : Nat} : ∀ c : Nat, (∀ k : Nat, 1 ≤ k → k < c → 0 ≤ rd st (k : Int)) → lsum V (kidx st c j) = kidSum (fun k => (rd st (k : Int)).toNat) V c j
  | 0, _ => rfl
  | c + 1, h => by
    rw [kidx, lsum_append, lsum_kid c (fun k h1 h2 => h k h1 (by omega))]
    unfold kidSum
    rw [sumTo]
    congr 1
    show lsum V (if 0 < c ∧ rd st (c : Int) = (j : Int) then [c] else []) = (if 0 < c ∧ (rd st (c : Int)).toNat = j then V c else 0)
    by_cases h0 : 0 < c
    · have := h c h0 (by omega)
      by_cases e : rd st (c : Int) = (j : Int)
      · rw [if_pos ⟨h0, e⟩, if_pos ⟨h0, by omega⟩]; simp [lsum]
      · rw [if_neg (fun g => e g.2), if_neg (fun g => e (by omega))]; rfl
    · rw [if_neg (fun g => h0 g.1), if_neg (fun g => h0 g.1)]; rfl
def sOf (st : List Int) (k : Nat) : Nat := (rd st (k : Int)).toNat
def StemN (st : List Int) (n : Nat) : Prop := ∀ j : Nat, 1 ≤ j → j < n → 0 ≤ rd st (j : Int) ∧ rd st (j : Int) < j
section
variable {st : List Int} {n : Nat} {b : Nat → Nat → Int} (hn : n ≤ 6) (h1 : 1 ≤ n) (hb : ∀ j x, 0 ≤ b j x ∧ b j x ≤ 1000) (hS : StemN st n)
include hn h1 hb hS
theorem chP_sum (j x : Nat) (hj : j < n) : chP st n b n j x = b j x + kidSum (sOf st) (fun k => adj (chP st n b n k) x (bi (chP st n b n k) x)) n j := by
  rw [chP_eq (fun k h0 h => (hS k h0 h).2) j x hj]
  have hk := kidx_len st n j
  rw [cnt_eq (V := fun k => adj (chP st n b n k) x (bi (chP st n b n k) x)) (M := 1000000001) (by omega) (kidx st n j) (b j x) (fun k _ => best_val (M := 1000000000) (by omega) (fun z => chP_bd6 hn hb k z)) (hb j x).1 (by have := (hb j x).2; omega)]
  rw [lsum_kid n (fun k h0 h => (hS k h0 h).1)]
  rfl
def yOf (C : Nat → Nat → Int) (st : List Int) (j : Nat) : Nat := (ltP C st j).toNat
omit h1 hS in
theorem best_c (k : Nat) (q : Int) : IsBest (chP st n b n k) q (bi (chP st n b n k) q) ∧ bestTo (chP st n b n k) q 4 = (((bi (chP st n b n k) q : Nat) : Int), adj (chP st n b n k) q (bi (chP st n b n k) q)) :=
  best_is (fun z _ => ⟨(chP_bd6 hn hb k z).1, by have := (chP_bd6 (st := st) hn hb k z).2; omega⟩)
omit h1 hS in
theorem y_first : ltP (chP st n b n) st 0 = ((bi (chP st n b n 0) (-1) : Nat) : Int) := by
  rw [ltP_zero, (best_c hn hb 0 (-1)).2]
omit h1 in
theorem y_nat : ∀ j, j < n → ltP (chP st n b n) st j = ((yOf (chP st n b n) st j : Nat) : Int) ∧ yOf (chP st n b n) st j < 4 := by
  intro j hj
  by_cases h0 : 0 < j
  · have hs := hS j h0 hj
    obtain ⟨s, es⟩ : ∃ s : Nat, rd st (j : Int) = (s : Int) := ⟨(rd st (j : Int)).toNat, by omega⟩
    have e := ltP_step (chP st n b n) st h0 es (by omega)
    have hbst := best_c (st := st) hn hb j (ltP (chP st n b n) st s)
    rw [hbst.2] at e
    have ey : yOf (chP st n b n) st j = bi (chP st n b n j) (ltP (chP st n b n) st s) := by unfold yOf; rw [e]; rfl
    rw [ey, e]
    exact ⟨rfl, hbst.1.1⟩
  · obtain rfl : j = 0 := by omega
    have e := y_first (st := st) hn hb
    have ey : yOf (chP st n b n) st 0 = bi (chP st n b n 0) (-1) := by unfold yOf; rw [e]; rfl
    rw [ey, e]
    exact ⟨rfl, (best_c hn hb 0 (-1)).1.1⟩
omit h1 hS in
theorem y_zero : IsBest (chP st n b n 0) (-1) (yOf (chP st n b n) st 0) := by
  have e := y_first (st := st) hn hb
  have ey : yOf (chP st n b n) st 0 = bi (chP st n b n 0) (-1) := by unfold yOf; rw [e]; rfl
  rw [ey]
  exact (best_c hn hb 0 (-1)).1
omit h1 in
theorem y_step (j : Nat) (h0 : 0 < j) (hj : j < n) : IsBest (chP st n b n j) ((yOf (chP st n b n) st (sOf st j) : Nat) : Int) (yOf (chP st n b n) st j) := by
  have hs := hS j h0 hj
  obtain ⟨s, es⟩ : ∃ s : Nat, rd st (j : Int) = (s : Int) := ⟨(rd st (j : Int)).toNat, by omega⟩
  have e := ltP_step (chP st n b n) st h0 es (by omega)
  have hp : sOf st j = s := by unfold sOf; omega
  rw [hp]
  rw [(y_nat hn hb hS s (by omega)).1] at e
  have hbst := best_c (st := st) hn hb j ((yOf (chP st n b n) st s : Nat) : Int)
  rw [hbst.2] at e
  have ey : yOf (chP st n b n) st j = bi (chP st n b n j) ((yOf (chP st n b n) st s : Nat) : Int) := by
    show (ltP (chP st n b n) st j).toNat = _
    rw [e]
    rfl
  rw [ey]
  exact hbst.1
end
end Go.Proofs.YtejoneninbdjbaaDoor.Pur
end
section
namespace Go.Proofs.YtejoneninbdjbaaDoor.E
open Go.RowKit Go.Proofs.YtejoneninbdjbaaDoorW.PrintWords Go.Proofs.YtejoneninbdjbaaDoorW.PrintLast Go.Proofs.YtejoneninbdjbaaDoorW.PrintMore
attribute [local go_sem] max2_int min2_int max_two min_two max_three min_three max_four min_four
set_option linter.unusedVariables false
set_option linter.unusedSimpArgs false
attribute [local go_sem] str_leq_ str_gtr_ str_geq_
def impl_BooksValid.f (k : Nat) (l0 : List ByteArray) : Option (Bool) := (impl_lostOf.f k l0).bind fun bt125 => (if bt125.2 = true then (some (bt125.1 == 0)) else (some false))
end Go.Proofs.YtejoneninbdjbaaDoor.E
end
section
namespace Go.Proofs.YtejoneninbdjbaaDoor.E
open Go.RowKit Go.Proofs.YtejoneninbdjbaaDoorW.PrintWords Go.Proofs.YtejoneninbdjbaaDoorW.PrintLast Go.Proofs.YtejoneninbdjbaaDoorW.PrintMore
attribute [local go_sem] max2_int min2_int max_two min_two max_three min_three max_four min_four
set_option linter.unusedVariables false
set_option linter.unusedSimpArgs false
attribute [local go_sem] str_leq_ str_gtr_ str_geq_
def spec_BooksValid.f (k : Nat) (l0 : List ByteArray) : Option (Bool) := (spec_l7Books.f k l0).bind fun bt113 => (if bt113.2 = true then (some (bt113.1 == 0)) else (some false))
end Go.Proofs.YtejoneninbdjbaaDoor.E
end
section
namespace Go.Proofs.YtejoneninbdjbaaDoor.Pur
open Go.RowKit Go.Proofs.YtejoneninbdjbaaDoorW.PrintWords Go.Proofs.YtejoneninbdjbaaDoorW.PrintMore Go.Proofs.YtejoneninbdjbaaDoor.E
def lostB (t : ByteArray) : Bool := t.data.toList.all (fun b => b == 63)
def readB (t : ByteArray) : Bool := t.data.toList.all (fun b => decide (97 ≤ b.toNat) && decide (b.toNat ≤ 100))
theorem bt_at (t : ByteArray) (i : Nat) (h : i < t.size) : bt t (i : Int) = ((t.data.toList[i]'(by rw [Array.length_toList]; exact h)).toNat : Int) := by
  unfold bt
  rw [toNat_nat, dif_pos h, Array.getElem_toList]
  rfl
theorem list_len (t : ByteArray) : t.data.toList.length = t.size := Array.length_toList
theorem rd_at {l : List ByteArray} {i : Nat} (h : i < l.length) : rdOf ByteArray.empty l (i : Int) = l[i] := by
  unfold rdOf
  rw [toNat_nat, List.getD_eq_getElem?_getD, List.getElem?_eq_getElem h]
  rfl
theorem u8_eq {b : UInt8} {n : Nat} (hn : n < 256) : (b == UInt8.ofNat n) = decide (b.toNat = n) := by
  by_cases h : b.toNat = n
  · rw [decide_eq_true h, beq_iff_eq, ← UInt8.toNat_inj, h, UInt8.toNat_ofNat_of_lt' hn]
  · rw [decide_eq_false h, beq_eq_false_iff_ne]
    intro e
    rw [e, UInt8.toNat_ofNat_of_lt' hn] at h
    exact h rfl
theorem lost_loop (t : ByteArray) (ht : t.size ≤ 9223372036854775806) : ∀ d i : Nat, i + d = t.size → EvP (fun k => spec_l7Lost.l0 k t (i : Int)) (· = (t.data.toList.drop i).all (fun b => b == 63)) := by
  intro d
  induction d with
  | zero =>
    intro i hi
    refine EvP.succ ?_
    simp only [spec_l7Lost.l0]
    exact EvP.no (by omega) (EvP.ret (by rw [List.drop_of_length_le (by rw [list_len]; omega)]; rfl))
  | succ d ih =>
    intro i hi
    have hlt : i < t.size := by omega
    have hl : i < t.data.toList.length := by rw [list_len]; exact hlt
    have e2 : Hd (wrap64 ((i : Int) + 1) = ((i + 1 : Nat) : Int)) := ⟨w64 (by omega) (by omega)⟩
    refine EvP.succ ?_
    simp only [spec_l7Lost.l0]
    refine EvP.yes (by omega) (EvP.yes (by omega) ?_)
    rw [bt_at t i hlt, e2.out, List.drop_eq_getElem_cons hl, List.all_cons, show (63 : UInt8) = UInt8.ofNat 63 from rfl, u8_eq (by omega)]
    refine EvP.ite (fun h => ?_) (fun h => EvP.ret ?_)
    · rw [decide_eq_true (by omega), Bool.true_and]
      exact ih (i + 1) (by omega)
    · rw [decide_eq_false (by omega), Bool.false_and]
theorem spec_lost (t : ByteArray) (ht : t.size ≤ 9223372036854775806) : EvP (fun k => spec_l7Lost.f k t) (· = lostB t) := by
  unfold spec_l7Lost.f
  exact lost_loop t ht t.size 0 (by omega)
theorem read_loop (t : ByteArray) (ht : t.size ≤ 9223372036854775806) : ∀ d i : Nat, i + d = t.size → EvP (fun k => spec_l7Reading.l0 k t (i : Int)) (· = (t.data.toList.drop i).all (fun b => decide (97 ≤ b.toNat) && decide (b.toNat ≤ 100))) := by
  intro d
  induction d with
  | zero =>
    intro i hi
    refine EvP.succ ?_
    simp only [spec_l7Reading.l0]
    exact EvP.no (by omega) (EvP.ret (by rw [List.drop_of_length_le (by rw [list_len]; omega)]; rfl))
  | succ d ih =>
    intro i hi
    have hlt : i < t.size := by omega
    have hl : i < t.data.toList.length := by rw [list_len]; exact hlt
    have e2 : Hd (wrap64 ((i : Int) + 1) = ((i + 1 : Nat) : Int)) := ⟨w64 (by omega) (by omega)⟩
    refine EvP.succ ?_
    simp only [spec_l7Reading.l0]
    refine EvP.yes (by omega) (EvP.yes (by omega) ?_)
    rw [bt_at t i hlt, e2.out, List.drop_eq_getElem_cons hl, List.all_cons]
    refine EvP.ite (fun h => EvP.ret ?_) (fun h => EvP.ite (fun h' => EvP.ret ?_) (fun h' => ?_))
    · rw [decide_eq_false (by omega), Bool.false_and, Bool.false_and]
    · rw [decide_eq_false (p := _ ≤ 100) (by omega), Bool.and_false, Bool.false_and]
    · rw [decide_eq_true (by omega), decide_eq_true (by omega), Bool.true_and, Bool.true_and]
      exact ih (i + 1) (by omega)
theorem spec_read (t : ByteArray) (ht : t.size ≤ 9223372036854775806) : EvP (fun k => spec_l7Reading.f k t) (· = readB t) := by
  unfold spec_l7Reading.f
  exact read_loop t ht t.size 0 (by omega)
theorem dropWhile_nil {α : Type} (p : α → Bool) : ∀ l : List α, l.dropWhile p = [] ↔ l.all p = true
  | [] => by simp
  | a :: l => by
    by_cases h : p a = true
    · rw [List.dropWhile_cons_of_pos h, dropWhile_nil p l, List.all_cons, h, Bool.true_and]
    · rw [List.dropWhile_cons_of_neg h, List.all_cons, Bool.eq_false_iff.mpr h, Bool.false_and]; simp
theorem dropWhile_head {α : Type} (p : α → Bool) : ∀ l : List α, l.dropWhile p = [] ∨ ∃ a l', l.dropWhile p = a :: l' ∧ p a = false
  | [] => .inl rfl
  | a :: l => by
    by_cases h : p a = true
    · rw [List.dropWhile_cons_of_pos h]; exact dropWhile_head p l
    · rw [List.dropWhile_cons_of_neg h]; exact .inr ⟨a, l, rfl, Bool.eq_false_iff.mpr h⟩
theorem trim_nil (l cs : List UInt8) : Lib.trimS l cs = [] ↔ l.all (cs.contains ·) = true := by
  unfold Lib.trimS Lib.trimLeftS Lib.trimRightS
  rw [dropWhile_nil, List.all_reverse]
  refine ⟨fun h => ?_, fun h => ?_⟩
  · rcases dropWhile_head (cs.contains ·) l.reverse with e | ⟨a, l', e, ha⟩
    · rw [dropWhile_nil, List.all_reverse] at e; exact e
    · rw [e, List.all_cons, ha, Bool.false_and] at h; exact absurd h (by decide)
  · have : l.reverse.dropWhile (cs.contains ·) = [] := (dropWhile_nil _ _).mpr (by rw [List.all_reverse]; exact h)
    rw [this]; rfl
theorem trim_some (t c : ByteArray) (ht : t.size ≤ 9223372036854775806) (hc : c.size < 4294967281) (ha : c.data.toList.all (fun b => decide (b.toNat < 128)) = true) : strings_Trim.f t c = some ⟨(Lib.trimS t.data.toList c.data.toList).toArray⟩ := by
  unfold strings_Trim.f
  rw [if_pos (by omega), if_pos hc, if_pos ha]
theorem impl_lost (t : ByteArray) (ht : t.size ≤ 9223372036854775806) (h0 : t.size ≠ 0) : impl_isLost.f t = some (lostB t) := by
  unfold impl_isLost.f
  have hne : ¬ t.toList = ([] : List UInt8) := by
    rw [ByteArray.toList_eq]
    intro e
    have := congrArg List.length e
    rw [list_len] at this
    exact h0 this
  rw [if_neg hne, trim_some t _ ht (by decide) (by decide)]
  simp only [Option.bind_some]
  rw [ByteArray.toList_eq]
  congr 1
  show (Lib.trimS t.data.toList [63] == []) = lostB t
  have h := trim_nil t.data.toList [63]
  have e : (t.data.toList.all (fun b => [63].contains b)) = lostB t := by
    unfold lostB
    congr 1
    funext b
    rw [List.contains_cons]
    simp
  rw [e] at h
  by_cases hl : lostB t = true
  · rw [hl, beq_iff_eq]; exact h.mpr hl
  · rw [Bool.eq_false_iff.mpr hl, beq_eq_false_iff_ne]; exact fun e => hl (h.mp e)
theorem trim_read (t : ByteArray) (ht : t.size ≤ 9223372036854775806) : ∃ r, strings_Trim.f t (⟨#[97, 98, 99, 100]⟩ : ByteArray) = some r ∧ (r.toList = ([] : List UInt8) ↔ readB t = true) := by
  refine ⟨_, trim_some t _ ht (by decide) (by decide), ?_⟩
  rw [ByteArray.toList_eq]
  show Lib.trimS t.data.toList [97, 98, 99, 100] = [] ↔ _
  rw [trim_nil]
  have e : (t.data.toList.all (fun b => [97, 98, 99, 100].contains b)) = readB t := by
    unfold readB
    congr 1
    funext b
    have h : ∀ n : Nat, n < 256 → (b == UInt8.ofNat n) = decide (b.toNat = n) := fun n hn => u8_eq hn
    simp only [List.contains, List.elem]
    rw [show (97 : UInt8) = UInt8.ofNat 97 from rfl, show (98 : UInt8) = UInt8.ofNat 98 from rfl, show (99 : UInt8) = UInt8.ofNat 99 from rfl, show (100 : UInt8) = UInt8.ofNat 100 from rfl, h 97 (by omega), h 98 (by omega), h 99 (by omega), h 100 (by omega)]
    rcases Nat.lt_or_ge b.toNat 97 with g | g
    · rw [decide_eq_false (p := b.toNat = 97) (by omega), decide_eq_false (p := b.toNat = 98) (by omega), decide_eq_false (p := b.toNat = 99) (by omega), decide_eq_false (p := b.toNat = 100) (by omega), decide_eq_false (p := 97 ≤ b.toNat) (by omega)]; rfl
    · rcases Nat.lt_or_ge 100 b.toNat with g' | g'
      · rw [decide_eq_false (p := b.toNat = 97) (by omega), decide_eq_false (p := b.toNat = 98) (by omega), decide_eq_false (p := b.toNat = 99) (by omega), decide_eq_false (p := b.toNat = 100) (by omega), decide_eq_false (p := b.toNat ≤ 100) (by omega), Bool.and_false]
      · rw [decide_eq_true (p := 97 ≤ b.toNat) g, decide_eq_true (p := b.toNat ≤ 100) g', Bool.and_true]
        have : b.toNat = 97 ∨ b.toNat = 98 ∨ b.toNat = 99 ∨ b.toNat = 100 := by omega
        rcases this with e | e | e | e <;> rw [e] <;> rfl
  rw [e]
def goB (n : Nat) : List ByteArray → Int → Int × Bool
  | [], c => (c, true)
  | t :: ts, c => if t.size = n ∧ (readB t = true ∨ lostB t = true) then goB n ts (if lostB t = true then c + 1 else c) else (0, false)
def booksOf (l : List ByteArray) : Int × Bool := if 1 ≤ l.length ∧ l.length ≤ 6 ∧ 1 ≤ (l.getD 0 ByteArray.empty).size ∧ (l.getD 0 ByteArray.empty).size ≤ 8 then goB (l.getD 0 ByteArray.empty).size l 0 else (0, false)
theorem rd0 (l : List ByteArray) : rdOf ByteArray.empty l 0 = l.getD 0 ByteArray.empty := rfl
section
variable (l : List ByteArray) (hl : 1 ≤ l.length ∧ l.length ≤ 6) (hs : ∀ t ∈ l, t.size ≤ 9223372036854775806)
include hl hs
theorem spec_books_loop (_ : 1 ≤ (l.getD 0 ByteArray.empty).size ∧ (l.getD 0 ByteArray.empty).size ≤ 8) : ∀ (d i : Nat) (c : Int), i + d = l.length → 0 ≤ c → c ≤ i → EvP (fun k => spec_l7Books.l0 k l c (i : Int)) (· = goB (l.getD 0 ByteArray.empty).size (l.drop i) c) := by
  intro d
  induction d with
  | zero =>
    intro i c hi hc0 hc1
    refine EvP.succ ?_
    simp only [spec_l7Books.l0]
    exact EvP.no (by omega) (EvP.ret (by rw [List.drop_of_length_le (by omega)]; rfl))
  | succ d ih =>
    intro i c hi hc0 hc1
    have hlt : i < l.length := by omega
    have hsz := hs l[i] (List.getElem_mem hlt)
    have e1 : Hd (wrap64 (c + 1) = c + 1) := ⟨w64 (by omega) (by omega)⟩
    have e2 : Hd (wrap64 ((i : Int) + 1) = ((i + 1 : Nat) : Int)) := ⟨w64 (by omega) (by omega)⟩
    rw [List.drop_eq_getElem_cons hlt, goB]
    have J : ∀ B : Bool, (B = false ↔ (l[i].size = (l.getD 0 ByteArray.empty).size ∧ (readB l[i] = true ∨ lostB l[i] = true))) → EvP (fun k => spec_l7Books.j2 k l c (i : Int) B) (· = if l[i].size = (l.getD 0 ByteArray.empty).size ∧ (readB l[i] = true ∨ lostB l[i] = true) then goB (l.getD 0 ByteArray.empty).size (l.drop (i + 1)) (if lostB l[i] = true then c + 1 else c) else (0, false)) := by
      intro B hB
      refine EvP.succ ?_
      simp only [spec_l7Books.j2]
      refine EvP.ite (fun hb => EvP.ret ?_) (fun hb => ?_)
      · rw [if_neg (fun h => by rw [hB.mpr h] at hb; exact Bool.noConfusion hb)]
      · rw [if_pos (hB.mp (Bool.eq_false_iff.mpr hb))]
        refine EvP.yes (by omega) (EvP.yes (by omega) ?_)
        rw [rd_at hlt, e1.out, e2.out]
        refine EvP.bind (spec_lost _ hsz) (fun _ e => ?_)
        subst e
        refine EvP.ite (fun h => ?_) (fun h => ?_)
        · rw [if_pos h]; exact ih (i + 1) (c + 1) (by omega) (by omega) (by omega)
        · rw [if_neg h]; exact ih (i + 1) c (by omega) hc0 (by omega)
    refine EvP.succ ?_
    simp only [spec_l7Books.l0]
    refine EvP.yes (by omega) (EvP.yes (by omega) (EvP.yes (by omega) ?_))
    rw [rd_at hlt, rd0]
    refine EvP.ite (fun hz => ?_) (fun hz => J true ⟨fun h => Bool.noConfusion h, fun h => absurd (by rw [h.1]) hz⟩)
    have hz : l[i].size = (l.getD 0 ByteArray.empty).size := by omega
    refine EvP.bind (spec_read _ hsz) (fun _ e => ?_)
    subst e
    refine EvP.ite (fun h => J false ⟨fun _ => ⟨hz, .inl h⟩, fun _ => rfl⟩) (fun h => ?_)
    refine EvP.bind (spec_lost _ hsz) (fun _ e => ?_)
    subst e
    refine J _ ⟨fun h' => ⟨hz, .inr (by simpa using h')⟩, fun h' => ?_⟩
    rcases h'.2 with h' | h'
    · exact absurd h' h
    · rw [h']; rfl
theorem impl_books_loop : ∀ (d i : Nat) (c : Int), i + d = l.length → 0 ≤ c → c ≤ i → (i = 0 → 0 < d) → EvP (fun k => impl_lostOf.l0 k l c l (l.length : Int) (i : Int)) (· = if 1 ≤ (l.getD 0 ByteArray.empty).size ∧ (l.getD 0 ByteArray.empty).size ≤ 8 ∨ d = 0 then goB (l.getD 0 ByteArray.empty).size (l.drop i) c else (0, false)) := by
  intro d
  induction d with
  | zero =>
    intro i c hi hc0 hc1 _
    refine EvP.succ ?_
    simp only [impl_lostOf.l0]
    exact EvP.no (by omega) (EvP.ret (by rw [List.drop_of_length_le (by omega), if_pos (.inr trivial)]; rfl))
  | succ d ih =>
    intro i c hi hc0 hc1 _
    have hlt : i < l.length := by omega
    have hsz := hs l[i] (List.getElem_mem hlt)
    have e1 : Hd (wrap64 (c + 1) = c + 1) := ⟨w64 (by omega) (by omega)⟩
    have e2 : Hd (wrap64 ((i : Int) + 1) = ((i + 1 : Nat) : Int)) := ⟨w64 (by omega) (by omega)⟩
    rw [List.drop_eq_getElem_cons hlt, goB]
    have bad : ∀ v, v = ((0, false) : Int × Bool) → EvP (fun k => impl_lostOf.j2 k l c l[i] l (l.length : Int) (i : Int) true) (· = v) := by
      intro v hv
      refine EvP.succ ?_
      simp only [impl_lostOf.j2]
      exact EvP.yes trivial (EvP.ret hv.symm)
    refine EvP.succ ?_
    simp only [impl_lostOf.l0]
    refine EvP.yes (by omega) (EvP.yes (by omega) (EvP.yes (by omega) (EvP.yes (by omega) ?_)))
    rw [rd_at hlt, rd0]
    refine EvP.ite (fun hz => ?_) (fun hz => bad _ ?_)
    · have hz : l[i].size = (l.getD 0 ByteArray.empty).size := by omega
      refine EvP.ite (fun he => bad _ ?_) (fun he => ?_)
      · have : l[i].size = 0 := by
          rw [ByteArray.toList_eq] at he
          rw [← list_len, he]; rfl
        rw [if_neg (by omega)]
      · have hpos : l[i].size ≠ 0 := by
          intro h
          apply he
          rw [ByteArray.toList_eq]
          exact List.eq_nil_of_length_eq_zero (by rw [list_len]; exact h)
        by_cases h8 : (l[i].size : Int) > 8
        · rw [decide_eq_true h8]
          exact bad _ (by rw [if_neg (by omega)])
        · rw [decide_eq_false h8]
          rw [if_pos (.inl (by omega))]
          refine EvP.succ ?_
          simp only [impl_lostOf.j2]
          refine EvP.no (by decide) ?_
          rw [impl_lost _ hsz hpos, e1.out, e2.out]
          refine EvP.bind (P := (· = lostB l[i])) (EvP.ret rfl) (fun _ e => ?_)
          subst e
          refine EvP.ite (fun h => ?_) (fun h => ?_)
          · rw [if_pos ⟨hz, .inr h⟩, if_pos h]
            have := ih (i + 1) (c + 1) (by omega) (by omega) (by omega) (by omega)
            rw [if_pos (.inl (by omega))] at this
            exact this
          · obtain ⟨r, hr, hn⟩ := trim_read _ hsz
            rw [hr]
            refine EvP.bind (P := (· = r)) (EvP.ret rfl) (fun _ e => ?_)
            subst e
            refine EvP.ite (fun h' => ?_) (fun h' => EvP.ret ?_)
            · rw [if_pos ⟨hz, .inl (hn.mp h')⟩, if_neg h]
              have := ih (i + 1) c (by omega) hc0 (by omega) (by omega)
              rw [if_pos (.inl (by omega))] at this
              exact this
            · rw [if_neg (fun hh => hh.2.elim (fun a => h' (hn.mpr a)) (fun a => h a))]
    · rw [if_neg (fun h : l[i].size = _ ∧ _ => hz (by rw [h.1]))]
      split <;> rfl
end
theorem spec_books (l : List ByteArray) (hs : ∀ t ∈ l, t.size ≤ 9223372036854775806) : EvP (fun k => spec_l7Books.f k l) (· = booksOf l) := by
  unfold spec_l7Books.f spec_l6In.f
  have bad : ∀ v, v = ((0, false) : Int × Bool) → EvP (fun k => spec_l7Books.j0 k l 0 true) (· = v) := by
    intro v hv
    refine EvP.succ ?_
    simp only [spec_l7Books.j0]
    exact EvP.yes trivial (EvP.ret hv.symm)
  refine EvP.bind (P := (· = (decide (1 ≤ l.length ∧ l.length ≤ 6)))) ?_ (fun _ e => ?_)
  · refine EvP.ite (fun h => EvP.ret ?_) (fun h => EvP.ret ?_)
    · exact decide_eq_decide.mpr (by omega)
    · rw [decide_eq_false (by omega)]
  subst e
  refine EvP.ite (fun h => ?_) (fun h => bad _ ?_)
  · have hl := of_decide_eq_true h
    refine EvP.yes (by omega) ?_
    rw [rd0 l]
    refine EvP.bind (P := (· = (decide (1 ≤ (l.getD 0 ByteArray.empty).size ∧ (l.getD 0 ByteArray.empty).size ≤ 8)))) ?_ (fun _ e => ?_)
    · refine EvP.ite (fun h => EvP.ret ?_) (fun h => EvP.ret ?_)
      · exact decide_eq_decide.mpr (by omega)
      · rw [decide_eq_false (by omega)]
    subst e
    by_cases h8 : 1 ≤ (l.getD 0 ByteArray.empty).size ∧ (l.getD 0 ByteArray.empty).size ≤ 8
    · rw [decide_eq_true h8]
      refine EvP.succ ?_
      simp only [spec_l7Books.j0]
      refine EvP.no (by decide) ?_
      unfold booksOf
      rw [if_pos ⟨hl.1, hl.2, h8.1, h8.2⟩]
      exact spec_books_loop l hl hs h8 l.length 0 0 (by omega) (by omega) (by omega)
    · rw [decide_eq_false h8]
      refine bad _ ?_
      unfold booksOf
      rw [if_neg (fun hh => h8 ⟨hh.2.2.1, hh.2.2.2⟩)]
  · unfold booksOf
    rw [if_neg (fun hh => h (decide_eq_true ⟨hh.1, hh.2.1⟩))]
theorem impl_books (l : List ByteArray) (hs : ∀ t ∈ l, t.size ≤ 9223372036854775806) : EvP (fun k => impl_lostOf.f k l) (· = booksOf l) := by
  unfold impl_lostOf.f
  have bad : ∀ v, v = ((0, false) : Int × Bool) → EvP (fun k => impl_lostOf.j0 k l true) (· = v) := by
    intro v hv
    refine EvP.succ ?_
    simp only [impl_lostOf.j0]
    exact EvP.yes trivial (EvP.ret hv.symm)
  refine EvP.ite (fun h => bad _ ?_) (fun h => ?_)
  · unfold booksOf; rw [if_neg (fun hh => by omega)]
  by_cases h6 : (l.length : Int) > 6
  · rw [decide_eq_true h6]
    exact bad _ (by unfold booksOf; rw [if_neg (fun hh => by omega)])
  rw [decide_eq_false h6]
  have hl : 1 ≤ l.length ∧ l.length ≤ 6 := by omega
  refine EvP.succ ?_
  simp only [impl_lostOf.j0]
  refine EvP.no (by decide) ?_
  have := impl_books_loop l hl hs l.length 0 0 (by omega) (by omega) (by omega) (by omega)
  refine this.mono (fun r e => ?_)
  rw [e]
  unfold booksOf
  by_cases h8 : 1 ≤ (l.getD 0 ByteArray.empty).size ∧ (l.getD 0 ByteArray.empty).size ≤ 8
  · rw [if_pos (.inl h8), if_pos ⟨hl.1, hl.2, h8.1, h8.2⟩]; rfl
  · rw [if_neg (fun hh => hh.elim h8 (by omega)), if_neg (fun hh => h8 ⟨hh.2.2.1, hh.2.2.2⟩)]
def okBooks (l : List ByteArray) : Bool := (booksOf l).2 && ((booksOf l).1 == 0)
end Go.Proofs.YtejoneninbdjbaaDoor.Pur
end
section
namespace Go.Proofs.YtejoneninbdjbaaDoor.Pur
open Go.RowKit Go.Proofs.YtejoneninbdjbaaDoorW.PrintWords Go.Proofs.YtejoneninbdjbaaDoorW.PrintMore Go.Proofs.YtejoneninbdjbaaDoor.E
theorem rdS_at {l : List ByteArray} {i : Nat} (h : i < l.length) : rdOf ByteArray.empty l (i : Int) = l[i] := by
  unfold rdOf
  rw [toNat_nat, List.getD_eq_getElem?_getD, List.getElem?_eq_getElem h]
  rfl
theorem sz_strs_loop (l : List ByteArray) (hl : l.length ≤ 1048576) (hs : ∀ t ∈ l, t.size ≤ 9223372036854775807) : ∀ (d i : Nat) (n : Int), i + d = l.length → 0 ≤ n → n ≤ 1048576 → (∀ j (h : j < l.length), j < i → l[j].size ≤ 1048576) →
    EvP (fun k => laws_szStringS.l0 k l n (i : Int)) (fun r => r < 0 ∨ 0 ≤ r ∧ r ≤ n ∧ ∀ t ∈ l, t.size ≤ 1048576) := by
  intro d
  induction d with
  | zero =>
    intro i n hi h0 h1 hj
    refine EvP.succ ?_
    simp only [laws_szStringS.l0]
    refine EvP.no (by omega) (EvP.ret (.inr ⟨h0, Int.le_refl _, fun t ht => ?_⟩))
    obtain ⟨j, hjl, rfl⟩ := List.getElem_of_mem ht
    exact hj j hjl (by omega)
  | succ d ih =>
    intro i n hi h0 h1 hj
    have hlt : i < l.length := by omega
    have hsz := hs l[i] (List.getElem_mem hlt)
    have e1 : Hd (wrap64 (n - (l[i].size : Int)) = n - (l[i].size : Int)) := ⟨w64 (by omega) (by omega)⟩
    have e2 : Hd (wrap64 ((i : Int) + 1) = ((i + 1 : Nat) : Int)) := ⟨w64 (by omega) (by omega)⟩
    refine EvP.succ ?_
    simp only [laws_szStringS.l0]
    refine EvP.yes (by omega) (EvP.yes (by omega) ?_)
    rw [rdS_at hlt, e1.out, e2.out]
    refine EvP.ite (fun _ => EvP.ret (.inl (by omega))) (fun h => ?_)
    refine (ih (i + 1) _ (by omega) (by omega) (by omega) (fun j h' hji => ?_)).mono (fun r h' => h'.imp id (fun h' => ⟨h'.1, by omega, h'.2.2⟩))
    by_cases e : j = i
    · subst e; omega
    · exact hj j h' (by omega)
theorem sz_strs (l : List ByteArray) (hl : (l.length : Int) ≤ 9223372036854775807) (hs : ∀ t ∈ l, t.size ≤ 9223372036854775807) (n : Int) (h0 : 0 ≤ n) (h1 : n ≤ 1048576) :
    EvP (fun k => laws_szStringS.f k l n) (fun r => r < 0 ∨ 0 ≤ r ∧ r ≤ n ∧ l.length ≤ 1048576 ∧ ∀ t ∈ l, t.size ≤ 1048576) := by
  unfold laws_szStringS.f
  rw [w64 (by omega) (by omega)]
  refine EvP.ite (fun _ => EvP.ret (.inl (by omega))) (fun h => ?_)
  refine (sz_strs_loop l (by omega) hs l.length 0 _ (by omega) (by omega) (by omega) (fun j _ hj => by omega)).mono (fun r h' => h'.imp id (fun h' => ⟨h'.1, by omega, by omega, h'.2.2⟩))
theorem to_strs_loop (l : List ByteArray) (hl : l.length ≤ 1048576) : ∀ (d i : Nat) (xs : List ByteArray), i + d = l.length → xs.length = l.length → xs.take i = l.take i → EvP (fun k => laws_toStringS.l0 k l xs (i : Int)) (· = l) := by
  intro d
  induction d with
  | zero =>
    intro i xs hi hx ht
    refine EvP.succ ?_
    simp only [laws_toStringS.l0]
    refine EvP.no (by omega) (EvP.ret ?_)
    rw [List.take_of_length_le (by omega), List.take_of_length_le (by omega)] at ht
    exact ht
  | succ d ih =>
    intro i xs hi hx ht
    have hlt : i < l.length := by omega
    have e2 : Hd (wrap64 ((i : Int) + 1) = ((i + 1 : Nat) : Int)) := ⟨w64 (by omega) (by omega)⟩
    refine EvP.succ ?_
    simp only [laws_toStringS.l0]
    refine EvP.yes (by omega) (EvP.yes (by omega) (EvP.yes (by omega) ?_))
    rw [rdS_at hlt, e2.out, toNat_nat]
    refine ih (i + 1) _ (by omega) (by simpa using hx) ?_
    rw [List.take_succ_eq_append_getElem (by simp; omega), List.take_succ_eq_append_getElem hlt, List.take_set_of_le (Nat.le_refl _), ht]
    simp
theorem to_strs (l : List ByteArray) (hl : l.length ≤ 1048576) : EvP (fun k => laws_toStringS.f k l) (· = l) := by
  unfold laws_toStringS.f
  refine EvP.yes (by omega) (EvP.yes (by rw [toNat_nat]; omega) ?_)
  exact to_strs_loop l hl l.length 0 _ (by omega) (by rw [List.length_replicate, toNat_nat]) rfl
theorem eq_strs_loop (l : List ByteArray) (hl : l.length ≤ 1048576) : ∀ d i : Nat, i + d = l.length → EvP (fun k => laws_eqStringS.l0 k l l (i : Int)) (· = true) := by
  intro d
  induction d with
  | zero =>
    intro i hi
    refine EvP.succ ?_
    simp only [laws_eqStringS.l0]
    exact EvP.no (by omega) (EvP.ret rfl)
  | succ d ih =>
    intro i hi
    have e2 : Hd (wrap64 ((i : Int) + 1) = ((i + 1 : Nat) : Int)) := ⟨w64 (by omega) (by omega)⟩
    refine EvP.succ ?_
    simp only [laws_eqStringS.l0]
    refine EvP.yes (by omega) (EvP.yes (by omega) (EvP.yes (by omega) (EvP.yes trivial ?_)))
    rw [e2.out]
    exact ih (i + 1) (by omega)
theorem eq_strs (l : List ByteArray) (hl : l.length ≤ 1048576) : EvP (fun k => laws_eqStringS.f k l l) (· = true) := by
  unfold laws_eqStringS.f
  exact EvP.yes rfl (eq_strs_loop l hl l.length 0 (by omega))
end Go.Proofs.YtejoneninbdjbaaDoor.Pur
end
section
namespace Go.Proofs.YtejoneninbdjbaaDoor.E
open Go.RowKit Go.Proofs.YtejoneninbdjbaaDoorW.PrintWords Go.Proofs.YtejoneninbdjbaaDoorW.PrintLast Go.Proofs.YtejoneninbdjbaaDoorW.PrintMore
attribute [local go_sem] max2_int min2_int max_two min_two max_three min_three max_four min_four
set_option linter.unusedVariables false
set_option linter.unusedSimpArgs false
attribute [local go_sem] str_leq_ str_gtr_ str_geq_
def spec_l7Far.l0 : Nat → ByteArray → ByteArray → Int → Int → Option (Int)
 | 0, _, _, _, _ => none
 | k + 1, x0, x1, x5, x6 => if x6 < (x0.size : Int) then (if 0 ≤ x6 then (if x6 < (x1.size : Int) then (if (bt x0 x6) = (bt x1 x6) then (spec_l7Far.l0 k x0 x1 x5 (wrap64 (x6 + 1))) else (spec_l7Far.l0 k x0 x1 (wrap64 (x5 + 1)) (wrap64 (x6 + 1)))) else (none)) else (none)) else (some x5)
def spec_l7Far.f (k : Nat) (a0 : ByteArray) (a1 : ByteArray) : Option (Int) := spec_l7Far.l0 k a0 a1 0 0
end Go.Proofs.YtejoneninbdjbaaDoor.E
end
section
namespace Go.Proofs.YtejoneninbdjbaaDoor.E
open Go.RowKit Go.Proofs.YtejoneninbdjbaaDoorW.PrintWords Go.Proofs.YtejoneninbdjbaaDoorW.PrintLast Go.Proofs.YtejoneninbdjbaaDoorW.PrintMore
attribute [local go_sem] max2_int min2_int max_two min_two max_three min_three max_four min_four
set_option linter.unusedVariables false
set_option linter.unusedSimpArgs false
attribute [local go_sem] str_leq_ str_gtr_ str_geq_
def spec_BooksFar.f (k : Nat) (l0 : List ByteArray) (a1 : Int) (a2 : Int) : Option (Int) := (spec_BooksValid.f k l0).bind fun t142 => (if t142 = true then ((spec_l6In.f a1 0 (wrap64 ((l0.length : Int) - 1))).bind fun t143 => (if t143 = true then ((spec_l6In.f a2 0 (wrap64 ((l0.length : Int) - 1))).bind fun t144 => (if t144 = true then (if 0 ≤ a1 then (if a1 < (l0.length : Int) then (if 0 ≤ a2 then (if a2 < (l0.length : Int) then ((spec_l7Far.f k (rdOf ByteArray.empty l0 a1) (rdOf ByteArray.empty l0 a2)).bind fun t147 => (some t147)) else (none)) else (none)) else (none)) else (none)) else (some (-1)))) else (some (-1)))) else (some (-1)))
end Go.Proofs.YtejoneninbdjbaaDoor.E
end
section
namespace Go.Proofs.YtejoneninbdjbaaDoor.E
open Go.RowKit Go.Proofs.YtejoneninbdjbaaDoorW.PrintWords Go.Proofs.YtejoneninbdjbaaDoorW.PrintLast Go.Proofs.YtejoneninbdjbaaDoorW.PrintMore
attribute [local go_sem] max2_int min2_int max_two min_two max_three min_three max_four min_four
set_option linter.unusedVariables false
set_option linter.unusedSimpArgs false
attribute [local go_sem] str_leq_ str_gtr_ str_geq_
def impl_farBetween.l0 : Nat → ByteArray → ByteArray → Int → Int → Int → Option (Int)
 | 0, _, _, _, _, _ => none
 | k + 1, x0, x1, x5, x8, x9 => if x9 < x8 then (if 0 ≤ x9 then (if x9 < (x0.size : Int) then (if x9 < (x1.size : Int) then (if (bt x0 x9) = (bt x1 x9) then (impl_farBetween.l0 k x0 x1 x5 x8 (wrap64 (x9 + 1))) else (impl_farBetween.l0 k x0 x1 (wrap64 (x5 + 1)) x8 (wrap64 (x9 + 1)))) else (none)) else (none)) else (none)) else (some x5)
def impl_farBetween.f (k : Nat) (a0 : ByteArray) (a1 : ByteArray) : Option (Int) := impl_farBetween.l0 k a0 a1 0 (a0.size : Int) 0
end Go.Proofs.YtejoneninbdjbaaDoor.E
end
section
namespace Go.Proofs.YtejoneninbdjbaaDoor.E
open Go.RowKit Go.Proofs.YtejoneninbdjbaaDoorW.PrintWords Go.Proofs.YtejoneninbdjbaaDoorW.PrintLast Go.Proofs.YtejoneninbdjbaaDoorW.PrintMore
attribute [local go_sem] max2_int min2_int max_two min_two max_three min_three max_four min_four
set_option linter.unusedVariables false
set_option linter.unusedSimpArgs false
attribute [local go_sem] str_leq_ str_gtr_ str_geq_
def impl_BooksFar.f (k : Nat) (l0 : List ByteArray) (a1 : Int) (a2 : Int) : Option (Int) := (impl_BooksValid.f k l0).bind fun t148 => (if t148 = true then (if (mn a1 a2) < 0 then (some (-1)) else (if (mx a1 a2) ≥ (l0.length : Int) then (some (-1)) else (if 0 ≤ a1 then (if a1 < (l0.length : Int) then (if 0 ≤ a2 then (if a2 < (l0.length : Int) then ((impl_farBetween.f k (rdOf ByteArray.empty l0 a1) (rdOf ByteArray.empty l0 a2)).bind fun t151 => (some t151)) else (none)) else (none)) else (none)) else (none)))) else (some (-1)))
end Go.Proofs.YtejoneninbdjbaaDoor.E
end
section
namespace Go.Proofs.YtejoneninbdjbaaDoor.E
open Go.RowKit Go.Proofs.YtejoneninbdjbaaDoorW.PrintWords Go.Proofs.YtejoneninbdjbaaDoorW.PrintLast Go.Proofs.YtejoneninbdjbaaDoorW.PrintMore
attribute [local go_sem] max2_int min2_int max_two min_two max_three min_three max_four min_four
set_option linter.unusedVariables false
set_option linter.unusedSimpArgs false
attribute [local go_sem] str_leq_ str_gtr_ str_geq_
def laws_FnExactBooksFar.f (k : Nat) (l0 : List ByteArray) (a1 : Int) (a2 : Int) : Option (Bool) := (laws_szStringS.f k l0 1048576).bind fun t152 => (if t152 < 0 then (some true) else ((laws_toStringS.f k l0).bind fun t153 => ((spec_BooksFar.f k t153 a1 a2).bind fun t156 => ((laws_toStringS.f k l0).bind fun t157 => ((impl_BooksFar.f k t157 a1 a2).bind fun t160 => (if t160 = t156 then ((laws_toStringS.f k l0).bind fun t161 => ((laws_eqStringS.f k t157 t161).bind fun t164 => (if t164 = true then (some true) else (some false)))) else (some false)))))))
end Go.Proofs.YtejoneninbdjbaaDoor.E
end
section
namespace Go.Proofs.YtejoneninbdjbaaDoor.Pur
open Go.RowKit Go.Proofs.YtejoneninbdjbaaDoorW.PrintWords Go.Proofs.YtejoneninbdjbaaDoorW.PrintMore Go.Proofs.YtejoneninbdjbaaDoor.E
def diffs : List UInt8 → List UInt8 → Nat
  | a :: x, b :: y => (if a = b then 0 else 1) + diffs x y
  | _, _ => 0
def farT (s t : ByteArray) : Int := (diffs s.data.toList t.data.toList : Nat)
theorem goB_ok (n : Nat) : ∀ (l : List ByteArray) (c : Int), (goB n l c).2 = true → ∀ t ∈ l, t.size = n ∧ (readB t = true ∨ lostB t = true)
  | [], _, _, _, h => by cases h
  | t :: ts, c, h, x, hx => by
    rw [goB] at h
    by_cases g : t.size = n ∧ (readB t = true ∨ lostB t = true)
    · rw [if_pos g] at h
      rcases List.mem_cons.mp hx with rfl | hx
      · exact g
      · exact goB_ok n ts _ h x hx
    · rw [if_neg g] at h
      exact absurd h (by decide)
theorem books_ok {l : List ByteArray} (h : (booksOf l).2 = true) : 1 ≤ l.length ∧ l.length ≤ 6 ∧ ∃ n : Nat, 1 ≤ n ∧ n ≤ 8 ∧ ∀ t ∈ l, t.size = n ∧ (readB t = true ∨ lostB t = true) := by
  unfold booksOf at h
  by_cases g : 1 ≤ l.length ∧ l.length ≤ 6 ∧ 1 ≤ (l.getD 0 ByteArray.empty).size ∧ (l.getD 0 ByteArray.empty).size ≤ 8
  · rw [if_pos g] at h
    exact ⟨g.1, g.2.1, _, g.2.2.1, g.2.2.2, goB_ok _ l 0 h⟩
  · rw [if_neg g] at h
    exact absurd h (by decide)
def farOf (l : List ByteArray) (i k : Int) : Int := if okBooks l = true ∧ 0 ≤ i ∧ i < l.length ∧ 0 ≤ k ∧ k < l.length then farT (rdOf ByteArray.empty l i) (rdOf ByteArray.empty l k) else -1
theorem rd_mem {l : List ByteArray} {i : Int} (h0 : 0 ≤ i) (h1 : i < l.length) : rdOf ByteArray.empty l i ∈ l := by
  obtain ⟨j, rfl⟩ := Int.eq_ofNat_of_zero_le h0
  rw [rd_at (by omega)]
  exact List.getElem_mem _
end Go.Proofs.YtejoneninbdjbaaDoor.Pur
end
section
namespace Go.Proofs.YtejoneninbdjbaaDoor.E
open Go.RowKit Go.Proofs.YtejoneninbdjbaaDoorW.PrintWords Go.Proofs.YtejoneninbdjbaaDoorW.PrintLast Go.Proofs.YtejoneninbdjbaaDoorW.PrintMore
attribute [local go_sem] max2_int min2_int max_two min_two max_three min_three max_four min_four
set_option linter.unusedVariables false
set_option linter.unusedSimpArgs false
attribute [local go_sem] str_leq_ str_gtr_ str_geq_
def laws_heldIntS.l0 : Nat → List Int → Int → Int → Option (Int)
 | 0, _, _, _ => none
 | k + 1, x0, x1, x5 => if x5 < (x0.length : Int) then (if 0 ≤ x5 then (if (rd x0 x5) = x1 then (laws_heldIntS.l0 k x0 (wrap64 (x1 + 1)) (wrap64 (x5 + 1))) else (some (-1))) else (none)) else (some x1)
def laws_heldIntS.f (k : Nat) (l0 : List Int) (a1 : Int) : Option (Int) := laws_heldIntS.l0 k l0 a1 0
end Go.Proofs.YtejoneninbdjbaaDoor.E
end
section
namespace Go.Proofs.YtejoneninbdjbaaDoor.Pur
open Go.RowKit Go.Proofs.YtejoneninbdjbaaDoorW.PrintWords Go.Proofs.YtejoneninbdjbaaDoorW.PrintMore Go.Proofs.YtejoneninbdjbaaDoor.E
theorem rdI_at {l : List Int} {i : Nat} (h : i < l.length) : rd l (i : Int) = l[i] := by
  unfold rd
  rw [toNat_nat, List.getD_eq_getElem?_getD, List.getElem?_eq_getElem h]
  rfl
theorem to_ints_loop (l : List Int) (hl : l.length ≤ 1048576) : ∀ (d i : Nat) (xs : List Int), i + d = l.length → xs.length = l.length → xs.take i = l.take i → EvP (fun k => laws_toIntS.l0 k l xs (i : Int)) (· = l) := by
  intro d
  induction d with
  | zero =>
    intro i xs hi hx ht
    refine EvP.succ ?_
    simp only [laws_toIntS.l0]
    refine EvP.no (by omega) (EvP.ret ?_)
    rw [List.take_of_length_le (by omega), List.take_of_length_le (by omega)] at ht
    exact ht
  | succ d ih =>
    intro i xs hi hx ht
    have hlt : i < l.length := by omega
    have e2 : Hd (wrap64 ((i : Int) + 1) = ((i + 1 : Nat) : Int)) := ⟨w64 (by omega) (by omega)⟩
    refine EvP.succ ?_
    simp only [laws_toIntS.l0]
    refine EvP.yes (by omega) (EvP.yes (by omega) (EvP.yes (by omega) ?_))
    rw [rdI_at hlt, e2.out, toNat_nat]
    refine ih (i + 1) _ (by omega) (by simpa using hx) ?_
    rw [List.take_succ_eq_append_getElem (by simp; omega), List.take_succ_eq_append_getElem hlt, List.take_set_of_le (Nat.le_refl _), ht]
    simp
theorem to_ints (l : List Int) (hl : l.length ≤ 1048576) : EvP (fun k => laws_toIntS.f k l) (· = l) := by
  unfold laws_toIntS.f
  refine EvP.yes (by omega) (EvP.yes (by rw [toNat_nat]; omega) ?_)
  exact to_ints_loop l hl l.length 0 _ (by omega) (by rw [List.length_replicate, toNat_nat]) rfl
theorem eq_ints_loop (l : List Int) (hl : l.length ≤ 1048576) : ∀ d i : Nat, i + d = l.length → EvP (fun k => laws_eqIntS.l0 k l l (i : Int)) (· = true) := by
  intro d
  induction d with
  | zero =>
    intro i hi
    refine EvP.succ ?_
    simp only [laws_eqIntS.l0]
    exact EvP.no (by omega) (EvP.ret rfl)
  | succ d ih =>
    intro i hi
    have e2 : Hd (wrap64 ((i : Int) + 1) = ((i + 1 : Nat) : Int)) := ⟨w64 (by omega) (by omega)⟩
    refine EvP.succ ?_
    simp only [laws_eqIntS.l0]
    refine EvP.yes (by omega) (EvP.yes (by omega) (EvP.yes (by omega) (EvP.yes trivial ?_)))
    rw [e2.out]
    exact ih (i + 1) (by omega)
theorem eq_ints (l : List Int) (hl : l.length ≤ 1048576) : EvP (fun k => laws_eqIntS.f k l l) (· = true) := by
  unfold laws_eqIntS.f
  exact EvP.yes rfl (eq_ints_loop l hl l.length 0 (by omega))
theorem mark_ints_loop (m : Nat) (hm : m ≤ 1048576) (n : Int) (hn : 0 ≤ n ∧ n ≤ 2000000) : ∀ (d i : Nat) (x : List Int), i + d = m → x.length = m → (∀ j, j < i → x[j]? = some (n + j)) →
    EvP (fun k => laws_markIntS.l0 k x (n + i) (i : Int)) (fun r => r.1 = n + m ∧ r.2.length = m ∧ ∀ j, j < m → r.2[j]? = some (n + j)) := by
  intro d
  induction d with
  | zero =>
    intro i x hi hx ht
    refine EvP.succ ?_
    simp only [laws_markIntS.l0]
    refine EvP.no (by omega) (EvP.ret ⟨by dsimp only; omega, hx, fun j hj => ht j (by omega)⟩)
  | succ d ih =>
    intro i x hi hx ht
    have e1 : Hd (wrap64 (n + i + 1) = n + ((i + 1 : Nat) : Int)) := ⟨by rw [w64 (by omega) (by omega)]; omega⟩
    have e2 : Hd (wrap64 ((i : Int) + 1) = ((i + 1 : Nat) : Int)) := ⟨w64 (by omega) (by omega)⟩
    refine EvP.succ ?_
    simp only [laws_markIntS.l0]
    refine EvP.yes (by omega) (EvP.yes (by omega) ?_)
    rw [e1.out, e2.out, toNat_nat]
    refine ih (i + 1) _ (by omega) (by simpa using hx) (fun j hj => ?_)
    rw [List.getElem?_set]
    by_cases h : i = j
    · subst h; rw [if_pos rfl, if_pos (by omega)]
    · rw [if_neg h]; exact ht j (by omega)
end Go.Proofs.YtejoneninbdjbaaDoor.Pur
end
section
namespace Go.Proofs.YtejoneninbdjbaaDoor.Pur
open Go.RowKit Go.Proofs.YtejoneninbdjbaaDoorW.PrintWords Go.Proofs.YtejoneninbdjbaaDoorW.PrintMore Go.Proofs.YtejoneninbdjbaaDoor.E
def VS (l : List ByteArray) (st : List Int) : Prop := (booksOf l).2 = true ∧ (booksOf l).1 ≠ l.length ∧ st.length = l.length ∧ rd st 0 = -1 ∧ ∀ j : Nat, 1 ≤ j → j < st.length → 0 ≤ rd st (j : Int) ∧ rd st (j : Int) < j
theorem spec_stem_loop (st : List Int) (hl : st.length ≤ 1048576) : ∀ (d i : Nat), 1 ≤ i → i + d = st.length → EvP (fun k => spec_StemValid.l0 k st (i : Int)) (fun r => r = true ↔ ∀ j : Nat, i ≤ j → j < st.length → 0 ≤ rd st (j : Int) ∧ rd st (j : Int) < j) := by
  intro d
  induction d with
  | zero =>
    intro i h1 hi
    refine EvP.succ ?_
    simp only [spec_StemValid.l0]
    exact EvP.no (by omega) (EvP.ret ⟨fun _ j h h' => by omega, fun _ => rfl⟩)
  | succ d ih =>
    intro i h1 hi
    have e1 : Hd (wrap64 ((i : Int) - 1) = (i : Int) - 1) := ⟨w64 (by omega) (by omega)⟩
    have e2 : Hd (wrap64 ((i : Int) + 1) = ((i + 1 : Nat) : Int)) := ⟨w64 (by omega) (by omega)⟩
    refine EvP.succ ?_
    simp only [spec_StemValid.l0]
    refine EvP.yes (by omega) (EvP.yes (by omega) ?_)
    rw [e1.out, e2.out]
    refine EvP.bind (P := (· = decide (0 ≤ rd st (i : Int) ∧ rd st (i : Int) < i))) ?_ (fun _ e => ?_)
    · unfold spec_l6In.f
      by_cases h : rd st (i : Int) ≥ 0
      · rw [if_pos h]; exact EvP.ret (decide_eq_decide.mpr (by omega))
      · rw [if_neg h]; exact EvP.ret (decide_eq_false (by omega)).symm
    subst e
    refine EvP.ite (fun h => ?_) (fun h => EvP.ret ⟨fun h' => Bool.noConfusion h', fun h' => absurd (decide_eq_true (h' i (Nat.le_refl _) (by omega))) h⟩)
    have h := of_decide_eq_true h
    refine (ih (i + 1) (by omega) (by omega)).mono (fun r hr => hr.trans ⟨fun g j hj hj' => ?_, fun g j hj hj' => g j (by omega) hj'⟩)
    by_cases e : j = i
    · subst e; exact h
    · exact g j (by omega) hj'
theorem impl_stem_loop (st : List Int) (hl : st.length ≤ 1048576) : ∀ (d i : Nat), i + d = (st.drop 1).length → EvP (fun k => impl_StemValid.l0 k (st.drop 1) ((st.drop 1).length : Int) (i : Int)) (fun r => r = true ↔ ∀ j : Nat, i + 1 ≤ j → j < st.length → 0 ≤ rd st (j : Int) ∧ rd st (j : Int) < j) := by
  have ld : (st.drop 1).length = st.length - 1 := List.length_drop
  intro d
  induction d with
  | zero =>
    intro i hi
    refine EvP.succ ?_
    simp only [impl_StemValid.l0]
    exact EvP.no (by omega) (EvP.ret ⟨fun _ j h h' => by omega, fun _ => rfl⟩)
  | succ d ih =>
    intro i hi
    have e2 : Hd (wrap64 ((i : Int) + 1) = ((i + 1 : Nat) : Int)) := ⟨w64 (by omega) (by omega)⟩
    have er : rd (st.drop 1) (i : Int) = rd st ((i + 1 : Nat) : Int) := by
      unfold rd
      rw [toNat_nat, toNat_nat, List.getD_eq_getElem?_getD, List.getD_eq_getElem?_getD, List.getElem?_drop, Nat.add_comm]
    refine EvP.succ ?_
    simp only [impl_StemValid.l0]
    refine EvP.yes (by omega) (EvP.yes (by omega) (EvP.yes (by omega) ?_))
    rw [er, e2.out]
    refine EvP.ite (fun h => EvP.ret ⟨fun h' => Bool.noConfusion h', fun h' => by have := h' (i + 1) (Nat.le_refl _) (by omega); omega⟩) (fun h => ?_)
    refine EvP.ite (fun h' => EvP.ret ⟨fun h' => Bool.noConfusion h', fun h' => by have := h' (i + 1) (Nat.le_refl _) (by omega); omega⟩) (fun h' => ?_)
    refine (ih (i + 1) (by omega)).mono (fun r hr => hr.trans ⟨fun g j hj hj' => ?_, fun g j hj hj' => g j (by omega) hj'⟩)
    by_cases e : j = i + 1
    · subst e; omega
    · exact g j (by omega) hj'
theorem bne_iff {a b : Int} : (a != b) = true ↔ a ≠ b := by simp
theorem spec_stem (l : List ByteArray) (st : List Int) (hs : ∀ t ∈ l, t.size ≤ 9223372036854775806) (hl : st.length ≤ 1048576) : EvP (fun k => spec_StemValid.f k l st) (fun r => r = true ↔ VS l st) := by
  unfold spec_StemValid.f
  have bad : ¬ VS l st → EvP (fun k => spec_StemValid.j0 k st true) (fun r => r = true ↔ VS l st) := by
    intro h
    refine EvP.succ ?_
    simp only [spec_StemValid.j0]
    exact EvP.yes trivial (EvP.ret ⟨fun h' => Bool.noConfusion h', fun h' => absurd h' h⟩)
  refine EvP.bind (spec_books l hs) (fun _ e => ?_)
  subst e
  refine EvP.ite (fun h1 => EvP.ite (fun h2 => bad (fun h => h.2.1 h2)) (fun h2 => EvP.ite (fun h3 => ?_) (fun h3 => bad (fun h => h3 (by rw [h.2.2.1]))))) (fun h1 => bad (fun h => h1 h.1))
  have hb := books_ok h1
  refine EvP.yes (by omega) ?_
  by_cases h4 : rd st 0 = -1
  · rw [show (rd st 0 != -1) = false by rw [h4]; rfl]
    refine EvP.succ ?_
    simp only [spec_StemValid.j0]
    refine EvP.no (by decide) ?_
    refine (spec_stem_loop st hl (st.length - 1) 1 (by omega) (by omega)).mono (fun r hr => hr.trans ⟨fun g => ⟨h1, h2, by omega, h4, g⟩, fun g => g.2.2.2.2⟩)
  · rw [show (rd st 0 != -1) = true from bne_iff.mpr h4]
    exact bad (fun h => h4 h.2.2.2.1)
theorem impl_stem (l : List ByteArray) (st : List Int) (hs : ∀ t ∈ l, t.size ≤ 9223372036854775806) (hl : st.length ≤ 1048576) : EvP (fun k => impl_StemValid.f k l st) (fun r => r = true ↔ VS l st) := by
  unfold impl_StemValid.f
  have bad : ¬ VS l st → EvP (fun k => impl_StemValid.j0 k st true) (fun r => r = true ↔ VS l st) := by
    intro h
    refine EvP.succ ?_
    simp only [impl_StemValid.j0]
    exact EvP.yes trivial (EvP.ret ⟨fun h' => Bool.noConfusion h', fun h' => absurd h' h⟩)
  refine EvP.bind (impl_books l hs) (fun _ e => ?_)
  subst e
  refine EvP.ite (fun h1 => EvP.ite (fun h2 => bad (fun h => h.2.1 h2)) (fun h2 => EvP.ite (fun h3 => ?_) (fun h3 => bad (fun h => h3 (by rw [h.2.2.1]))))) (fun h1 => bad (fun h => h1 h.1))
  have hb := books_ok h1
  refine EvP.yes (by omega) ?_
  by_cases h4 : rd st 0 = -1
  · rw [show (rd st 0 != -1) = false by rw [h4]; rfl]
    refine EvP.succ ?_
    simp only [impl_StemValid.j0]
    refine EvP.no (by decide) (EvP.yes (by omega) ?_)
    refine (impl_stem_loop st hl (st.drop 1).length 0 (by omega)).mono (fun r hr => hr.trans ⟨fun g => ⟨h1, h2, by omega, h4, g⟩, fun g => g.2.2.2.2⟩)
  · rw [show (rd st 0 != -1) = true from bne_iff.mpr h4]
    exact bad (fun h => h4 h.2.2.2.1)
end Go.Proofs.YtejoneninbdjbaaDoor.Pur
end
section
namespace Go.Proofs.YtejoneninbdjbaaDoor.E
open Go.RowKit Go.Proofs.YtejoneninbdjbaaDoorW.PrintWords Go.Proofs.YtejoneninbdjbaaDoorW.PrintLast Go.Proofs.YtejoneninbdjbaaDoorW.PrintMore
attribute [local go_sem] max2_int min2_int max_two min_two max_three min_three max_four min_four
set_option linter.unusedVariables false
set_option linter.unusedSimpArgs false
attribute [local go_sem] str_leq_ str_gtr_ str_geq_
mutual
def spec_StemChanges.j0 : Nat → List ByteArray → List Int → Bool → Option (Int)
 | 0, _, _, _ => none
 | k + 1, x0, x1, x15 => if x15 = true then (some (-1)) else (spec_StemChanges.l0 k x0 x1 0 1)
def spec_StemChanges.l0 : Nat → List ByteArray → List Int → Int → Int → Option (Int)
 | 0, _, _, _, _ => none
 | k + 1, x0, x1, x5, x6 => if x6 < (x1.length : Int) then (if 0 ≤ x6 then (if x6 < (x0.length : Int) then (if 0 ≤ (rd x1 x6) then (if (rd x1 x6) < (x0.length : Int) then ((spec_l7Far.f k (rdOf ByteArray.empty x0 x6) (rdOf ByteArray.empty x0 (rd x1 x6))).bind fun t362 => (spec_StemChanges.l0 k x0 x1 (wrap64 (x5 + t362)) (wrap64 (x6 + 1)))) else (none)) else (none)) else (none)) else (none)) else (some x5)
end
def spec_StemChanges.f (k : Nat) (l0 : List ByteArray) (l1 : List Int) : Option (Int) := (spec_StemValid.f k l0 l1).bind fun t357 => (if t357 = true then ((spec_BooksValid.f k l0).bind fun t358 => (spec_StemChanges.j0 k l0 l1 (!t358))) else (spec_StemChanges.j0 k l0 l1 true))
end Go.Proofs.YtejoneninbdjbaaDoor.E
end
section
namespace Go.Proofs.YtejoneninbdjbaaDoor.E
open Go.RowKit Go.Proofs.YtejoneninbdjbaaDoorW.PrintWords Go.Proofs.YtejoneninbdjbaaDoorW.PrintLast Go.Proofs.YtejoneninbdjbaaDoorW.PrintMore
attribute [local go_sem] max2_int min2_int max_two min_two max_three min_three max_four min_four
set_option linter.unusedVariables false
set_option linter.unusedSimpArgs false
attribute [local go_sem] str_leq_ str_gtr_ str_geq_
def impl_changesOf.l0 : Nat → List ByteArray → List Int → Int → Int → Option (Int)
 | 0, _, _, _, _ => none
 | k + 1, x0, x1, x5, x6 => if x6 < (x0.length : Int) then (if 0 ≤ x6 then (if x6 < (x1.length : Int) then (if 0 ≤ (rd x1 x6) then (if (rd x1 x6) < (x0.length : Int) then ((impl_farBetween.f k (rdOf ByteArray.empty x0 x6) (rdOf ByteArray.empty x0 (rd x1 x6))).bind fun t366 => (impl_changesOf.l0 k x0 x1 (wrap64 (x5 + t366)) (wrap64 (x6 + 1)))) else (none)) else (none)) else (none)) else (none)) else (some x5)
def impl_changesOf.f (k : Nat) (l0 : List ByteArray) (l1 : List Int) : Option (Int) := impl_changesOf.l0 k l0 l1 0 1
end Go.Proofs.YtejoneninbdjbaaDoor.E
end
section
namespace Go.Proofs.YtejoneninbdjbaaDoor.E
open Go.RowKit Go.Proofs.YtejoneninbdjbaaDoorW.PrintWords Go.Proofs.YtejoneninbdjbaaDoorW.PrintLast Go.Proofs.YtejoneninbdjbaaDoorW.PrintMore
attribute [local go_sem] max2_int min2_int max_two min_two max_three min_three max_four min_four
set_option linter.unusedVariables false
set_option linter.unusedSimpArgs false
attribute [local go_sem] str_leq_ str_gtr_ str_geq_
def impl_StemChanges.f (k : Nat) (l0 : List ByteArray) (l1 : List Int) : Option (Int) := (impl_StemValid.f k l0 l1).bind fun t367 => (if t367 = true then ((impl_BooksValid.f k l0).bind fun t368 => (if t368 = true then ((impl_changesOf.f k l0 l1).bind fun t369 => (some t369)) else (some (-1)))) else (some (-1)))
end Go.Proofs.YtejoneninbdjbaaDoor.E
end
section
namespace Go.Proofs.YtejoneninbdjbaaDoor.E
open Go.RowKit Go.Proofs.YtejoneninbdjbaaDoorW.PrintWords Go.Proofs.YtejoneninbdjbaaDoorW.PrintLast Go.Proofs.YtejoneninbdjbaaDoorW.PrintMore
attribute [local go_sem] max2_int min2_int max_two min_two max_three min_three max_four min_four
set_option linter.unusedVariables false
set_option linter.unusedSimpArgs false
attribute [local go_sem] str_leq_ str_gtr_ str_geq_
def laws_FnExactStemChanges.f (k : Nat) (l0 : List ByteArray) (l1 : List Int) : Option (Bool) := if (l1.length : Int) > 1048576 then (some true) else ((laws_szStringS.f k l0 1048576).bind fun t370 => (if t370 < 0 then (some true) else ((laws_toStringS.f k l0).bind fun t371 => ((laws_toIntS.f k l1).bind fun t374 => ((spec_StemChanges.f k t371 t374).bind fun t377 => ((laws_toStringS.f k l0).bind fun t378 => ((laws_toIntS.f k l1).bind fun t381 => ((impl_StemChanges.f k t378 t381).bind fun t384 => (if t384 = t377 then ((laws_toStringS.f k l0).bind fun t385 => ((laws_eqStringS.f k t378 t385).bind fun t388 => (if t388 = true then ((laws_toIntS.f k l1).bind fun t389 => ((laws_eqIntS.f k t381 t389).bind fun t392 => (if t392 = true then (some true) else (some false)))) else (some false)))) else (some false))))))))))
end Go.Proofs.YtejoneninbdjbaaDoor.E
end
section
namespace Go.Proofs.YtejoneninbdjbaaDoor.Pur
open Go.RowKit Go.Proofs.YtejoneninbdjbaaDoorW.PrintWords Go.Proofs.YtejoneninbdjbaaDoorW.PrintMore Go.Proofs.YtejoneninbdjbaaDoor.E
def chg (l : List ByteArray) (st : List Int) : Nat → Nat → Int
  | 0, _ => 0
  | d + 1, i => farT (rdOf ByteArray.empty l (i : Int)) (rdOf ByteArray.empty l (rd st (i : Int))) + chg l st d (i + 1)
def Tells (c : Prop) (X v : Int) : Prop := (c → v = X) ∧ (¬ c → v = -1)
section
variable (l : List ByteArray) (st : List Int) (n : Nat) (hn : n ≤ 1048576) (hsz : ∀ t ∈ l, t.size = n) (hl : l.length ≤ 6) (hst : st.length = l.length) (hp : ∀ j : Nat, 1 ≤ j → j < st.length → 0 ≤ rd st (j : Int) ∧ rd st (j : Int) < j)
include hn hsz hl hst hp
end
end Go.Proofs.YtejoneninbdjbaaDoor.Pur
end
section
namespace Go.Proofs.YtejoneninbdjbaaDoor.Pur
open Go.RowKit Go.Proofs.YtejoneninbdjbaaDoorW.PrintWords Go.Proofs.YtejoneninbdjbaaDoorW.PrintMore Go.Proofs.YtejoneninbdjbaaDoor.E
def RowIs (row : List Int) (c : Nat → Int) : Prop := row.length = 4 ∧ ∀ x : Nat, x < 4 → rd row (x : Int) = c x ∧ 0 ≤ c x ∧ c x ≤ 1000000000
theorem RowIs.bd {row : List Int} {c : Nat → Int} (h : RowIs row c) : ∀ x, x < 4 → 0 ≤ c x ∧ c x ≤ 1000000000000000 := fun x hx => by have := h.2 x hx; omega
theorem l7best_loop {row : List Int} {c : Nat → Int} (h : RowIs row c) (x : Nat) (hx : x < 4) : ∀ (d i : Nat) (v : Int), i + d = 4 → v ≤ c x → (∀ z, z < i → v ≤ c z + 1) → (v = c x ∨ ∃ z, z < 4 ∧ v = c z + 1) → EvP (fun k => spec_l7Best.l0 k row v (i : Int)) (· = adj c (x : Int) (bi c (x : Int))) := by
  intro d
  induction d with
  | zero =>
    intro i v hi h1 h2 h3
    have hb := best_is (c := c) (q := (x : Int)) h.bd
    refine EvP.succ ?_
    simp only [spec_l7Best.l0]
    refine EvP.no (by omega) (EvP.ret ?_)
    have e := adj_dif c x (bi c (x : Int))
    have ha : v ≤ adj c (x : Int) (bi c (x : Int)) := by
      rw [e]
      unfold dif
      by_cases g : bi c (x : Int) = x
      · rw [if_pos g, g]; omega
      · rw [if_neg g]; exact h2 _ (by have := hb.1.1; omega)
    have hc : adj c (x : Int) (bi c (x : Int)) ≤ v := by
      rcases h3 with g | ⟨z, hz, g⟩
      · have := (hb.1.2 x hx).1
        rw [adj_dif c x x] at this
        have : dif x x = 0 := if_pos rfl
        omega
      · have := (hb.1.2 z hz).1
        rw [adj_dif c x z] at this
        have := dif_bd z x
        omega
    omega
  | succ d ih =>
    intro i v hi h1 h2 h3
    have hr := h.2 i (by omega)
    have hl := h.1
    have e1 : Hd (wrap64 (rd row (i : Int) + 1) = c i + 1) := ⟨by rw [hr.1]; exact w64 (by omega) (by omega)⟩
    have e2 : Hd (wrap64 ((i : Int) + 1) = ((i + 1 : Nat) : Int)) := ⟨w64 (by omega) (by omega)⟩
    refine EvP.succ ?_
    simp only [spec_l7Best.l0]
    refine EvP.yes (by omega) (EvP.yes (by omega) (EvP.yes (by omega) ?_))
    rw [e1.out, e2.out]
    have hm : mn v (c i + 1) ≤ v ∧ mn v (c i + 1) ≤ c i + 1 ∧ (mn v (c i + 1) = v ∨ mn v (c i + 1) = c i + 1) := by unfold mn; omega
    refine ih (i + 1) _ (by omega) (by omega) (fun z hz => ?_) ?_
    · by_cases e : z = i
      · subst e; omega
      · have := h2 z (by omega); omega
    · rcases hm.2.2 with g | g
      · rw [g]; exact h3
      · exact .inr ⟨i, by omega, g⟩
theorem l7best {row : List Int} {c : Nat → Int} (h : RowIs row c) (x : Nat) (hx : x < 4) : EvP (fun k => spec_l7Best.f k row (x : Int)) (· = adj c (x : Int) (bi c (x : Int))) := by
  unfold spec_l7Best.f
  have hl := h.1
  refine EvP.yes (by omega) (EvP.yes (by omega) ?_)
  rw [(h.2 x hx).1]
  exact l7best_loop h x hx 4 0 _ (by omega) (Int.le_refl _) (fun z hz => by omega) (.inl rfl)
section
variable {row : List Int} {c : Nat → Int} (h : RowIs row c) (q : Int)
include h
theorem letter_mid {i b : Nat} (hi : i < 4) (hb : b < 4) (Q : Int → Prop) (K1 : adj c q i < adj c q b → EvP (fun k => spec_l7Letter.l0 k row q (i : Int) (wrap64 ((i : Int) + 1))) Q) (K2 : ¬ adj c q i < adj c q b → EvP (fun k => spec_l7Letter.l0 k row q (b : Int) (wrap64 ((i : Int) + 1))) Q) :
    EvP (fun k => spec_l7Letter.l0 k row q (b : Int) (i : Int)) Q := by
  have hl := h.1
  have ri := h.2 i hi
  have rb := h.2 b hb
  have e1 : Hd (wrap64 (rd row (i : Int) + 1) = c i + 1) := ⟨by rw [ri.1]; exact w64 (by omega) (by omega)⟩
  have e2 : Hd (wrap64 (rd row (b : Int) + 1) = c b + 1) := ⟨by rw [rb.1]; exact w64 (by omega) (by omega)⟩
  have J3 : ∀ (X : Int), X = adj c q i → ∀ B : Bool, (B = true ↔ q ≥ 0 ∧ (b : Int) ≠ q) → EvP (fun k => spec_l7Letter.j3 k row q (b : Int) (i : Int) X (rd row (b : Int)) B) Q := by
    intro X hX B hB
    refine EvP.succ ?_
    simp only [spec_l7Letter.j3]
    rw [e2.out, rb.1, hX]
    refine EvP.ite (fun g => ?_) (fun g => ?_)
    · have eb : adj c q b = c b + 1 := if_pos (hB.mp g)
      rw [← eb]
      exact EvP.ite K1 K2
    · have eb : adj c q b = c b := if_neg (fun g' => g (hB.mpr g'))
      rw [← eb]
      exact EvP.ite K1 K2
  have J2 : ∀ (X : Int), X = adj c q i → EvP (fun k => spec_l7Letter.j2 k row q (b : Int) (i : Int) X (rd row (b : Int))) Q := by
    intro X hX
    refine EvP.succ ?_
    simp only [spec_l7Letter.j2]
    refine EvP.ite (fun g => J3 X hX _ ?_) (fun g => J3 X hX _ ?_)
    · rw [bne_iff]; exact ⟨fun h => ⟨g, h⟩, fun h => h.2⟩
    · exact ⟨fun h => Bool.noConfusion h, fun h => absurd h.1 g⟩
  have J1 : ∀ B : Bool, (B = true ↔ q ≥ 0 ∧ (i : Int) ≠ q) → EvP (fun k => spec_l7Letter.j1 k row q (b : Int) (i : Int) (rd row (i : Int)) (rd row (b : Int)) B) Q := by
    intro B hB
    refine EvP.succ ?_
    simp only [spec_l7Letter.j1]
    rw [e1.out]
    refine EvP.ite (fun g => J2 _ (if_pos (hB.mp g)).symm) (fun g => J2 _ ?_)
    rw [ri.1]
    exact (if_neg (fun g' => g (hB.mpr g'))).symm
  refine EvP.succ ?_
  simp only [spec_l7Letter.l0]
  refine EvP.yes (by omega) (EvP.yes (by omega) (EvP.yes (by omega) (EvP.yes (by omega) (EvP.yes (by omega) ?_))))
  refine EvP.ite (fun g => J1 _ ?_) (fun g => J1 _ ?_)
  · rw [bne_iff]; exact ⟨fun h => ⟨g, h⟩, fun h => h.2⟩
  · exact ⟨fun h => Bool.noConfusion h, fun h => absurd h.1 g⟩
theorem letter_loop : ∀ (d i b : Nat), i + d = 4 → b < 4 → (b < i ∨ b = 0) → (∀ x, x < i → adj c q b ≤ adj c q x ∧ (x < b → adj c q b < adj c q x)) → EvP (fun k => spec_l7Letter.l0 k row q (b : Int) (i : Int)) (· = ((bi c q : Nat) : Int)) := by
  intro d
  induction d with
  | zero =>
    intro i b hi hb _ hx
    refine EvP.succ ?_
    simp only [spec_l7Letter.l0]
    refine EvP.no (by omega) (EvP.ret ?_)
    have k : IsBest c q b := ⟨hb, fun x h => hx x (by omega)⟩
    rw [(best_is h.bd).1.one k]
  | succ d ih =>
    intro i b hi hb hb2 hx
    have e2 : Hd (wrap64 ((i : Int) + 1) = ((i + 1 : Nat) : Int)) := ⟨w64 (by omega) (by omega)⟩
    refine letter_mid h q (by omega) hb _ (fun g => ?_) (fun g => ?_)
    · rw [e2.out]
      refine ih (i + 1) i (by omega) (by omega) (by omega) (fun x hx' => ?_)
      by_cases e : x = i
      · subst e; exact ⟨Int.le_refl _, fun h => by omega⟩
      · have := hx x (by omega)
        exact ⟨by omega, fun _ => by omega⟩
    · rw [e2.out]
      refine ih (i + 1) b (by omega) hb (by omega) (fun x hx' => ?_)
      by_cases e : x = i
      · subst e; exact ⟨by omega, fun h' => by rcases hb2 with h'' | h'' <;> omega⟩
      · exact hx x (by omega)
theorem l7letter : EvP (fun k => spec_l7Letter.f k row q) (· = ((bi c q : Nat) : Int)) := by
  unfold spec_l7Letter.f
  exact letter_loop h q 4 0 0 (by omega) (by omega) (.inr rfl) (fun x hx => by omega)
end
theorem rdL_at (T : List (List Int)) (j : Nat) : rd_L4 T (j : Int) = T.getD j [] := rfl
theorem rdL_set_eq (T : List (List Int)) (j : Nat) (r : List Int) (h : j < T.length) : rd_L4 (T.set j r) (j : Int) = r := by
  rw [rdL_at, List.getD_eq_getElem?_getD, List.getElem?_set_self h, Option.getD_some]
theorem rdL_set_ne (T : List (List Int)) (i j : Nat) (r : List Int) (h : i ≠ j) : rd_L4 (T.set i r) (j : Int) = rd_L4 T (j : Int) := by
  rw [rdL_at, rdL_at, List.getD_eq_getElem?_getD, List.getD_eq_getElem?_getD, List.getElem?_set_ne h]
theorem rdI_set_eq (l : List Int) (i : Nat) (x : Int) (h : i < l.length) : rd (l.set i x) (i : Int) = x := by
  unfold rd
  rw [toNat_nat, List.getD_eq_getElem?_getD, List.getElem?_set_self h, Option.getD_some]
theorem rdI_set_ne (l : List Int) (i j : Nat) (x : Int) (h : i ≠ j) : rd (l.set i x) (j : Int) = rd l (j : Int) := by
  unfold rd
  rw [toNat_nat, List.getD_eq_getElem?_getD, List.getD_eq_getElem?_getD, List.getElem?_set_ne h]
structure StemK (l : List ByteArray) (st : List Int) (n P : Nat) : Prop where
  len : l.length = n
  stl : st.length = n
  n1 : 1 ≤ n
  n6 : n ≤ 6
  p1 : 1 ≤ P
  p8 : P ≤ 8
  par : StemN st n
  sz : ∀ j : Nat, j < n → (rdOf ByteArray.empty l (j : Int)).size = P
  kind : ∀ j : Nat, j < n → readB (rdOf ByteArray.empty l (j : Int)) = true ∨ lostB (rdOf ByteArray.empty l (j : Int)) = true
theorem stemK {l : List ByteArray} {st : List Int} (V : VS l st) : StemK l st l.length (rdOf ByteArray.empty l 0).size := by
  obtain ⟨h1, h6, P, p1, p8, hm⟩ := books_ok V.1
  have m : ∀ j : Nat, j < l.length → rdOf ByteArray.empty l (j : Int) ∈ l := fun j hj => rd_mem (by omega) (by omega)
  have e0 := (hm _ (m 0 (by omega))).1
  have e0' : (rdOf ByteArray.empty l 0).size = P := e0
  refine ⟨rfl, V.2.2.1, h1, h6, by omega, by omega, fun j a b => V.2.2.2.2 j a (by have := V.2.2.1; omega), fun j hj => ?_, fun j hj => (hm _ (m j hj)).2⟩
  rw [(hm _ (m j hj)).1, e0']
theorem ban_or (l : List ByteArray) (p j x : Nat) : banP l p j x = 0 ∨ banP l p j x = 1000 := by
  unfold banP banQ
  split
  · exact .inl rfl
  · split
    · exact .inl rfl
    · exact .inr rfl
theorem ban_bd (l : List ByteArray) (p j x : Nat) : 0 ≤ banP l p j x ∧ banP l p j x ≤ 1000 := by rcases ban_or l p j x with h | h <;> omega
theorem lostQ_is {t : ByteArray} (h1 : 1 ≤ t.size) (h8 : t.size ≤ 8) : impl_isLost.f t = some (lostB t) ∧ lostQ t = lostB t := by
  have e := impl_lost t (by omega) (by omega)
  refine ⟨e, ?_⟩
  unfold lostQ
  rw [e]
  cases lostB t <;> rfl
theorem lost_bt {t : ByteArray} (h : lostB t = true) {p : Nat} (hp : p < t.size) : bt t (p : Int) = 63 := by
  rw [bt_at t p hp]
  have := List.all_eq_true.mp h _ (List.getElem_mem (show p < t.data.toList.length by rw [list_len]; exact hp))
  rw [eq_of_beq this]
  rfl
theorem read_bt {t : ByteArray} (h : readB t = true) {p : Nat} (hp : p < t.size) : 97 ≤ bt t (p : Int) ∧ bt t (p : Int) ≤ 100 := by
  rw [bt_at t p hp]
  have := List.all_eq_true.mp h _ (List.getElem_mem (show p < t.data.toList.length by rw [list_len]; exact hp))
  rw [Bool.and_eq_true] at this
  have a := of_decide_eq_true this.1
  have b := of_decide_eq_true this.2
  omega
section
variable {l : List ByteArray} {st : List Int} {n P : Nat} (K : StemK l st n P)
include K
theorem StemK.ban (p j x : Nat) (hj : j < n) (hp : p < P) : banP l p j x = if bt (rdOf ByteArray.empty l (j : Int)) (p : Int) = 63 then 0 else if bt (rdOf ByteArray.empty l (j : Int)) (p : Int) = 97 + (x : Int) then 0 else 1000 := by
  have hs := K.sz j hj
  have := K.p1
  have := K.p8
  have hq := (lostQ_is (t := rdOf ByteArray.empty l (j : Int)) (by omega) (by omega)).2
  unfold banP banQ
  rw [hq]
  by_cases hl : lostB (rdOf ByteArray.empty l (j : Int)) = true
  · rw [if_pos hl, if_pos (lost_bt hl (by omega))]
  · have hr := read_bt ((K.kind j hj).resolve_right hl) (p := p) (by omega)
    rw [if_neg hl, if_neg (show ¬ bt (rdOf ByteArray.empty l (j : Int)) (p : Int) = 63 by omega)]
theorem StemK.row (p : Nat) {row : List Int} (j : Nat) (hl : row.length = 4) (hr : ∀ x : Nat, x < 4 → rd row (x : Int) = tabP l st p j x) : RowIs row (tabP l st p j) := by
  refine ⟨hl, fun x hx => ⟨hr x hx, ?_⟩⟩
  have := K.n6
  have := K.len
  exact chP_bd6 (by omega) (ban_bd l p) j x
def cv (l : List ByteArray) (st : List Int) (p x q : Nat) : Int := adj (tabP l st p q) (x : Int) (bi (tabP l st p q) (x : Int))
theorem StemK.sum (p j x : Nat) (hj : j < n) : tabP l st p j x = banP l p j x + kidSum (sOf st) (cv l st p x) n j := by
  have := K.n6
  have := K.n1
  have hl := K.len
  have hS : StemN st l.length := by rw [hl]; exact K.par
  have := chP_sum (st := st) (n := l.length) (b := banP l p) (by omega) (by omega) (ban_bd l p) hS j x (by omega)
  rw [hl] at this
  unfold cv tabP
  rw [hl]
  exact this
theorem StemK.cv_bd (p x q : Nat) : 0 ≤ cv l st p x q ∧ cv l st p x q ≤ 1000000001 := by
  have := K.n6
  have := K.len
  exact (best_val (c := tabP l st p q) (M := 1000000000) (by omega) (fun z => chP_bd6 (n := l.length) (b := banP l p) (by omega) (ban_bd l p) q z)).2
def TabAt (p i c : Nat) (T : List (List Int)) (v : Int) : Prop := T.length = n ∧ (∀ j : Nat, i < j → j < n → RowIs (rd_L4 T (j : Int)) (tabP l st p j)) ∧ (rd_L4 T (i : Int)).length = 4 ∧ (∀ x : Nat, x < c → rd (rd_L4 T (i : Int)) (x : Int) = tabP l st p i x) ∧ (∀ x : Nat, c < x → x < 4 → rd (rd_L4 T (i : Int)) (x : Int) = 0) ∧ rd (rd_L4 T (i : Int)) (c : Int) = v
omit K in
theorem TabAt.set {p i c : Nat} {T : List (List Int)} {v : Int} (h : TabAt (l := l) (st := st) (n := n) p i c T v) (hi : i < n) (hc : c < 4) (v' : Int) : TabAt (l := l) (st := st) (n := n) p i c (T.set i ((rd_L4 T (i : Int)).set c v')) v' := by
  obtain ⟨h1, h2, h3, h4, h5, h6⟩ := h
  refine ⟨by rw [List.length_set]; exact h1, fun j a b => ?_, ?_, fun x hx => ?_, fun x hx hx' => ?_, ?_⟩
  · rw [rdL_set_ne _ _ _ _ (by omega)]; exact h2 j a b
  · rw [rdL_set_eq _ _ _ (by omega), List.length_set]; exact h3
  · rw [rdL_set_eq _ _ _ (by omega), rdI_set_ne _ _ _ _ (by omega)]; exact h4 x hx
  · rw [rdL_set_eq _ _ _ (by omega), rdI_set_ne _ _ _ _ (by omega)]; exact h5 x hx hx'
  · rw [rdL_set_eq _ _ _ (by omega), rdI_set_eq _ _ _ (by omega)]
theorem below_k (p i c : Nat) (hi : i < n) (hc : c < 4) (Q : List (List Int) → Prop) (C : ∀ T, TabAt (l := l) (st := st) (n := n) p i c T (tabP l st p i c) → EvP (fun m => spec_l7Below.l1 m l st (p : Int) T (i : Int) (wrap64 ((c : Int) + 1))) Q) :
    ∀ (d k : Nat), k + d = n → ∀ T, TabAt (l := l) (st := st) (n := n) p i c T (banP l p i c + kidSum (sOf st) (cv l st p c) k i) → i < k → EvP (fun m => spec_l7Below.l2 m l st (p : Int) T (i : Int) (c : Int) (k : Int)) Q := by
  have n6 := K.n6
  have hl := K.len
  have hsl := K.stl
  have hb := ban_bd l p i c
  intro d
  induction d with
  | zero =>
    intro k hk T hT hik
    obtain rfl : k = n := by omega
    refine EvP.succ ?_
    simp only [spec_l7Below.l2]
    refine EvP.no (by omega) (C T ?_)
    rw [K.sum p i c hi]
    exact hT
  | succ d ih =>
    intro k hk T hT hik
    have hp := K.par k (by omega) (by omega)
    have e2 : Hd (wrap64 ((k : Int) + 1) = ((k + 1 : Nat) : Int)) := ⟨w64 (by omega) (by omega)⟩
    have ks : kidSum (sOf st) (cv l st p c) (k + 1) i = kidSum (sOf st) (cv l st p c) k i + (if 0 < k ∧ sOf st k = i then cv l st p c k else 0) := rfl
    have kb : kidSum (sOf st) (cv l st p c) k i ≤ 1000000001 * k := sumTo_bound k (fun q _ => by
      have := K.cv_bd p c q
      split <;> omega)
    have kn : 0 ≤ kidSum (sOf st) (cv l st p c) k i := sumTo_nonneg k (fun q _ => by
      have := K.cv_bd p c q
      split <;> omega)
    have cb := K.cv_bd p c k
    refine EvP.succ ?_
    simp only [spec_l7Below.l2]
    refine EvP.yes (by omega) (EvP.yes (by omega) (EvP.yes (by omega) ?_))
    rw [e2.out]
    refine EvP.ite (fun g => ?_) (fun g => ?_)
    · have es : sOf st k = i := by unfold sOf; omega
      rw [if_pos ⟨by omega, es⟩] at ks
      have h1 := hT.1
      have h3 := hT.2.2.1
      refine EvP.yes (by omega) (EvP.yes (by omega) (EvP.yes (by omega) (EvP.yes (by omega) (EvP.yes (by omega) ?_))))
      refine EvP.bind (l7best (hT.2.1 k hik (by omega)) c hc) (fun _ e => ?_)
      subst e
      have e3 : Hd (wrap64 (rd (rd_L4 T (i : Int)) (c : Int) + cv l st p c k) = banP l p i c + kidSum (sOf st) (cv l st p c) (k + 1) i) := ⟨by rw [hT.2.2.2.2.2, w64 (by omega) (by omega)]; omega⟩
      rw [show adj (tabP l st p k) (c : Int) (bi (tabP l st p k) (c : Int)) = cv l st p c k from rfl, e3.out]
      exact ih (k + 1) (by omega) _ (hT.set hi hc _) (by omega)
    · rw [if_neg (fun g' => g (by have := g'.2; unfold sOf at this; omega))] at ks
      refine ih (k + 1) (by omega) T ?_ (by omega)
      rw [ks, Int.add_zero]
      exact hT
theorem below_c (p i : Nat) (hi : i < n) (hp : p < P) (Q : List (List Int) → Prop) (C : ∀ T, T.length = n → (∀ j : Nat, i ≤ j → j < n → RowIs (rd_L4 T (j : Int)) (tabP l st p j)) → EvP (fun m => spec_l7Below.l0 m l st (p : Int) T (wrap64 ((i : Int) - 1))) Q) :
    ∀ (d c : Nat), c + d = 4 → ∀ T : List (List Int), T.length = n → (∀ j : Nat, i < j → j < n → RowIs (rd_L4 T (j : Int)) (tabP l st p j)) → (rd_L4 T (i : Int)).length = 4 → (∀ x : Nat, x < c → rd (rd_L4 T (i : Int)) (x : Int) = tabP l st p i x) → (∀ x : Nat, c ≤ x → x < 4 → rd (rd_L4 T (i : Int)) (x : Int) = 0) → EvP (fun m => spec_l7Below.l1 m l st (p : Int) T (i : Int) (c : Int)) Q := by
  have n6 := K.n6
  have hl := K.len
  have hsl := K.stl
  have hsz := K.sz i hi
  intro d
  induction d with
  | zero =>
    intro c hc T h1 h2 h3 h4 h5
    refine EvP.succ ?_
    simp only [spec_l7Below.l1]
    refine EvP.no (by omega) (C T h1 (fun j a b => ?_))
    by_cases e : j = i
    · subst e; exact K.row p j h3 (fun x hx => h4 x (by omega))
    · exact h2 j (by omega) b
  | succ d ih =>
    intro c hc T h1 h2 h3 h4 h5
    have e2 : Hd (wrap64 ((c : Int) + 1) = ((c + 1 : Nat) : Int)) := ⟨w64 (by omega) (by omega)⟩
    have e3 : Hd (wrap64 ((i : Int) + 1) = ((i + 1 : Nat) : Int)) := ⟨w64 (by omega) (by omega)⟩
    have hban := K.ban p i c hi hp
    have k0 : kidSum (sOf st) (cv l st p c) (i + 1) i = 0 := sumTo_zero (i + 1) (fun q hq => by
      refine if_neg (fun g => ?_)
      have := K.par q (by omega) (by omega)
      have := g.2
      unfold sOf at this
      omega)
    have nx : ∀ T', TabAt (l := l) (st := st) (n := n) p i c T' (tabP l st p i c) → EvP (fun m => spec_l7Below.l1 m l st (p : Int) T' (i : Int) (wrap64 ((c : Int) + 1))) Q := by
      intro T' hT
      rw [e2.out]
      refine ih (c + 1) (by omega) T' hT.1 hT.2.1 hT.2.2.1 (fun x hx => ?_) (fun x hx hx' => hT.2.2.2.2.1 x (by omega) hx')
      by_cases e : x = c
      · subst e; exact hT.2.2.2.2.2
      · exact hT.2.2.2.1 x (by omega)
    have J3 : ∀ T', TabAt (l := l) (st := st) (n := n) p i c T' (banP l p i c) → EvP (fun m => spec_l7Below.j3 m l st (p : Int) T' (i : Int) (c : Int)) Q := by
      intro T' hT
      refine EvP.succ ?_
      simp only [spec_l7Below.j3]
      rw [e3.out]
      refine below_k K p i c hi (by omega) Q nx (n - (i + 1)) (i + 1) (by omega) T' ?_ (by omega)
      rw [k0, Int.add_zero]
      exact hT
    have T0 : TabAt (l := l) (st := st) (n := n) p i c T 0 := ⟨h1, h2, h3, h4, fun x a b => h5 x (by omega) b, h5 c (Nat.le_refl _) (by omega)⟩
    have J2 : ∀ B : Bool, (B = true → banP l p i c = 1000) → (B = false → banP l p i c = 0) → EvP (fun m => spec_l7Below.j2 m l st (p : Int) T (i : Int) (c : Int) B) Q := by
      intro B hB hB'
      refine EvP.succ ?_
      simp only [spec_l7Below.j2]
      refine EvP.ite (fun g => ?_) (fun g => ?_)
      · refine EvP.yes (by omega) (EvP.yes (by omega) (EvP.yes (by omega) (EvP.yes (by omega) ?_)))
        refine J3 _ ?_
        rw [hB g]
        exact T0.set hi (by omega) 1000
      · refine J3 _ ?_
        rw [hB' (Bool.eq_false_iff.mpr g)]
        exact T0
    refine EvP.succ ?_
    simp only [spec_l7Below.l1]
    refine EvP.yes (by omega) (EvP.yes (by omega) (EvP.yes (by omega) (EvP.yes (by omega) (EvP.yes (by omega) ?_))))
    refine EvP.ite (fun g => J2 false (fun h => Bool.noConfusion h) (fun _ => ?_)) (fun g => J2 _ (fun g' => ?_) (fun g' => ?_))
    · rw [hban, if_pos g]
    · have hk := K.kind i hi
      have hr := read_bt (hk.resolve_right (fun hlo => g (lost_bt hlo (by omega)))) (p := p) (by omega)
      rw [w64 (by omega) (by omega), w64 (by omega) (by omega), bne_iff] at g'
      rw [hban, if_neg g, if_neg g']
    · have hk := K.kind i hi
      have hr := read_bt (hk.resolve_right (fun hlo => g (lost_bt hlo (by omega)))) (p := p) (by omega)
      rw [w64 (by omega) (by omega), w64 (by omega) (by omega), bne_eq_false_iff_eq] at g'
      rw [hban, if_neg g, if_pos g']
theorem below_i (p : Nat) (hp : p < P) : ∀ (d : Nat), d ≤ n → ∀ T : List (List Int), T.length = n → (∀ j : Nat, d ≤ j → j < n → RowIs (rd_L4 T (j : Int)) (tabP l st p j)) → EvP (fun m => spec_l7Below.l0 m l st (p : Int) T ((d : Int) - 1)) (fun T => T.length = n ∧ ∀ j : Nat, j < n → RowIs (rd_L4 T (j : Int)) (tabP l st p j)) := by
  have n6 := K.n6
  intro d
  induction d with
  | zero =>
    intro _ T h1 h2
    refine EvP.succ ?_
    simp only [spec_l7Below.l0]
    exact EvP.no (by omega) (EvP.ret ⟨h1, fun j hj => h2 j (Nat.zero_le _) hj⟩)
  | succ d ih =>
    intro hd T h1 h2
    rw [show ((d + 1 : Nat) : Int) - 1 = (d : Int) by omega]
    refine EvP.succ ?_
    simp only [spec_l7Below.l0]
    refine EvP.yes (by omega) (EvP.yes (by omega) (EvP.yes (by omega) (EvP.yes (by omega) ?_)))
    have er : rd_L4 (T.set d (List.replicate 4 0)) (d : Int) = List.replicate 4 0 := rdL_set_eq _ _ _ (by omega)
    refine below_c K p d (by omega) hp _ (fun T' a b => ?_) 4 0 (by omega) (T.set d (List.replicate 4 0)) (by rw [List.length_set]; exact h1) (fun j a b => ?_) ?_ (fun x hx => by omega) (fun x _ hx => ?_)
    · rw [w64 (by omega) (by omega)]
      exact ih (by omega) T' a b
    · rw [rdL_set_ne _ _ _ _ (by omega)]; exact h2 j (by omega) b
    · rw [er]; rfl
    · rw [er]
      obtain rfl | rfl | rfl | rfl : x = 0 ∨ x = 1 ∨ x = 2 ∨ x = 3 := by omega
      all_goals rfl
theorem l7below (p : Nat) (hp : p < P) : EvP (fun m => spec_l7Below.f m l st (p : Int)) (fun T => T.length = n ∧ ∀ j : Nat, j < n → RowIs (rd_L4 T (j : Int)) (tabP l st p j)) := by
  have n6 := K.n6
  have hl := K.len
  unfold spec_l7Below.f
  refine EvP.yes (by omega) (EvP.yes (by rw [toNat_nat]; omega) ?_)
  rw [toNat_nat, hl, w64 (by omega) (by omega)]
  exact below_i K p hp n (Nat.le_refl _) _ (by simp) (fun j a b => by omega)
end
end Go.Proofs.YtejoneninbdjbaaDoor.Pur
end
section
namespace Go.Proofs.YtejoneninbdjbaaDoor.E
open Go.RowKit Go.Proofs.YtejoneninbdjbaaDoorW.PrintWords Go.Proofs.YtejoneninbdjbaaDoorW.PrintLast Go.Proofs.YtejoneninbdjbaaDoorW.PrintMore
attribute [local go_sem] max2_int min2_int max_two min_two max_three min_three max_four min_four
set_option linter.unusedVariables false
set_option linter.unusedSimpArgs false
attribute [local go_sem] str_leq_ str_gtr_ str_geq_
mutual
def spec_StemFewest.l0 : Nat → List ByteArray → List Int → Int → Int → Option (Int)
 | 0, _, _, _, _ => none
 | k + 1, x0, x1, x5, x6 => if 0 < (x0.length : Int) then (if x6 < ((rdOf ByteArray.empty x0 0).size : Int) then ((spec_l7Below.f k x0 x1 x6).bind fun t644 => (if 0 < (t644.length : Int) then (if 0 < ((rd_L4 t644 0).length : Int) then (spec_StemFewest.l1 k x0 x1 x5 x6 t644 (rd (rd_L4 t644 0) 0) 0) else (none)) else (none))) else (some x5)) else (none)
def spec_StemFewest.l1 : Nat → List ByteArray → List Int → Int → Int → List (List Int) → Int → Int → Option (Int)
 | 0, _, _, _, _, _, _, _ => none
 | k + 1, x0, x1, x5, x6, x7, x8, x9 => if x9 < 4 then (if 0 < (x7.length : Int) then (if 0 ≤ x9 then (if x9 < ((rd_L4 x7 0).length : Int) then (spec_StemFewest.l1 k x0 x1 x5 x6 x7 (mn x8 (rd (rd_L4 x7 0) x9)) (wrap64 (x9 + 1))) else (none)) else (none)) else (none)) else (spec_StemFewest.l0 k x0 x1 (wrap64 (x5 + x8)) (wrap64 (x6 + 1)))
end
def spec_StemFewest.f (k : Nat) (l0 : List ByteArray) (l1 : List Int) : Option (Int) := (spec_StemValid.f k l0 l1).bind fun t642 => (if t642 = true then (spec_StemFewest.l0 k l0 l1 0 0) else (some (-1)))
end Go.Proofs.YtejoneninbdjbaaDoor.E
end
section
namespace Go.Proofs.YtejoneninbdjbaaDoor.E
open Go.RowKit Go.Proofs.YtejoneninbdjbaaDoorW.PrintWords Go.Proofs.YtejoneninbdjbaaDoorW.PrintLast Go.Proofs.YtejoneninbdjbaaDoorW.PrintMore
attribute [local go_sem] max2_int min2_int max_two min_two max_three min_three max_four min_four
set_option linter.unusedVariables false
set_option linter.unusedSimpArgs false
attribute [local go_sem] str_leq_ str_gtr_ str_geq_
def impl_StemFewest.f (k : Nat) (l0 : List ByteArray) (l1 : List Int) : Option (Int) := (impl_StemFill.f k l0 l1).bind fun bt651 => (if bt651.2 = true then ((impl_changesOf.f k bt651.1 l1).bind fun t655 => (some t655)) else (some (-1)))
end Go.Proofs.YtejoneninbdjbaaDoor.E
end
section
namespace Go.Proofs.YtejoneninbdjbaaDoor.Pur
open Go.RowKit Go.Proofs.YtejoneninbdjbaaDoorW.PrintWords Go.Proofs.YtejoneninbdjbaaDoorW.PrintMore Go.Proofs.YtejoneninbdjbaaDoor.E
def fFew (l : List ByteArray) (st : List Int) (p : Nat) : Int := tabP l st p 0 (yOf (tabP l st p) st 0)
def fSum (l : List ByteArray) (st : List Int) : Int := sumTo (fFew l st) (rdOf ByteArray.empty l 0).size
def yL (l : List ByteArray) (st : List Int) (p j : Nat) : Nat := yOf (tabP l st p) st j
def filled (l : List ByteArray) (st : List Int) : List ByteArray := fillM (letP l st) l.length (fun _ => (rdOf ByteArray.empty l 0).size)
section
variable {l : List ByteArray} {st : List Int} (K : StemK l st l.length (rdOf ByteArray.empty l 0).size)
include K
theorem K_let (p j : Nat) (hj : j < l.length) : letP l st p j = ((yL l st p j : Nat) : Int) ∧ yL l st p j < 4 :=
  y_nat (n := l.length) (b := banP l p) K.n6 (ban_bd l p) K.par j hj
theorem K_zero (p : Nat) : IsBest (tabP l st p 0) (-1) (yL l st p 0) := y_zero (n := l.length) (b := banP l p) K.n6 (ban_bd l p)
theorem K_step (p j : Nat) (h0 : 0 < j) (hj : j < l.length) : IsBest (tabP l st p j) ((yL l st p (sOf st j) : Nat) : Int) (yL l st p j) := y_step (n := l.length) (b := banP l p) K.n6 (ban_bd l p) K.par j h0 hj
theorem K_fillOk : fillOk l st = true := by
  have h1 := K.n1
  have h6 := K.n6
  have h8 := K.p8
  have hst := K.stl
  unfold fillOk stOkF
  rw [Bool.and_eq_true, Bool.and_eq_true, Bool.and_eq_true, Bool.and_eq_true]
  refine ⟨⟨⟨decide_eq_true hst, decide_eq_true (by omega)⟩, ?_⟩, decide_eq_true (by omega), ?_⟩
  · rw [List.all_eq_true]
    intro j hj
    have hj := List.mem_range.mp hj
    rw [Bool.or_eq_true, Bool.and_eq_true]
    by_cases e : j = 0
    · exact .inl (decide_eq_true e)
    · have := K.par j (by omega) (by omega)
      exact .inr ⟨decide_eq_true this.1, decide_eq_true this.2⟩
  · rw [List.all_eq_true]
    intro t ht
    obtain ⟨j, hj, rfl⟩ := List.getElem_of_mem ht
    have hs := K.sz j hj
    have h1 := K.p1
    rw [rd_at hj] at hs
    rw [Bool.and_eq_true, Bool.and_eq_true]
    refine ⟨⟨decide_eq_true hs, ?_⟩, decide_eq_true (by omega)⟩
    rw [(lostQ_is (t := l[j]) (by omega) (by omega)).1]
    rfl
end
def FillIs (l : List ByteArray) (st : List Int) (r : List ByteArray × Bool) : Prop := (VS l st → r = (filled l st, true)) ∧ (¬ VS l st → r = ([], false))
theorem FillIs.same {l : List ByteArray} {st : List Int} {a b : List ByteArray × Bool} (h : FillIs l st a) (k : FillIs l st b) : a = b := by
  by_cases hc : VS l st
  · rw [h.1 hc, k.1 hc]
  · rw [h.2 hc, k.2 hc]
theorem FillIs.len {l : List ByteArray} {st : List Int} {a : List ByteArray × Bool} (h : FillIs l st a) : a.1.length ≤ 6 := by
  by_cases hc : VS l st
  · rw [h.1 hc]
    have := (stemK hc).n6
    unfold filled
    rw [fillM_len]
    exact this
  · rw [h.2 hc]; simp
theorem impl_fill (l : List ByteArray) (st : List Int) (hs : ∀ t ∈ l, t.size ≤ 9223372036854775806) (hl : st.length ≤ 1048576) : EvP (fun k => impl_StemFill.f k l st) (FillIs l st) := by
  unfold impl_StemFill.f
  refine EvP.bind (impl_stem l st hs hl) (fun a ha => ?_)
  refine EvP.ite (fun h1 => ?_) (fun h1 => EvP.ret ⟨fun h => absurd (ha.mpr h) h1, fun _ => rfl⟩)
  have V := ha.mp h1
  exact EvP.yes (K_fillOk (stemK V)) (EvP.ret ⟨fun _ => rfl, fun h => absurd V h⟩)
theorem let_byte {y : Nat} (h : y < 4) : strOfNums [(97 + (y : Int)) % 256] = ⟨#[UInt8.ofNat (97 + y)]⟩ := by
  obtain rfl | rfl | rfl | rfl : y = 0 ∨ y = 1 ∨ y = 2 ∨ y = 3 := by omega
  all_goals rfl
theorem app_list (a : ByteArray) (u : UInt8) : (a ++ (⟨#[u]⟩ : ByteArray)).data.toList = a.data.toList ++ [u] := by
  rw [ByteArray.data_append]
  simp
section
variable {l : List ByteArray} {st : List Int} (K : StemK l st l.length (rdOf ByteArray.empty l 0).size)
include K
end
section
variable {l : List ByteArray} {st : List Int} (K : StemK l st l.length (rdOf ByteArray.empty l 0).size)
include K
end
theorem bt_snoc (a : ByteArray) (u : UInt8) : bt (a ++ (⟨#[u]⟩ : ByteArray)) (a.size : Int) = (u.toNat : Int) := by
  have hs : a.size < (a ++ (⟨#[u]⟩ : ByteArray)).size := by rw [ByteArray.size_append]; show a.size < a.size + 1; omega
  rw [bt_at _ _ hs]
  have : (a ++ (⟨#[u]⟩ : ByteArray)).data.toList[a.size]? = some u := by
    rw [app_list, List.getElem?_append_right (by rw [list_len]; exact Nat.le_refl _), list_len, Nat.sub_self]
    rfl
  rw [List.getElem?_eq_getElem (by rw [list_len]; exact hs)] at this
  rw [Option.some.inj this]
theorem abcd_cut {y : Nat} (h : y < 4) : (⟨#[97, 98, 99, 100]⟩ : ByteArray).extract y (y + 1) = strOfNums [(97 + (y : Int)) % 256] ∧ ((⟨#[97, 98, 99, 100]⟩ : ByteArray).extract y (y + 1)).size = 1 := by
  obtain rfl | rfl | rfl | rfl : y = 0 ∨ y = 1 ∨ y = 2 ∨ y = 3 := by omega
  all_goals exact ⟨rfl, rfl⟩
section
variable {l : List ByteArray} {st : List Int} (K : StemK l st l.length (rdOf ByteArray.empty l 0).size)
include K
theorem fill_i (p : Nat) (hp : p < (rdOf ByteArray.empty l 0).size) (T : List (List Int)) (hT : T.length = l.length ∧ ∀ j : Nat, j < l.length → RowIs (rd_L4 T (j : Int)) (tabP l st p j)) (Q : List ByteArray × Bool → Prop) (C : EvP (fun m => spec_StemFill.l1 m l st (fillM (letP l st) l.length (fun _ => p + 1)) (wrap64 ((p : Int) + 1))) Q) :
    ∀ (d i : Nat), i + d = l.length → EvP (fun m => spec_StemFill.l2 m l st (fillM (letP l st) l.length (fun j => if j < i then p + 1 else p)) (p : Int) T (i : Int)) Q := by
  have h1 := K.n1
  have h6 := K.n6
  have p8 := K.p8
  have hst := K.stl
  intro d
  induction d with
  | zero =>
    intro i hi
    refine EvP.succ ?_
    simp only [spec_StemFill.l2]
    refine EvP.no (by omega) ?_
    rw [fillM_congr _ _ _ (fun _ => p + 1) (fun j hj => if_pos (by omega))]
    exact C
  | succ d ih =>
    intro i hi
    have e2 : Hd (wrap64 ((i : Int) + 1) = ((i + 1 : Nat) : Int)) := ⟨w64 (by omega) (by omega)⟩
    have hfl : (fillM (letP l st) l.length (fun j => if j < i then p + 1 else p)).length = l.length := fillM_len _ _ _
    have hri : rdOf ByteArray.empty (fillM (letP l st) l.length (fun j => if j < i then p + 1 else p)) (i : Int) = fillT (fun p => letP l st p i) p := by
      rw [fillM_rd _ _ _ i (by omega), if_neg (Nat.lt_irrefl i)]
    have hlet := K_let K p i (by omega)
    have step : ∀ y : Nat, y = yL l st p i → EvP (fun m => if (i : Int) < ((fillM (letP l st) l.length (fun j => if j < i then p + 1 else p)).length : Int) then (if 0 ≤ (y : Int) then (if (y : Int) ≤ wrap64 ((y : Int) + 1) then (if wrap64 ((y : Int) + 1) ≤ 4 then (if (rdOf ByteArray.empty (fillM (letP l st) l.length (fun j => if j < i then p + 1 else p)) (i : Int)).size + ((⟨#[97, 98, 99, 100]⟩ : ByteArray).extract (y : Int).toNat (wrap64 ((y : Int) + 1)).toNat).size ≤ 9223372036854775807 then spec_StemFill.l2 m l st ((fillM (letP l st) l.length (fun j => if j < i then p + 1 else p)).set (i : Int).toNat ((rdOf ByteArray.empty (fillM (letP l st) l.length (fun j => if j < i then p + 1 else p)) (i : Int)) ++ ((⟨#[97, 98, 99, 100]⟩ : ByteArray).extract (y : Int).toNat (wrap64 ((y : Int) + 1)).toNat))) (p : Int) T (wrap64 ((i : Int) + 1)) else none) else none) else none) else none) else none) Q := by
      intro y hy
      have hy4 : y < 4 := by omega
      have ew : Hd (wrap64 ((y : Int) + 1) = ((y + 1 : Nat) : Int)) := ⟨w64 (by omega) (by omega)⟩
      rw [ew.out, hri, e2.out, toNat_nat, toNat_nat, toNat_nat, (abcd_cut hy4).2, fillT_len]
      refine EvP.yes (by omega) (EvP.yes (by omega) (EvP.yes (by omega) (EvP.yes (by omega) (EvP.yes (by omega) ?_))))
      have es : fillT (fun p => letP l st p i) p ++ (⟨#[97, 98, 99, 100]⟩ : ByteArray).extract y (y + 1) = fillT (fun p => letP l st p i) (p + 1) := by
        rw [(abcd_cut hy4).1, fillT, hlet.1, hy]
      rw [es, fillM_set _ _ _ i (by omega), fillM_congr _ _ _ (fun j => if j < i + 1 then p + 1 else p) (fun j _ => up_step j i p)]
      exact ih (i + 1) (by omega)
    refine EvP.succ ?_
    simp only [spec_StemFill.l2]
    refine EvP.yes (by omega) ?_
    by_cases h0 : 0 < i
    · have hpar := K.par i h0 (by omega)
      have es : rd st (i : Int) = ((sOf st i : Nat) : Int) := by unfold sOf; omega
      have hsi : sOf st i < i := by unfold sOf; omega
      have hlets := K_let K p (sOf st i) (by omega)
      have hrs : rdOf ByteArray.empty (fillM (letP l st) l.length (fun j => if j < i then p + 1 else p)) (rd st (i : Int)) = fillT (fun p => letP l st p (sOf st i)) p ++ (⟨#[UInt8.ofNat (97 + yL l st p (sOf st i))]⟩ : ByteArray) := by
        rw [es, fillM_rd _ _ _ (sOf st i) (by omega), if_pos hsi, fillT, hlets.1, let_byte hlets.2]
      have hbt : bt (rdOf ByteArray.empty (fillM (letP l st) l.length (fun j => if j < i then p + 1 else p)) (rd st (i : Int))) (p : Int) = 97 + ((yL l st p (sOf st i) : Nat) : Int) := by
        rw [hrs]
        have := bt_snoc (fillT (fun p => letP l st p (sOf st i)) p) (UInt8.ofNat (97 + yL l st p (sOf st i)))
        rw [fillT_len] at this
        rw [this, UInt8.toNat_ofNat_of_lt' (show _ < 256 by have := hlets.2; omega)]
        omega
      have hsz : (rdOf ByteArray.empty (fillM (letP l st) l.length (fun j => if j < i then p + 1 else p)) (rd st (i : Int))).size = p + 1 := by
        rw [hrs, ByteArray.size_append, fillT_len]
        rfl
      refine EvP.yes (by omega) (EvP.yes (by omega) (EvP.yes (by omega) (EvP.yes (by omega) (EvP.yes (by omega) (EvP.yes (by omega) (EvP.yes (by omega) (EvP.yes (by have := hT.1; omega) ?_)))))))
      rw [hbt, show (97 + ((yL l st p (sOf st i) : Nat) : Int) - 97) % 256 = ((yL l st p (sOf st i) : Nat) : Int) by have := hlets.2; omega]
      refine EvP.bind (l7letter (hT.2 i (by omega)) _) (fun _ e => ?_)
      subst e
      exact step _ ((best_is (hT.2 i (by omega)).bd).1.one (K_step K p i h0 (by omega)))
    · obtain rfl : i = 0 := by omega
      refine EvP.no (by omega) (EvP.yes (by omega) (EvP.yes (by have := hT.1; omega) ?_))
      refine EvP.bind (l7letter (hT.2 0 (by omega)) _) (fun _ e => ?_)
      subst e
      exact step _ ((best_is (hT.2 0 (by omega)).bd).1.one (K_zero K p))
theorem fill_p : ∀ (d p : Nat), p + d = (rdOf ByteArray.empty l 0).size → EvP (fun m => spec_StemFill.l1 m l st (fillM (letP l st) l.length (fun _ => p)) (p : Int)) (· = (filled l st, true)) := by
  have h1 := K.n1
  have p8 := K.p8
  intro d
  induction d with
  | zero =>
    intro p hp
    refine EvP.succ ?_
    simp only [spec_StemFill.l1]
    refine EvP.yes (by omega) (EvP.no (by omega) (EvP.ret ?_))
    unfold filled
    rw [show p = (rdOf ByteArray.empty l 0).size by omega]
  | succ d ih =>
    intro p hp
    have e2 : Hd (wrap64 ((p : Int) + 1) = ((p + 1 : Nat) : Int)) := ⟨w64 (by omega) (by omega)⟩
    refine EvP.succ ?_
    simp only [spec_StemFill.l1]
    refine EvP.yes (by omega) (EvP.yes (by omega) ?_)
    refine EvP.bind (l7below K p (by omega)) (fun T hT => ?_)
    have := fill_i K p (by omega) T hT (· = (filled l st, true)) (by rw [e2.out]; exact ih (p + 1) (by omega)) l.length 0 (by omega)
    rw [fillM_congr _ _ (fun j => if j < 0 then p + 1 else p) (fun _ => p) (fun j _ => if_neg (Nat.not_lt_zero j))] at this
    exact this
theorem fill_0 : ∀ (d i : Nat) (x : List ByteArray), i + d = l.length → x = List.replicate i (⟨#[]⟩ : ByteArray) → EvP (fun m => spec_StemFill.l0 m l st x (i : Int)) (· = (filled l st, true)) := by
  have h6 := K.n6
  intro d
  induction d with
  | zero =>
    intro i x hi hx
    refine EvP.succ ?_
    simp only [spec_StemFill.l0]
    refine EvP.no (by omega) ?_
    rw [hx, show i = l.length by omega, fillM_zero (letP l st)]
    exact fill_p K (rdOf ByteArray.empty l 0).size 0 (by omega)
  | succ d ih =>
    intro i x hi hx
    have e2 : Hd (wrap64 ((i : Int) + 1) = ((i + 1 : Nat) : Int)) := ⟨w64 (by omega) (by omega)⟩
    refine EvP.succ ?_
    simp only [spec_StemFill.l0]
    refine EvP.yes (by omega) (EvP.yes (by rw [hx, List.length_replicate]; omega) ?_)
    rw [e2.out]
    refine ih (i + 1) _ (by omega) ?_
    rw [hx]
    exact (List.replicate_succ' ..).symm
end
theorem spec_fill (l : List ByteArray) (st : List Int) (hs : ∀ t ∈ l, t.size ≤ 9223372036854775806) (hl : st.length ≤ 1048576) : EvP (fun k => spec_StemFill.f k l st) (FillIs l st) := by
  unfold spec_StemFill.f
  refine EvP.bind (P := (· = [])) (EvP.con rfl rfl) (fun y hy => ?_)
  subst hy
  refine EvP.bind (spec_stem l st hs hl) (fun a ha => ?_)
  refine EvP.ite (fun h1 => ?_) (fun h1 => EvP.ret ⟨fun h => absurd (ha.mpr h) h1, fun _ => rfl⟩)
  have V := ha.mp h1
  exact (fill_0 (stemK V) l.length 0 [] (by omega) rfl).mono (fun r e => ⟨fun _ => e, fun h => absurd V h⟩)
end Go.Proofs.YtejoneninbdjbaaDoor.Pur
end
section
namespace Go.Proofs.YtejoneninbdjbaaDoor.Pur
open Go.RowKit Go.Proofs.YtejoneninbdjbaaDoorW.PrintWords Go.Proofs.YtejoneninbdjbaaDoorW.PrintMore Go.Proofs.YtejoneninbdjbaaDoor.E
theorem mark_text_loop : ∀ (d : Nat) (n : Int) (t : ByteArray), 0 ≤ n → n < 10 ^ d → d ≤ 18 → t.size + d ≤ 1000 → EvP (fun k => laws_markText.l0 k n t) (fun r => r.size ≤ 1001) := by
  intro d
  induction d with
  | zero =>
    intro n t h0 h1 _ ht
    refine EvP.succ ?_
    simp only [laws_markText.l0]
    have hn : n = 0 := by rw [Int.pow_zero] at h1; omega
    subst hn
    exact EvP.no (by decide) (EvP.yes (by omega) (EvP.ret (by rw [ByteArray.size_append]; show 1 + t.size ≤ 1001; omega)))
  | succ d ih =>
    intro n t h0 h1 hd ht
    refine EvP.succ ?_
    simp only [laws_markText.l0]
    refine EvP.ite (fun hp => ?_) (fun hp => EvP.yes (by omega) (EvP.ret (by rw [ByteArray.size_append]; show 1 + t.size ≤ 1001; omega)))
    refine EvP.bind (P := fun y => y.length = 1) (EvP.con rfl rfl) (fun y hy => ?_)
    have hs : (strOfNums y).size = 1 := by rw [strOfNums_size]; exact hy
    refine EvP.yes (by omega) ?_
    have hq : Int.tdiv n 10 = n / 10 := tdiv_pos 10 h0
    have hb : n / 10 < 10 ^ d := by
      rw [Int.pow_succ] at h1
      omega
    have hb2 : n / 10 ≤ n := Int.ediv_le_self 10 h0
    have h18 : (10 : Int) ^ d ≤ 10 ^ 18 := by
      have : (10 : Nat) ^ d ≤ 10 ^ 18 := Nat.pow_le_pow_right (by omega) (by omega)
      exact_mod_cast this
    rw [hq, w64 (by omega) (by omega)]
    exact ih (n / 10) _ (Int.ediv_nonneg h0 (by omega)) hb (by omega) (by rw [ByteArray.size_append]; omega)
theorem mark_text (n : Int) (h0 : 0 ≤ n) (h1 : n ≤ 2000000) : EvP (fun k => laws_markText.f k n) (fun r => r.size ≤ 1001) := by
  unfold laws_markText.f
  refine EvP.ite (fun _ => EvP.ret (by show 2 ≤ 1001; omega)) (fun _ => ?_)
  exact mark_text_loop 18 n ⟨#[]⟩ h0 (by omega) (Nat.le_refl _) (by show 0 + 18 ≤ 1000; omega)
theorem mark_strs_loop (m : Nat) (hm : m ≤ 1048576) : ∀ (d i : Nat) (x : List ByteArray), i + d = m → x.length = m → EvP (fun k => laws_markStringS.l0 k x (1 + i) (i : Int)) (fun r => r.1 = 1 + (m : Int)) := by
  intro d
  induction d with
  | zero =>
    intro i x hi hx
    refine EvP.succ ?_
    simp only [laws_markStringS.l0]
    exact EvP.no (by omega) (EvP.ret (by dsimp only; omega))
  | succ d ih =>
    intro i x hi hx
    have e1 : Hd (wrap64 (1 + (i : Int) + 1) = 1 + ((i + 1 : Nat) : Int)) := ⟨by rw [w64 (by omega) (by omega)]; omega⟩
    have e2 : Hd (wrap64 ((i : Int) + 1) = ((i + 1 : Nat) : Int)) := ⟨w64 (by omega) (by omega)⟩
    refine EvP.succ ?_
    simp only [laws_markStringS.l0]
    refine EvP.yes (by omega) ?_
    refine EvP.bind (mark_text _ (by omega) (by omega)) (fun t _ => ?_)
    refine EvP.yes (by omega) ?_
    rw [e1.out, e2.out]
    exact ih (i + 1) _ (by omega) (by simpa using hx)
theorem mark_strs (l : List ByteArray) (hl : l.length ≤ 1048576) : EvP (fun k => laws_markStringS.f k l 1) (fun r => r.1 = 1 + (l.length : Int)) := by
  unfold laws_markStringS.f
  exact mark_strs_loop l.length hl l.length 0 l (by omega) rfl
end Go.Proofs.YtejoneninbdjbaaDoor.Pur
end
section
namespace Go.Proofs.YtejoneninbdjbaaDoor.Pur
open Go.RowKit Go.Proofs.YtejoneninbdjbaaDoorW.PrintWords Go.Proofs.YtejoneninbdjbaaDoorW.PrintMore Go.Proofs.YtejoneninbdjbaaDoor.E
def MarkedS (m : Nat) (x : List ByteArray) : Prop := ∀ j : Nat, j < m → ∃ t, x[j]? = some t ∧ Ev (fun k => laws_markText.f k (1 + (j : Int))) t
theorem mark_textE (n : Int) (h0 : 0 ≤ n) (h1 : n ≤ 2000000) : EvP (fun k => laws_markText.f k n) (fun t => Ev (fun k => laws_markText.f k n) t) := by
  obtain ⟨t, ht, _⟩ := mark_text n h0 h1
  exact ⟨t, ht, ht⟩
theorem marked_loop (m : Nat) (hm : m ≤ 1048576) : ∀ (d i : Nat) (x : List ByteArray), i + d = m → x.length = m → MarkedS i x → EvP (fun k => laws_markStringS.l0 k x (1 + i) (i : Int)) (fun r => r.1 = 1 + (m : Int) ∧ r.2.length = m ∧ MarkedS m r.2) := by
  intro d
  induction d with
  | zero =>
    intro i x hi hx h
    obtain rfl : i = m := by omega
    refine EvP.succ ?_
    simp only [laws_markStringS.l0]
    exact EvP.no (by omega) (EvP.ret ⟨rfl, hx, h⟩)
  | succ d ih =>
    intro i x hi hx h
    have e1 : Hd (wrap64 (1 + (i : Int) + 1) = 1 + ((i + 1 : Nat) : Int)) := ⟨by rw [w64 (by omega) (by omega)]; omega⟩
    have e2 : Hd (wrap64 ((i : Int) + 1) = ((i + 1 : Nat) : Int)) := ⟨w64 (by omega) (by omega)⟩
    refine EvP.succ ?_
    simp only [laws_markStringS.l0]
    refine EvP.yes (by omega) ?_
    refine EvP.bind (mark_textE _ (by omega) (by omega)) (fun t ht => ?_)
    refine EvP.yes (by omega) ?_
    rw [e1.out, e2.out]
    refine ih (i + 1) _ (by omega) (by simpa using hx) (fun j hj => ?_)
    rw [toNat_nat]
    by_cases e : j = i
    · subst e
      exact ⟨t, List.getElem?_set_self (by omega), ht⟩
    · obtain ⟨s, hs, hs'⟩ := h j (by omega)
      exact ⟨s, by rw [List.getElem?_set_ne (Ne.symm e)]; exact hs, hs'⟩
theorem marked_strs (l : List ByteArray) (hl : l.length ≤ 1048576) : EvP (fun k => laws_markStringS.f k l 1) (fun r => r.1 = 1 + (l.length : Int) ∧ r.2.length = l.length ∧ MarkedS l.length r.2) := by
  unfold laws_markStringS.f
  exact marked_loop l.length hl l.length 0 l (by omega) rfl (fun j hj => by omega)
theorem held_strs_loop (x : List ByteArray) (m : Nat) (hm : m ≤ 1048576) (hx : x.length = m) (h : MarkedS m x) : ∀ (d i : Nat), i + d = m → EvP (fun k => laws_heldStringS.l0 k x (1 + i) (i : Int)) (· = 1 + (m : Int)) := by
  intro d
  induction d with
  | zero =>
    intro i hi
    obtain rfl : i = m := by omega
    refine EvP.succ ?_
    simp only [laws_heldStringS.l0]
    exact EvP.no (by omega) (EvP.ret rfl)
  | succ d ih =>
    intro i hi
    have e1 : Hd (wrap64 (1 + (i : Int) + 1) = 1 + ((i + 1 : Nat) : Int)) := ⟨by rw [w64 (by omega) (by omega)]; omega⟩
    have e2 : Hd (wrap64 ((i : Int) + 1) = ((i + 1 : Nat) : Int)) := ⟨w64 (by omega) (by omega)⟩
    obtain ⟨t, ht, hv⟩ := h i (by omega)
    have er : rdOf ByteArray.empty x (i : Int) = t := by
      unfold rdOf
      rw [toNat_nat, List.getD_eq_getElem?_getD, ht, Option.getD_some]
    refine EvP.succ ?_
    simp only [laws_heldStringS.l0]
    refine EvP.yes (by omega) (EvP.yes (by omega) ?_)
    refine EvP.bind (EvP.of (P := (· = t)) hv rfl) (fun s hs => ?_)
    subst hs
    rw [er, e1.out, e2.out]
    exact EvP.yes rfl (ih (i + 1) (by omega))
theorem held_strs (x : List ByteArray) (m : Nat) (hm : m ≤ 1048576) (hx : x.length = m) (h : MarkedS m x) : EvP (fun k => laws_heldStringS.f k x 1) (· = 1 + (m : Int)) := by
  unfold laws_heldStringS.f
  exact held_strs_loop x m hm hx h m 0 (by omega)
end Go.Proofs.YtejoneninbdjbaaDoor.Pur
end
section
namespace Go.Proofs.YtejoneninbdjbaaDoor.E
open Go.RowKit Go.Proofs.YtejoneninbdjbaaDoorW.PrintWords Go.Proofs.YtejoneninbdjbaaDoorW.PrintLast Go.Proofs.YtejoneninbdjbaaDoorW.PrintMore
attribute [local go_sem] max2_int min2_int max_two min_two max_three min_three max_four min_four
set_option linter.unusedVariables false
set_option linter.unusedSimpArgs false
attribute [local go_sem] str_leq_ str_gtr_ str_geq_
def spec_StemMove.f (k : Nat) (l0 : List ByteArray) (l1 : List Int) (a2 : Int) (a3 : Int) : Option (List Int × Bool) := (spec_StemValid.f k l0 l1).bind fun t393 => (if t393 = true then ((spec_l6In.f a2 1 (wrap64 ((l1.length : Int) - 1))).bind fun t394 => (if t394 = true then ((spec_l6In.f a3 0 (wrap64 (a2 - 1))).bind fun t395 => (if t395 = true then ((some (([] : List Int) : List Int)).bind fun y396 => (if y396.length + l1.length < 17592186044416 then ((some (y396 ++ l1 : List Int)).bind fun y399 => (if 0 ≤ a2 then (if a2 < (y399.length : Int) then (some ((y399.set (a2 : Int).toNat a3), true)) else (none)) else (none))) else (none))) else (some ((([] : List Int)), false)))) else (some ((([] : List Int)), false)))) else (some ((([] : List Int)), false)))
end Go.Proofs.YtejoneninbdjbaaDoor.E
end
section
namespace Go.Proofs.YtejoneninbdjbaaDoor.E
open Go.RowKit Go.Proofs.YtejoneninbdjbaaDoorW.PrintWords Go.Proofs.YtejoneninbdjbaaDoorW.PrintLast Go.Proofs.YtejoneninbdjbaaDoorW.PrintMore
attribute [local go_sem] max2_int min2_int max_two min_two max_three min_three max_four min_four
set_option linter.unusedVariables false
set_option linter.unusedSimpArgs false
attribute [local go_sem] str_leq_ str_gtr_ str_geq_
def impl_copiedNumbers.f (l0 : List Int) : Option (List Int) := if l0.length ≤ 35184372088832 then some l0 else none
end Go.Proofs.YtejoneninbdjbaaDoor.E
end
section
namespace Go.Proofs.YtejoneninbdjbaaDoor.E
open Go.RowKit Go.Proofs.YtejoneninbdjbaaDoorW.PrintWords Go.Proofs.YtejoneninbdjbaaDoorW.PrintLast Go.Proofs.YtejoneninbdjbaaDoorW.PrintMore
attribute [local go_sem] max2_int min2_int max_two min_two max_three min_three max_four min_four
set_option linter.unusedVariables false
set_option linter.unusedSimpArgs false
attribute [local go_sem] str_leq_ str_gtr_ str_geq_
def impl_StemMove.f (k : Nat) (l0 : List ByteArray) (l1 : List Int) (a2 : Int) (a3 : Int) : Option (List Int × Bool) := (impl_StemValid.f k l0 l1).bind fun t412 => (if t412 = true then (if a2 < 1 then (some (([] : List Int), false)) else (if a2 ≥ (l1.length : Int) then (some (([] : List Int), false)) else (if a3 < 0 then (some (([] : List Int), false)) else (if a3 ≥ a2 then (some (([] : List Int), false)) else ((impl_copiedNumbers.f l1).bind fun t413 => (if 0 ≤ a2 then (if a2 < (t413.length : Int) then (some ((t413.set (a2 : Int).toNat a3), true)) else (none)) else (none))))))) else (some (([] : List Int), false)))
end Go.Proofs.YtejoneninbdjbaaDoor.E
end
section
namespace Go.Proofs.YtejoneninbdjbaaDoor.E
open Go.RowKit Go.Proofs.YtejoneninbdjbaaDoorW.PrintWords Go.Proofs.YtejoneninbdjbaaDoorW.PrintLast Go.Proofs.YtejoneninbdjbaaDoorW.PrintMore
attribute [local go_sem] max2_int min2_int max_two min_two max_three min_three max_four min_four
set_option linter.unusedVariables false
set_option linter.unusedSimpArgs false
attribute [local go_sem] str_leq_ str_gtr_ str_geq_
mutual
def laws_FnExactStemMove.j0 : Nat → List ByteArray → List Int → Int → Int → List Int → Bool → List ByteArray → List Int → List Int → Bool → Bool → Option (Bool)
 | 0, _, _, _, _, _, _, _, _, _, _, _ => none
 | k + 1, x0, x1, x2, x3, x10, x11, x12, x13, x14, x15, x59 => if x59 = true then (some false) else ((laws_toStringS.f k x0).bind fun t446 => ((laws_eqStringS.f k x12 t446).bind fun t449 => (if t449 = true then ((laws_toIntS.f k x1).bind fun t450 => ((laws_eqIntS.f k x13 t450).bind fun t453 => (if t453 = true then ((laws_markStringS.f k x12 1).bind fun bt454 => ((laws_markIntS.f k x13 bt454.1).bind fun bt456 => (if bt456.1 < 0 then (laws_FnExactStemMove.j1 k x0 x1 x2 x3 x10 x11 x14 true) else ((laws_eqIntS.f k x14 x10).bind fun t458 => (if t458 = true then (laws_FnExactStemMove.j1 k x0 x1 x2 x3 x10 x11 x14 (x15 != x11)) else (laws_FnExactStemMove.j1 k x0 x1 x2 x3 x10 x11 x14 true)))))) else (some false)))) else (some false))))
def laws_FnExactStemMove.j1 : Nat → List ByteArray → List Int → Int → Int → List Int → Bool → List Int → Bool → Option (Bool)
 | 0, _, _, _, _, _, _, _, _ => none
 | k + 1, x0, x1, x2, x3, x10, x11, x14, x88 => if x88 = true then (some false) else ((laws_markIntS.f k x14 1).bind fun bt459 => ((laws_heldIntS.f k bt459.2 1).bind fun t461 => (if t461 < 0 then (some false) else (if t461 = bt459.1 then ((laws_toStringS.f k x0).bind fun t462 => ((laws_toIntS.f k x1).bind fun t465 => ((impl_StemMove.f k t462 t465 x2 x3).bind fun bt468 => ((laws_eqIntS.f k bt468.1 x10).bind fun t472 => (if t472 = true then (laws_FnExactStemMove.j2 k bt459.2 bt459.1 (bt468.2 != x11)) else (laws_FnExactStemMove.j2 k bt459.2 bt459.1 true)))))) else (some false)))))
def laws_FnExactStemMove.j2 : Nat → List Int → Int → Bool → Option (Bool)
 | 0, _, _, _ => none
 | k + 1, x14, x17, x118 => if x118 = true then (some false) else ((laws_heldIntS.f k x14 1).bind fun t473 => (if t473 < 0 then (some false) else (if t473 = x17 then (some true) else (some false))))
end
def laws_FnExactStemMove.f (k : Nat) (l0 : List ByteArray) (l1 : List Int) (a2 : Int) (a3 : Int) : Option (Bool) := if (l1.length : Int) > 1048576 then (some true) else ((laws_szStringS.f k l0 1048576).bind fun t424 => (if t424 < 0 then (some true) else ((laws_toStringS.f k l0).bind fun t425 => ((laws_toIntS.f k l1).bind fun t428 => ((spec_StemMove.f k t425 t428 a2 a3).bind fun bt431 => ((laws_toStringS.f k l0).bind fun t435 => ((laws_toIntS.f k l1).bind fun t438 => ((impl_StemMove.f k t435 t438 a2 a3).bind fun bt441 => ((laws_eqIntS.f k bt441.1 bt431.1).bind fun t445 => (if t445 = true then (laws_FnExactStemMove.j0 k l0 l1 a2 a3 bt431.1 bt431.2 t435 t438 bt441.1 bt441.2 (bt441.2 != bt431.2)) else (laws_FnExactStemMove.j0 k l0 l1 a2 a3 bt431.1 bt431.2 t435 t438 bt441.1 bt441.2 true)))))))))))
end Go.Proofs.YtejoneninbdjbaaDoor.E
end
section
namespace Go.Proofs.YtejoneninbdjbaaDoor.Pur
open Go.RowKit Go.Proofs.YtejoneninbdjbaaDoorW.PrintWords Go.Proofs.YtejoneninbdjbaaDoorW.PrintMore Go.Proofs.YtejoneninbdjbaaDoor.E
def MvOk (l : List ByteArray) (st : List Int) (i tt : Int) : Prop := VS l st ∧ 1 ≤ i ∧ i < st.length ∧ 0 ≤ tt ∧ tt < i
def Mv (l : List ByteArray) (st : List Int) (i tt : Int) (r : List Int × Bool) : Prop := (MvOk l st i tt → r = (st.set i.toNat tt, true)) ∧ (¬ MvOk l st i tt → r = ([], false))
theorem mark_ints_at (l : List Int) (n : Int) (hn : 0 ≤ n ∧ n ≤ 2000000) (hl : l.length ≤ 1048576) : EvP (fun k => laws_markIntS.f k l n) (fun r => r.1 = n + l.length) := by
  unfold laws_markIntS.f
  have := (mark_ints_loop l.length hl n hn l.length 0 l (by omega) rfl (fun j hj => by omega)).mono (fun r h => h.1)
  simpa using this
end Go.Proofs.YtejoneninbdjbaaDoor.Pur
end
section
namespace Go.Proofs.YtejoneninbdjbaaDoor.E
open Go.RowKit Go.Proofs.YtejoneninbdjbaaDoorW.PrintWords Go.Proofs.YtejoneninbdjbaaDoorW.PrintLast Go.Proofs.YtejoneninbdjbaaDoorW.PrintMore
attribute [local go_sem] max2_int min2_int max_two min_two max_three min_three max_four min_four
set_option linter.unusedVariables false
set_option linter.unusedSimpArgs false
attribute [local go_sem] str_leq_ str_gtr_ str_geq_
def laws_FnExactStemFewest.f (k : Nat) (l0 : List ByteArray) (l1 : List Int) : Option (Bool) := if (l1.length : Int) > 1048576 then (some true) else ((laws_szStringS.f k l0 1048576).bind fun t656 => (if t656 < 0 then (some true) else ((laws_toStringS.f k l0).bind fun t657 => ((laws_toIntS.f k l1).bind fun t660 => ((spec_StemFewest.f k t657 t660).bind fun t663 => ((laws_toStringS.f k l0).bind fun t664 => ((laws_toIntS.f k l1).bind fun t667 => ((impl_StemFewest.f k t664 t667).bind fun t670 => (if t670 = t663 then ((laws_toStringS.f k l0).bind fun t671 => ((laws_eqStringS.f k t664 t671).bind fun t674 => (if t674 = true then ((laws_toIntS.f k l1).bind fun t675 => ((laws_eqIntS.f k t667 t675).bind fun t678 => (if t678 = true then (some true) else (some false)))) else (some false)))) else (some false))))))))))
end Go.Proofs.YtejoneninbdjbaaDoor.E
end
