/- Proved: for all arguments the given program's laws.FnPsalmRead returns true, and its arguments read afterwards as they read before (the given constant Rows.FnPsalmReadCardSaid).
Conditions: none ahead of the given statement; the statement itself begins in a world whose listed package-level variables hold what the program's text lays there, and its card ties them to that text. -/
import Derived.Test.YtdgmkfbmeaalpaaDoorRowFnPsalmReadK3
section
namespace Go.Proofs.YtdgmkfbmeaalpaaDoor.E
open Go.RowKit Go.Proofs.YtdgmkfbmeaalpaaDoorW.PrintWords Go.Proofs.YtdgmkfbmeaalpaaDoorW.PrintLast Go.Proofs.YtdgmkfbmeaalpaaDoorW.PrintMore
attribute [local go_sem] max2_int min2_int max_two min_two max_three min_three max_four min_four
set_option linter.unusedVariables false
set_option linter.unusedSimpArgs false
attribute [local go_sem] str_leq_ str_gtr_ str_geq_
mutual
def laws_FnPsalmRead.j0 : Nat → List Int → List Int → Bool → Option (Bool)
 | 0, _, _, _ => none
 | k + 1, x0, x1, x20 => if x20 = true then (some true) else ((spec_DrawPsalmRead.f k x0).bind fun bt879 => ((impl_PsalmRead.f k bt879.1 bt879.2.1 bt879.2.2).bind fun t886 => ((spec_PsalmRead.f k bt879.1 bt879.2.1 bt879.2.2).bind fun t887 => (if t886 = t887 then (laws_FnPsalmRead.j1 k x1 bt879.1 bt879.2.1 bt879.2.2 t886 t887 (decide (t886 < 0))) else (laws_FnPsalmRead.j1 k x1 bt879.1 bt879.2.1 bt879.2.2 t886 t887 true)))))
def laws_FnPsalmRead.j1 : Nat → List Int → List (S27) → ByteArray → List (S25) → Int → Int → Bool → Option (Bool)
 | 0, _, _, _, _, _, _, _ => none
 | k + 1, x1, x5, x6, x7, x8, x9, x41 => if x41 = true then (some (x8 == x9)) else (if x8 > 0 then (if (x7.length : Int) < 24 then ((some (([] : List (S25)) : List (S25))).bind fun y888 => (if y888.length + x7.length < 8796093022208 then ((some (y888 ++ x7 : List (S25))).bind fun y891 => (if 0 < (x7.length : Int) then ((some (([(⟨(rd_T25 x7 0).f0, (rd_T25 x7 0).f1⟩ : S25)] : List (S25)) : List (S25))).bind fun y895 => (if y891.length + y895.length < 8796093022208 then ((impl_PsalmRead.f k x5 x6 (y891 ++ y895)).bind fun t901 => (laws_FnPsalmRead.j2 k x1 x5 x6 x8 (t901 != 0))) else (none))) else (none))) else (none))) else (laws_FnPsalmRead.j2 k x1 x5 x6 x8 false)) else (laws_FnPsalmRead.j2 k x1 x5 x6 x8 false))
def laws_FnPsalmRead.j2 : Nat → List Int → List (S27) → ByteArray → Int → Bool → Option (Bool)
 | 0, _, _, _, _, _ => none
 | k + 1, x1, x5, x6, x8, x65 => if x65 = true then (none) else (if (x5.length : Int) = 0 then (some (x8 == 0)) else (if 0 ≤ ((x1.length : Int) % (x5.length : Int)) then (if ((x1.length : Int) % (x5.length : Int)) < (x5.length : Int) then ((impl_PsalmSing.f k ((rd_T27 x5 ((x1.length : Int) % (x5.length : Int))).f0) ((rd_T27 x5 ((x1.length : Int) % (x5.length : Int))).f1.f0) ((rd_T27 x5 ((x1.length : Int) % (x5.length : Int))).f1.f1) ((rd_T27 x5 ((x1.length : Int) % (x5.length : Int))).f2) ((rd_T27 x5 ((x1.length : Int) % (x5.length : Int))).f3) x6).bind fun bt903 => (if x8 ≤ (x5.length : Int) then (if bt903.2 = true then ((impl_PsalmRead.f k x5 x6 bt903.1).bind fun t907 => (some (decide (t907 ≥ 1)))) else (some true)) else (none))) else (none)) else (none)))
end
def laws_FnPsalmRead.f (k : Nat) (l0 : List Int) (l1 : List Int) : Option (Bool) := if (l0.length : Int) > 1048576 then (laws_FnPsalmRead.j0 k l0 l1 true) else (laws_FnPsalmRead.j0 k l0 l1 (decide ((l1.length : Int) > 1048576)))
def laws_FnPsalmRead.T8 : Bool × List (List Nat × List Nat) := (true, [([], []), ([0], [0]), ([1], [1]), ([2], [2]), ([3, 2], [2, 3]), ([4, 2], [2, 4]), ([2, 5], [2, 5]), ([6, 2], [6]), ([7], [7]), ([7], [7]), ([7], [7]), ([7], [7]), ([10, 11, 7, 7], [7, 10, 11]), ([7], [7]), ([13, 7], [7, 13]), ([14, 7], [7, 14]), ([15, 7], [7, 15]), ([12, 16, 12, 7], [7, 12, 16]), ([8, 9, 17, 17, 7], [7, 8, 9, 17]), ([18, 7], [7, 18]), ([7, 19], [7, 19])])
def laws_FnPsalmRead.B8 : List Nat := [0, 1, 3, 7, 15, 31, 63, 127, 255, 255, 255, 255, 3327, 255, 8447, 24831, 57599, 130303, 262143, 524287, 1048575]
theorem laws_FnPsalmRead.tab8 : rtab .any (opsOf Tryd.f11 8) = laws_FnPsalmRead.T8 := by kernel_rfl
theorem laws_FnPsalmRead.bits8 : waitsOk laws_FnPsalmRead.T8.2 laws_FnPsalmRead.B8 = true := by kernel_rfl
set_option maxHeartbeats 8000000 in
set_option maxRecDepth 100000 in
theorem laws_FnPsalmRead.calls (k : Nat) (A0 : Option Addr) (c0 : Nat) (l0 : List Int) (A1 : Option Addr) (c1 : Nat) (l1 : List Int) (r : Bool) (w : World) (hr0 : Kd.C (Kd.int .u8) w A0 l0.length l0) (hc0 : l0.length ≤ c0) (hr1 : Kd.C (Kd.int .u8) w A1 l1.length l1) (hc1 : l1.length ≤ c1) (hG : GOk [0] w) (h : laws_FnPsalmRead.f k l0 l1 = some r) :
  Calls Tryd.prog 11 #[.slice A0 l0.length c0, .slice A1 l1.length c1] w fun e w' => e = .returned (.bool r) ∧ Below w.heap.size w w' := by
 have hu25 := Tryd.underlying25
 have hu27 := Tryd.underlying27
 have HR0 := Aside0.mk hr0
 have HC0 := Aside0.mk hc0
 clear hr0 hc0
 have HR1 := Aside0.mk hr1
 have HC1 := Aside0.mk hc1
 clear hr1 hc1
 have HB := Aside0.mk (Below.refl w.heap.size w)
 have HG := Aside0.mk hG
 clear hG
 have H : (if (l0.length : Int) > 1048576 then (laws_FnPsalmRead.j0 k l0 l1 true) else (laws_FnPsalmRead.j0 k l0 l1 (decide ((l1.length : Int) > 1048576)))) = some r := h
 clear h
 have HC3 := Aside0.mk H
 clear H
 go_enter Tryd.func11, Tryd.ntmps11
 go_upto_region 1 with (fail)
 go_cut [20] (fun v20 wc => ∃ (kq : Nat) (x20_2 : Bool), v20 = .bool x20_2 ∧ Aside0 (laws_FnPsalmRead.j0 kq l0 l1 x20_2 = some r) ∧ Aside0 (kq ≤ k) ∧ Aside0 (Below w.heap.size w wc))
 case first =>
  have H := HC3.out
  clear HC3
  by_cases c4 : (l0.length : Int) > 1048576
  rotate_left
  ·rw [if_neg c4] at H
   have c4b0 : decide (1048576 < (l0.length : Int)) = false := decide_eq_false c4
   have c4b1 : decide (1048576 < l0.length) = false := decide_eq_false (by omega)
   clear c4
   (first | rw [c4b0] | (simp only [i64_w, i32_w]; rw [c4b0]) | skip)
   have H' := Aside0.mk H
   clear H
   go_wp2
   go_meet
   case rel => exact ⟨_, (decide ((l1.length : Int) > 1048576)), (by first | rfl | (simp; done) | (simp [*]; done)), H', ⟨by first | omega | exact Nat.le_refl _⟩, ⟨by repeat (first | (with_reducible first | exact HB.out | apply below_alloc | apply pw_below_drewN | apply below_drew1) | exact HB.out)⟩⟩
  rw [if_pos c4] at H
  have c4b0 : decide (1048576 < (l0.length : Int)) = true := decide_eq_true c4
  have c4b1 : decide (1048576 < l0.length) = true := decide_eq_true (by omega)
  clear c4
  (first | rw [c4b0] | (simp only [i64_w, i32_w]; rw [c4b0]) | skip)
  have H' := Aside0.mk H
  clear H
  go_wp2
  go_meet
  case rel => exact ⟨_, (true), (by first | rfl | (simp; done) | (simp [*]; done)), H', ⟨by first | omega | exact Nat.le_refl _⟩, ⟨by repeat (first | (with_reducible first | exact HB.out | apply below_alloc | apply pw_below_drewN | apply below_drew1) | exact HB.out)⟩⟩
 case rest =>
  clear HC3
  try clear c1
  try clear p2
  try clear c4
  try clear c4b0
  try clear c4b1
  obtain ⟨kq, x20_2, rfl, HA, HJ2, HB⟩ := hcut
  cases kq with
  | zero => exact absurd HA.out (by simp [laws_FnPsalmRead.j0])
  | succ kj2 =>
   have H := HA.out
   clear HA
   simp only [laws_FnPsalmRead.j0] at H
   by_cases c5 : x20_2 = true
   ·subst c5
    have H1 : (some true) = some r := by rw [if_pos rfl] at H; exact H
    clear H
    have H := H1
    clear H1
    obtain rfl := Option.some.inj H
    go_wp2
    go_ret
    exact ⟨by first | rfl | (simp [errW_none, errW_some] <;> rfl) | (simp [*, errW_none, errW_some] <;> rfl), by repeat (first | (with_reducible first | exact HB.out | apply below_alloc | apply pw_below_drewN | apply below_drew1) | exact HB.out)⟩
   replace c5 := Bool.eq_false_iff.mpr c5
   subst c5
   have H1 : ((spec_DrawPsalmRead.f kj2 l0).bind fun bt879 => ((impl_PsalmRead.f kj2 bt879.1 bt879.2.1 bt879.2.2).bind fun t886 => ((spec_PsalmRead.f kj2 bt879.1 bt879.2.1 bt879.2.2).bind fun t887 => (if t886 = t887 then (laws_FnPsalmRead.j1 kj2 l1 bt879.1 bt879.2.1 bt879.2.2 t886 t887 (decide (t886 < 0))) else (laws_FnPsalmRead.j1 kj2 l1 bt879.1 bt879.2.1 bt879.2.2 t886 t887 true))))) = some r := by rw [if_neg (show ¬ (false = true) by decide)] at H; exact H
   clear H
   have H := H1
   clear H1
   replace H := Option.bind_eq_some_iff.mp H
   obtain ⟨⟨t879, t880, t881⟩, A60, H⟩ := H
   replace H : ((impl_PsalmRead.f kj2 t879 t880 t881).bind fun t886 => ((spec_PsalmRead.f kj2 t879 t880 t881).bind fun t887 => (if t886 = t887 then (laws_FnPsalmRead.j1 kj2 l1 t879 t880 t881 t886 t887 (decide (t886 < 0))) else (laws_FnPsalmRead.j1 kj2 l1 t879 t880 t881 t886 t887 true)))) = some r := H
   have A6 := Aside0.mk A60
   clear A60
   replace H := Option.bind_eq_some_iff.mp H
   obtain ⟨t886, A70, H⟩ := H
   replace H : ((spec_PsalmRead.f kj2 t879 t880 t881).bind fun t887 => (if t886 = t887 then (laws_FnPsalmRead.j1 kj2 l1 t879 t880 t881 t886 t887 (decide (t886 < 0))) else (laws_FnPsalmRead.j1 kj2 l1 t879 t880 t881 t886 t887 true))) = some r := H
   have A7 := Aside0.mk A70
   clear A70
   replace H := Option.bind_eq_some_iff.mp H
   obtain ⟨t887, A80, H⟩ := H
   replace H : (if t886 = t887 then (laws_FnPsalmRead.j1 kj2 l1 t879 t880 t881 t886 t887 (decide (t886 < 0))) else (laws_FnPsalmRead.j1 kj2 l1 t879 t880 t881 t886 t887 true)) = some r := H
   have A8 := Aside0.mk A80
   clear A80
   have HC9 := Aside0.mk H
   clear H
   go_upto_region 6 with (first | ((with_reducible refine gate_callee (f := 43) rfl ?_); refine goesL_ (some 23) rfl rfl Tryd.func43 (by kernel_rfl) rfl #[.slice A0 l0.length c0] rfl (by (try simp only [List.map_toArray, List.map_cons, List.map_nil]); first | done | rfl | (simp only [List.length_drop, List.length_take]; rfl)) ?_; (with_reducible refine (spec_DrawPsalmRead.calls kj2 _ _ l0 t879 t880 t881 _ ?side1 ?side2 A6.out).mono ?_); (case side1 => repeat (first | exact (Kd.C_below HR0.out HB.out) | (with_reducible refine Kd.C_alloc ?_ _) | (with_reducible refine Kd.C_drewN ?_ _) | (with_reducible refine Kd.C_drew ?_))); (case side2 => exact HC0.out); rintro e w10 ⟨v882, v884, rfl, ho0, ho1, hb⟩; refine ⟨_, rfl, ?_⟩; have n0_ := Aside0.mk (Kd.S_lower ho0 (below_size (by repeat (first | (with_reducible first | exact HB.out | apply below_alloc | apply pw_below_drewN | apply below_drew1) | exact HB.out)))); have n1_ := Aside0.mk (Kd.R_lower ho1 (below_size (by repeat (first | (with_reducible first | exact HB.out | apply below_alloc | apply pw_below_drewN | apply below_drew1) | exact HB.out)))); have n2_ := Aside0.mk (below_step (by repeat (first | (with_reducible first | exact HB.out | apply below_alloc | apply pw_below_drewN | apply below_drew1) | exact HB.out)) hb); clear HB; have HO883 := n0_; have HO885 := n1_; have HB := n2_; clear n0_ n1_ n2_; (try clear hb); (try clear hb2); (try clear hk); (try clear hi); (try clear ho0); (try clear ho1); obtain ⟨Ao11, co11, eo11⟩ := Kd.S_slice HO883.out; subst eo11; obtain ⟨Ao12, co12, eo12⟩ := Kd.R_slice HO885.out; subst eo12) | ((with_reducible refine gate_callee (f := 44) rfl ?_); refine goesL_ (some 30) rfl rfl Tryd.func44 (by kernel_rfl) rfl #[.slice Ao11 t879.length co11, .string t880, .slice Ao12 t881.length co12] rfl (by (try simp only [List.map_toArray, List.map_cons, List.map_nil]); first | done | rfl | (simp only [List.length_drop, List.length_take]; rfl)) ?_; (with_reducible refine (impl_PsalmRead.calls kj2 _ _ t879 t880 _ _ t881 t886 _ ?side1 ?side2 ?side3 ?side4 ?side5 A7.out).mono ?_); (case side1 => repeat (first | exact (Kd.S_reads' HO883.out).2.2 | (with_reducible refine Kd.C_alloc ?_ _) | (with_reducible refine Kd.C_drewN ?_ _) | (with_reducible refine Kd.C_drew ?_))); (case side2 => exact (Kd.S_reads' HO883.out).2.1); (case side3 => repeat (first | exact (Kd.R_reads' HO885.out).2.2 | (with_reducible refine Kd.C_alloc ?_ _) | (with_reducible refine Kd.C_drewN ?_ _) | (with_reducible refine Kd.C_drew ?_))); (case side4 => exact (Kd.R_reads' HO885.out).2.1); (case side5 => exact GOk.sub (GOk.below HG.out (by repeat (first | (with_reducible first | exact HB.out | apply below_alloc | apply pw_below_drewN | apply below_drew1) | exact HB.out))) (by decide)); rintro e w13 ⟨rfl, hb⟩; refine ⟨_, rfl, ?_⟩; have n0_ := Aside0.mk (Kd.S_below (by (with_reducible repeat (first | apply Kd.S_alloc | apply Kd.S_drewN | apply Kd.S_drew)); exact HO883.out) hb); have n1_ := Aside0.mk (Kd.R_below (by (with_reducible repeat (first | apply Kd.R_alloc | apply Kd.R_drewN | apply Kd.R_drew)); exact HO885.out) hb); have n2_ := Aside0.mk (below_step (by repeat (first | (with_reducible first | exact HB.out | apply below_alloc | apply pw_below_drewN | apply below_drew1) | exact HB.out)) hb); clear HO883; clear HO885; clear HB; have HO883 := n0_; have HO885 := n1_; have HB := n2_; clear n0_ n1_ n2_; (try clear hb); (try clear hb2); (try clear hk); (try clear hi)) | ((with_reducible refine gate_callee (f := 45) rfl ?_); refine goesL_ (some 34) rfl rfl Tryd.func45 (by kernel_rfl) rfl #[.slice Ao11 t879.length co11, .string t880, .slice Ao12 t881.length co12] rfl (by (try simp only [List.map_toArray, List.map_cons, List.map_nil]); first | done | rfl | (simp only [List.length_drop, List.length_take]; rfl)) ?_; (with_reducible refine (spec_PsalmRead.calls kj2 _ _ t879 t880 _ _ t881 t887 _ ?side1 ?side2 ?side3 ?side4 A8.out).mono ?_); (case side1 => repeat (first | exact (Kd.S_reads' HO883.out).2.2 | (with_reducible refine Kd.C_alloc ?_ _) | (with_reducible refine Kd.C_drewN ?_ _) | (with_reducible refine Kd.C_drew ?_))); (case side2 => exact (Kd.S_reads' HO883.out).2.1); (case side3 => repeat (first | exact (Kd.R_reads' HO885.out).2.2 | (with_reducible refine Kd.C_alloc ?_ _) | (with_reducible refine Kd.C_drewN ?_ _) | (with_reducible refine Kd.C_drew ?_))); (case side4 => exact (Kd.R_reads' HO885.out).2.1); rintro e w14 ⟨rfl, hb⟩; refine ⟨_, rfl, ?_⟩; have n0_ := Aside0.mk (Kd.S_below (by (with_reducible repeat (first | apply Kd.S_alloc | apply Kd.S_drewN | apply Kd.S_drew)); exact HO883.out) hb); have n1_ := Aside0.mk (Kd.R_below (by (with_reducible repeat (first | apply Kd.R_alloc | apply Kd.R_drewN | apply Kd.R_drew)); exact HO885.out) hb); have n2_ := Aside0.mk (below_step (by repeat (first | (with_reducible first | exact HB.out | apply below_alloc | apply pw_below_drewN | apply below_drew1) | exact HB.out)) hb); clear HO883; clear HO885; clear HB; have HO883 := n0_; have HO885 := n1_; have HB := n2_; clear n0_ n1_ n2_; (try clear hb); (try clear hb2); (try clear hk); (try clear hi)))
   (try simp only [Act.put, List.setIfInBounds_toArray, List.set_cons_zero, List.set_cons_succ])
   go_cut [41] (fun v41 wc => ∃ (kq : Nat) (x41_8 : Bool), v41 = .bool x41_8 ∧ Aside0 (laws_FnPsalmRead.j1 kq l1 t879 t880 t881 t886 t887 x41_8 = some r) ∧ Aside0 (kq ≤ kj2) ∧ Aside0 (Kd.S k27 27 wc w.heap.size (fun k_ => some k_ ≠ ((.slice Ao12 t881.length co12) : Value).ownBlock) (.slice Ao11 t879.length co11) t879) ∧ Aside0 (Kd.R k25 25 wc w.heap.size (fun _ => True) (.slice Ao12 t881.length co12) t881) ∧ Aside0 (Below w.heap.size w wc))
   case first =>
    have H := HC9.out
    clear HC9
    by_cases c15 : t886 = t887
    rotate_left
    ·rw [if_neg c15] at H
     have c15b0 : (t886 == t887) = false := beq_eq_false_iff_ne.mpr c15
     have c15b1 : (t886 != t887) = true := bne_iff_ne.mpr c15
     (first | rw [c15b0] | (simp only [i64_w, i32_w]; rw [c15b0]) | skip)
     have H' := Aside0.mk H
     clear H
     go_wp2
     go_meet
     case rel => exact ⟨_, (true), (by first | rfl | (simp; done) | (simp [*]; done)), H', ⟨by have := HJ2.out; first | omega | exact Nat.le_refl _⟩, ⟨by (with_reducible repeat (first | apply Kd.S_alloc | apply Kd.S_drewN | apply Kd.S_drew)); exact HO883.out⟩, ⟨by (with_reducible repeat (first | apply Kd.R_alloc | apply Kd.R_drewN | apply Kd.R_drew)); exact HO885.out⟩, ⟨by repeat (first | (with_reducible first | exact HB.out | apply below_alloc | apply pw_below_drewN | apply below_drew1) | exact HB.out)⟩⟩
    rw [if_pos c15] at H
    have c15b0 : (t886 == t887) = true := beq_iff_eq.mpr c15
    have c15b1 : (t886 != t887) = false := bne_eq_false_iff_eq.mpr c15
    clear c15
    (first | rw [c15b0] | (simp only [i64_w, i32_w]; rw [c15b0]) | skip)
    have H' := Aside0.mk H
    clear H
    go_wp2
    go_meet
    case rel => exact ⟨_, (decide (t886 < 0)), (by first | rfl | (simp; done) | (simp [*]; done)), H', ⟨by have := HJ2.out; first | omega | exact Nat.le_refl _⟩, ⟨by (with_reducible repeat (first | apply Kd.S_alloc | apply Kd.S_drewN | apply Kd.S_drew)); exact HO883.out⟩, ⟨by (with_reducible repeat (first | apply Kd.R_alloc | apply Kd.R_drewN | apply Kd.R_drew)); exact HO885.out⟩, ⟨by repeat (first | (with_reducible first | exact HB.out | apply below_alloc | apply pw_below_drewN | apply below_drew1) | exact HB.out)⟩⟩
   case rest =>
    clear HC9
    try clear c1
    try clear p2
    try clear c4
    try clear c4b0
    try clear c4b1
    try clear c5
    try clear c11
    try clear c15
    try clear c15b0
    try clear c15b1
    try clear p2
    obtain ⟨kq, x41_8, rfl, HA, HJ8, HO_5, HO_7, HB⟩ := hcut
    cases kq with
    | zero => exact absurd HA.out (by simp [laws_FnPsalmRead.j1])
    | succ kj8 =>
     have H := HA.out
     clear HA
     simp only [laws_FnPsalmRead.j1] at H
     by_cases c16 : x41_8 = true
     ·subst c16
      have H1 : (some (t886 == t887)) = some r := by rw [if_pos rfl] at H; exact H
      clear H
      have H := H1
      clear H1
      obtain rfl := Option.some.inj H
      go_wp2
      go_ret
      exact ⟨by first | rfl | (simp [errW_none, errW_some] <;> rfl) | (simp [*, errW_none, errW_some] <;> rfl), by repeat (first | (with_reducible first | exact HB.out | apply below_alloc | apply pw_below_drewN | apply below_drew1) | exact HB.out)⟩
     replace c16 := Bool.eq_false_iff.mpr c16
     subst c16
     have H1 : (if t886 > 0 then (if (t881.length : Int) < 24 then ((some (([] : List (S25)) : List (S25))).bind fun y888 => (if y888.length + t881.length < 8796093022208 then ((some (y888 ++ t881 : List (S25))).bind fun y891 => (if 0 < (t881.length : Int) then ((some (([(⟨(rd_T25 t881 0).f0, (rd_T25 t881 0).f1⟩ : S25)] : List (S25)) : List (S25))).bind fun y895 => (if y891.length + y895.length < 8796093022208 then ((impl_PsalmRead.f kj8 t879 t880 (y891 ++ y895)).bind fun t901 => (laws_FnPsalmRead.j2 kj8 l1 t879 t880 t886 (t901 != 0))) else (none))) else (none))) else (none))) else (laws_FnPsalmRead.j2 kj8 l1 t879 t880 t886 false)) else (laws_FnPsalmRead.j2 kj8 l1 t879 t880 t886 false)) = some r := by rw [if_neg (show ¬ (false = true) by decide)] at H; exact H
     clear H
     have H := H1
     clear H1
     have HC17 := Aside0.mk H
     clear H
     go_upto_region 8 with (fail)
     go_cut [65] (fun v65 wc => ∃ (kq : Nat) (x65_16 : Bool), v65 = .bool x65_16 ∧ Aside0 (laws_FnPsalmRead.j2 kq l1 t879 t880 t886 x65_16 = some r) ∧ Aside0 (kq ≤ kj8) ∧ Aside0 (Kd.S k27 27 wc w.heap.size (fun _ => True) (.slice Ao11 t879.length co11) t879) ∧ Aside0 (Below w.heap.size w wc))
     case first =>
      have H := HC17.out
      clear HC17
      by_cases c18 : t886 > 0
      rotate_left
      ·rw [if_neg c18] at H
       have c18b0 : decide (0 < t886) = false := decide_eq_false c18
       clear c18
       (first | rw [c18b0] | (simp only [i64_w, i32_w]; rw [c18b0]) | skip)
       have H' := Aside0.mk H
       clear H
       try go_wp2
       have n0_ := Aside0.mk (Kd.S_drew HO_5.out)
       have n1_ := Aside0.mk (Kd.R_drew HO_7.out)
       have n2_ := Aside0.mk (below_drew1 HB.out)
       clear HO_5
       clear HO_7
       clear HB
       have HO_5 := n0_
       have HO_7 := n1_
       have HB := n2_
       clear n0_ n1_ n2_
       refine start_ (n := 21) (S := fun w' => True) (ds := []) #[false, false, false, false, false, false, false, false, false, false, false, false, false, false, false, false, false, false, false, false, false] (by kernel_rfl) rfl rfl trivial (fun hHeld => ?_); refine with_tabW laws_FnPsalmRead.tab8 laws_FnPsalmRead.bits8 (fun HT_ HW_ => ?_)
       generalize wc.drew = w36 at HO_5 HO_7 HB hHeld ⊢
       refine pure_ (i := 0) (N := some 45) (v := ?_) (a' := ?_) #[true, false, false, false, false, false, false, false, false, false, false, false, false, false, false, false, false, false, false, false, false] rfl rfl (any_of HT_.out (by kernel_rfl)) (fun _ _ _ h => h) (Or.inl ⟨by rfl, ?_⟩) ?_ ?_
       rotate_left
       ·intro w'
        go_simp
        with_reducible rfl
       rotate_left
       ·simp only [Act.put, List.setIfInBounds_toArray, List.set_cons_zero, List.set_cons_succ, i64_w, i32_w]
        rfl
       refine pure_ (i := 1) (N := some 46) (v := ?_) (a' := ?_) #[true, true, false, false, false, false, false, false, false, false, false, false, false, false, false, false, false, false, false, false, false] rfl rfl (any_of HT_.out (by kernel_rfl)) (fun _ _ _ h => h) (Or.inl ⟨by rfl, ?_⟩) ?_ ?_
       rotate_left
       ·intro w'
        go_simp
        with_reducible rfl
       rotate_left
       ·simp only [Act.put, List.setIfInBounds_toArray, List.set_cons_zero, List.set_cons_succ, i64_w, i32_w]
        rfl
       refine pure_ (i := 2) (N := some 47) (v := ?_) (a' := ?_) #[true, true, true, false, false, false, false, false, false, false, false, false, false, false, false, false, false, false, false, false, false] rfl rfl (any_of HT_.out (by kernel_rfl)) (fun _ _ _ h => h) (Or.inl ⟨by rfl, ?_⟩) ?_ ?_
       rotate_left
       ·intro w'
        go_simp
        with_reducible rfl
       rotate_left
       ·simp only [Act.put, List.setIfInBounds_toArray, List.set_cons_zero, List.set_cons_succ, i64_w, i32_w]
        rfl
       refine pure_ (i := 3) (N := some 48) (v := undef) (a' := ?_) #[true, true, true, true, false, false, false, false, false, false, false, false, false, false, false, false, false, false, false, false, false] rfl rfl (any_of HT_.out (by kernel_rfl)) (fun _ _ _ h => h) (Or.inr ⟨by rfl, rfl⟩) ?_ ?_
       rotate_left
       ·simp only [Act.put, List.setIfInBounds_toArray, List.set_cons_zero, List.set_cons_succ, i64_w, i32_w]
        rfl
       refine pure_ (i := 4) (N := some 49) (v := undef) (a' := ?_) #[true, true, true, true, true, false, false, false, false, false, false, false, false, false, false, false, false, false, false, false, false] rfl rfl (any_of HT_.out (by kernel_rfl)) (fun _ _ _ h => h) (Or.inr ⟨by rfl, rfl⟩) ?_ ?_
       rotate_left
       ·simp only [Act.put, List.setIfInBounds_toArray, List.set_cons_zero, List.set_cons_succ, i64_w, i32_w]
        rfl
       refine pure_ (i := 5) (N := some 50) (v := undef) (a' := ?_) #[true, true, true, true, true, true, false, false, false, false, false, false, false, false, false, false, false, false, false, false, false] rfl rfl (any_of HT_.out (by kernel_rfl)) (fun _ _ _ h => h) (Or.inr ⟨by rfl, rfl⟩) ?_ ?_
       rotate_left
       ·simp only [Act.put, List.setIfInBounds_toArray, List.set_cons_zero, List.set_cons_succ, i64_w, i32_w]
        rfl
       refine pure_ (i := 6) (N := some 51) (v := ?_) (a' := ?_) #[true, true, true, true, true, true, true, false, false, false, false, false, false, false, false, false, false, false, false, false, false] rfl rfl (any_of HT_.out (by kernel_rfl)) (fun _ _ _ h => h) (Or.inl ⟨by rfl, ?_⟩) ?_ ?_
       rotate_left
       ·intro w'
        go_simp
        with_reducible rfl
       rotate_left
       ·simp only [Act.put, List.setIfInBounds_toArray, List.set_cons_zero, List.set_cons_succ, i64_w, i32_w]
        rfl
       refine pure_ (i := 7) (N := some 52) (v := ?_) (a' := ?_) #[true, true, true, true, true, true, true, true, false, false, false, false, false, false, false, false, false, false, false, false, false] rfl rfl (any_of HT_.out (by kernel_rfl)) (fun _ _ _ h => h) (Or.inl ⟨by rfl, ?_⟩) ?_ ?_
       rotate_left
       ·intro w'
        go_simp
        with_reducible rfl
       rotate_left
       ·simp only [Act.put, List.setIfInBounds_toArray, List.set_cons_zero, List.set_cons_succ, i64_w, i32_w]
        rfl
       refine pure_ (i := 8) (N := some 53) (v := undef) (a' := ?_) #[true, true, true, true, true, true, true, true, true, false, false, false, false, false, false, false, false, false, false, false, false] rfl rfl (any_of HT_.out (by kernel_rfl)) (fun _ _ _ h => h) (Or.inr ⟨by rfl, rfl⟩) ?_ ?_
       rotate_left
       ·simp only [Act.put, List.setIfInBounds_toArray, List.set_cons_zero, List.set_cons_succ, i64_w, i32_w]
        rfl
       refine pure_ (i := 9) (N := some 54) (v := undef) (a' := ?_) #[true, true, true, true, true, true, true, true, true, true, false, false, false, false, false, false, false, false, false, false, false] rfl rfl (any_of HT_.out (by kernel_rfl)) (fun _ _ _ h => h) (Or.inr ⟨by rfl, rfl⟩) ?_ ?_
       rotate_left
       ·simp only [Act.put, List.setIfInBounds_toArray, List.set_cons_zero, List.set_cons_succ, i64_w, i32_w]
        rfl
       refine pure_ (i := 10) (N := some 55) (v := undef) (a' := ?_) #[true, true, true, true, true, true, true, true, true, true, true, false, false, false, false, false, false, false, false, false, false] rfl rfl (any_of HT_.out (by kernel_rfl)) (fun _ _ _ h => h) (Or.inr ⟨by rfl, rfl⟩) ?_ ?_
       rotate_left
       ·simp only [Act.put, List.setIfInBounds_toArray, List.set_cons_zero, List.set_cons_succ, i64_w, i32_w]
        rfl
       refine pure_ (i := 11) (N := some 56) (v := undef) (a' := ?_) #[true, true, true, true, true, true, true, true, true, true, true, true, false, false, false, false, false, false, false, false, false] rfl rfl (any_of HT_.out (by kernel_rfl)) (fun _ _ _ h => h) (Or.inr ⟨by rfl, rfl⟩) ?_ ?_
       rotate_left
       ·simp only [Act.put, List.setIfInBounds_toArray, List.set_cons_zero, List.set_cons_succ, i64_w, i32_w]
        rfl
       refine pure_ (i := 12) (N := some 57) (v := undef) (a' := ?_) #[true, true, true, true, true, true, true, true, true, true, true, true, true, false, false, false, false, false, false, false, false] rfl rfl (any_of HT_.out (by kernel_rfl)) (fun _ _ _ h => h) (Or.inr ⟨by rfl, rfl⟩) ?_ ?_
       rotate_left
       ·simp only [Act.put, List.setIfInBounds_toArray, List.set_cons_zero, List.set_cons_succ, i64_w, i32_w]
        rfl
       refine pure_ (i := 13) (N := some 58) (v := undef) (a' := ?_) #[true, true, true, true, true, true, true, true, true, true, true, true, true, true, false, false, false, false, false, false, false] rfl rfl (any_of HT_.out (by kernel_rfl)) (fun _ _ _ h => h) (Or.inr ⟨by rfl, rfl⟩) ?_ ?_
       rotate_left
       ·simp only [Act.put, List.setIfInBounds_toArray, List.set_cons_zero, List.set_cons_succ, i64_w, i32_w]
        rfl
       refine pure_ (i := 14) (N := some 59) (v := undef) (a' := ?_) #[true, true, true, true, true, true, true, true, true, true, true, true, true, true, true, false, false, false, false, false, false] rfl rfl (any_of HT_.out (by kernel_rfl)) (fun _ _ _ h => h) (Or.inr ⟨by rfl, rfl⟩) ?_ ?_
       rotate_left
       ·simp only [Act.put, List.setIfInBounds_toArray, List.set_cons_zero, List.set_cons_succ, i64_w, i32_w]
        rfl
       refine pure_ (i := 15) (N := some 60) (v := undef) (a' := ?_) #[true, true, true, true, true, true, true, true, true, true, true, true, true, true, true, true, false, false, false, false, false] rfl rfl (any_of HT_.out (by kernel_rfl)) (fun _ _ _ h => h) (Or.inr ⟨by rfl, rfl⟩) ?_ ?_
       rotate_left
       ·simp only [Act.put, List.setIfInBounds_toArray, List.set_cons_zero, List.set_cons_succ, i64_w, i32_w]
        rfl
       refine pure_ (i := 16) (N := some 61) (v := undef) (a' := ?_) #[true, true, true, true, true, true, true, true, true, true, true, true, true, true, true, true, true, false, false, false, false] rfl rfl (any_of HT_.out (by kernel_rfl)) (fun _ _ _ h => h) (Or.inr ⟨by rfl, rfl⟩) ?_ ?_
       rotate_left
       ·simp only [Act.put, List.setIfInBounds_toArray, List.set_cons_zero, List.set_cons_succ, i64_w, i32_w]
        rfl
       refine pure_ (i := 17) (N := some 62) (v := undef) (a' := ?_) #[true, true, true, true, true, true, true, true, true, true, true, true, true, true, true, true, true, true, false, false, false] rfl rfl (any_of HT_.out (by kernel_rfl)) (fun _ _ _ h => h) (Or.inr ⟨by rfl, rfl⟩) ?_ ?_
       rotate_left
       ·simp only [Act.put, List.setIfInBounds_toArray, List.set_cons_zero, List.set_cons_succ, i64_w, i32_w]
        rfl
       refine pure_ (i := 18) (N := some 63) (v := undef) (a' := ?_) #[true, true, true, true, true, true, true, true, true, true, true, true, true, true, true, true, true, true, true, false, false] rfl rfl (any_of HT_.out (by kernel_rfl)) (fun _ _ _ h => h) (Or.inr ⟨by rfl, rfl⟩) ?_ ?_
       rotate_left
       ·simp only [Act.put, List.setIfInBounds_toArray, List.set_cons_zero, List.set_cons_succ, i64_w, i32_w]
        rfl
       refine pure_ (i := 19) (N := some 64) (v := undef) (a' := ?_) #[true, true, true, true, true, true, true, true, true, true, true, true, true, true, true, true, true, true, true, true, false] rfl rfl (any_of HT_.out (by kernel_rfl)) (fun _ _ _ h => h) (Or.inr ⟨by rfl, rfl⟩) ?_ ?_
       rotate_left
       ·simp only [Act.put, List.setIfInBounds_toArray, List.set_cons_zero, List.set_cons_succ, i64_w, i32_w]
        rfl
       refine pure_ (i := 20) (N := some 65) (v := ?_) (a' := ?_) #[true, true, true, true, true, true, true, true, true, true, true, true, true, true, true, true, true, true, true, true, true] rfl rfl (any_of HT_.out (by kernel_rfl)) (fun _ _ _ h => h) (Or.inl ⟨by rfl, ?_⟩) ?_ ?_
       rotate_left
       ·intro w'
        go_simp
        with_reducible rfl
       rotate_left
       ·simp only [Act.put, List.setIfInBounds_toArray, List.set_cons_zero, List.set_cons_succ, i64_w, i32_w]
        rfl
       refine done_ (done_of HT_.out (by kernel_rfl)) ?_
       try go_wp2
       go_meet
       case rel => exact ⟨_, (false), (by first | rfl | (simp; done) | (simp [*]; done)), H', ⟨by have := HJ2.out; have := HJ8.out; first | omega | exact Nat.le_refl _⟩, ⟨by (with_reducible repeat (first | apply Kd.S_alloc | apply Kd.S_drewN | apply Kd.S_drew)); exact Kd.S_mono HO_5.out (fun _ hk => trivial)⟩, ⟨by repeat (first | (with_reducible first | exact HB.out | apply below_alloc | apply pw_below_drewN | apply below_drew1) | exact HB.out)⟩⟩
      rw [if_pos c18] at H
      have c18b0 : decide (0 < t886) = true := decide_eq_true c18
      clear c18
      (first | rw [c18b0] | (simp only [i64_w, i32_w]; rw [c18b0]) | skip)
      by_cases c19 : (t881.length : Int) < 24
      rotate_left
      ·rw [if_neg c19] at H
       have c19b0 : decide ((t881.length : Int) < 24) = false := decide_eq_false c19
       have c19b1 : decide (t881.length < 24) = false := decide_eq_false (by omega)
       clear c19
       have H' := Aside0.mk H
       clear H
       try go_wp2
       have n0_ := Aside0.mk (Kd.S_drew HO_5.out)
       have n1_ := Aside0.mk (Kd.R_drew HO_7.out)
       have n2_ := Aside0.mk (below_drew1 HB.out)
       clear HO_5
       clear HO_7
       clear HB
       have HO_5 := n0_
       have HO_7 := n1_
       have HB := n2_
       clear n0_ n1_ n2_
       refine start_ (n := 21) (S := fun w' => True) (ds := []) #[false, false, false, false, false, false, false, false, false, false, false, false, false, false, false, false, false, false, false, false, false] (by kernel_rfl) rfl rfl trivial (fun hHeld => ?_); refine with_tabW laws_FnPsalmRead.tab8 laws_FnPsalmRead.bits8 (fun HT_ HW_ => ?_)
       generalize wc.drew = w35 at HO_5 HO_7 HB hHeld ⊢
       refine pure_ (i := 0) (N := some 45) (v := ?_) (a' := ?_) #[true, false, false, false, false, false, false, false, false, false, false, false, false, false, false, false, false, false, false, false, false] rfl rfl (any_of HT_.out (by kernel_rfl)) (fun _ _ _ h => h) (Or.inl ⟨by rfl, ?_⟩) ?_ ?_
       rotate_left
       ·intro w'
        go_simp
        with_reducible rfl
       rotate_left
       ·simp only [Act.put, List.setIfInBounds_toArray, List.set_cons_zero, List.set_cons_succ, i64_w, i32_w]
        rfl
       refine pure_ (i := 1) (N := some 46) (v := ?_) (a' := ?_) #[true, true, false, false, false, false, false, false, false, false, false, false, false, false, false, false, false, false, false, false, false] rfl rfl (any_of HT_.out (by kernel_rfl)) (fun _ _ _ h => h) (Or.inl ⟨by rfl, ?_⟩) ?_ ?_
       rotate_left
       ·intro w'
        go_simp
        with_reducible rfl
       rotate_left
       ·simp only [Act.put, List.setIfInBounds_toArray, List.set_cons_zero, List.set_cons_succ, i64_w, i32_w]
        rfl
       refine pure_ (i := 2) (N := some 47) (v := ?_) (a' := ?_) #[true, true, true, false, false, false, false, false, false, false, false, false, false, false, false, false, false, false, false, false, false] rfl rfl (any_of HT_.out (by kernel_rfl)) (fun _ _ _ h => h) (Or.inl ⟨by rfl, ?_⟩) ?_ ?_
       rotate_left
       ·intro w'
        go_simp
        with_reducible rfl
       rotate_left
       ·simp only [Act.put, List.setIfInBounds_toArray, List.set_cons_zero, List.set_cons_succ, i64_w, i32_w]
        rfl
       refine pure_ (i := 3) (N := some 48) (v := ?_) (a' := ?_) #[true, true, true, true, false, false, false, false, false, false, false, false, false, false, false, false, false, false, false, false, false] rfl rfl (any_of HT_.out (by kernel_rfl)) (fun _ _ _ h => h) (Or.inl ⟨by rfl, ?_⟩) ?_ ?_
       rotate_left
       ·intro w'
        go_simp
        with_reducible rfl
       rotate_left
       ·simp only [Act.put, List.setIfInBounds_toArray, List.set_cons_zero, List.set_cons_succ, i64_w, i32_w]
        rfl
       refine pure_ (i := 4) (N := some 49) (v := ?_) (a' := ?_) #[true, true, true, true, true, false, false, false, false, false, false, false, false, false, false, false, false, false, false, false, false] rfl rfl (any_of HT_.out (by kernel_rfl)) (fun _ _ _ h => h) (Or.inl ⟨by rfl, ?_⟩) ?_ ?_
       rotate_left
       ·intro w'
        go_simp
        with_reducible rfl
       rotate_left
       ·simp only [Act.put, List.setIfInBounds_toArray, List.set_cons_zero, List.set_cons_succ, i64_w, i32_w]
        rfl
       refine pure_ (i := 5) (N := some 50) (v := ?_) (a' := ?_) #[true, true, true, true, true, true, false, false, false, false, false, false, false, false, false, false, false, false, false, false, false] rfl rfl (any_of HT_.out (by kernel_rfl)) (fun _ _ _ h => h) (Or.inl ⟨by rfl, ?_⟩) ?_ ?_
       rotate_left
       ·intro w'
        go_simp
        with_reducible rfl
       rotate_left
       ·simp only [Act.put, List.setIfInBounds_toArray, List.set_cons_zero, List.set_cons_succ, i64_w, i32_w]
        rfl
       refine pure_ (i := 6) (N := some 51) (v := ?_) (a' := ?_) #[true, true, true, true, true, true, true, false, false, false, false, false, false, false, false, false, false, false, false, false, false] rfl rfl (any_of HT_.out (by kernel_rfl)) (fun _ _ _ h => h) (Or.inl ⟨by rfl, ?_⟩) ?_ ?_
       rotate_left
       ·intro w'
        go_simp
        with_reducible rfl
       rotate_left
       ·simp only [Act.put, List.setIfInBounds_toArray, List.set_cons_zero, List.set_cons_succ, i64_w, i32_w]
        rfl
       refine pure_ (i := 7) (N := some 52) (v := ?_) (a' := ?_) #[true, true, true, true, true, true, true, true, false, false, false, false, false, false, false, false, false, false, false, false, false] rfl rfl (any_of HT_.out (by kernel_rfl)) (fun _ _ _ h => h) (Or.inl ⟨by rfl, ?_⟩) ?_ ?_
       rotate_left
       ·intro w'
        go_simp
        with_reducible rfl
       rotate_left
       ·simp only [Act.put, List.setIfInBounds_toArray, List.set_cons_zero, List.set_cons_succ, i64_w, i32_w]
        rfl
       refine pure_ (i := 8) (N := some 53) (v := undef) (a' := ?_) #[true, true, true, true, true, true, true, true, true, false, false, false, false, false, false, false, false, false, false, false, false] rfl rfl (any_of HT_.out (by kernel_rfl)) (fun _ _ _ h => h) (Or.inr ⟨by rfl, rfl⟩) ?_ ?_
       rotate_left
       ·simp only [Act.put, List.setIfInBounds_toArray, List.set_cons_zero, List.set_cons_succ, i64_w, i32_w]
        rfl
       refine pure_ (i := 9) (N := some 54) (v := undef) (a' := ?_) #[true, true, true, true, true, true, true, true, true, true, false, false, false, false, false, false, false, false, false, false, false] rfl rfl (any_of HT_.out (by kernel_rfl)) (fun _ _ _ h => h) (Or.inr ⟨by rfl, rfl⟩) ?_ ?_
       rotate_left
       ·simp only [Act.put, List.setIfInBounds_toArray, List.set_cons_zero, List.set_cons_succ, i64_w, i32_w]
        rfl
       refine pure_ (i := 10) (N := some 55) (v := undef) (a' := ?_) #[true, true, true, true, true, true, true, true, true, true, true, false, false, false, false, false, false, false, false, false, false] rfl rfl (any_of HT_.out (by kernel_rfl)) (fun _ _ _ h => h) (Or.inr ⟨by rfl, rfl⟩) ?_ ?_
       rotate_left
       ·simp only [Act.put, List.setIfInBounds_toArray, List.set_cons_zero, List.set_cons_succ, i64_w, i32_w]
        rfl
       refine pure_ (i := 11) (N := some 56) (v := undef) (a' := ?_) #[true, true, true, true, true, true, true, true, true, true, true, true, false, false, false, false, false, false, false, false, false] rfl rfl (any_of HT_.out (by kernel_rfl)) (fun _ _ _ h => h) (Or.inr ⟨by rfl, rfl⟩) ?_ ?_
       rotate_left
       ·simp only [Act.put, List.setIfInBounds_toArray, List.set_cons_zero, List.set_cons_succ, i64_w, i32_w]
        rfl
       refine pure_ (i := 12) (N := some 57) (v := undef) (a' := ?_) #[true, true, true, true, true, true, true, true, true, true, true, true, true, false, false, false, false, false, false, false, false] rfl rfl (any_of HT_.out (by kernel_rfl)) (fun _ _ _ h => h) (Or.inr ⟨by rfl, rfl⟩) ?_ ?_
       rotate_left
       ·simp only [Act.put, List.setIfInBounds_toArray, List.set_cons_zero, List.set_cons_succ, i64_w, i32_w]
        rfl
       refine pure_ (i := 13) (N := some 58) (v := undef) (a' := ?_) #[true, true, true, true, true, true, true, true, true, true, true, true, true, true, false, false, false, false, false, false, false] rfl rfl (any_of HT_.out (by kernel_rfl)) (fun _ _ _ h => h) (Or.inr ⟨by rfl, rfl⟩) ?_ ?_
       rotate_left
       ·simp only [Act.put, List.setIfInBounds_toArray, List.set_cons_zero, List.set_cons_succ, i64_w, i32_w]
        rfl
       refine pure_ (i := 14) (N := some 59) (v := undef) (a' := ?_) #[true, true, true, true, true, true, true, true, true, true, true, true, true, true, true, false, false, false, false, false, false] rfl rfl (any_of HT_.out (by kernel_rfl)) (fun _ _ _ h => h) (Or.inr ⟨by rfl, rfl⟩) ?_ ?_
       rotate_left
       ·simp only [Act.put, List.setIfInBounds_toArray, List.set_cons_zero, List.set_cons_succ, i64_w, i32_w]
        rfl
       refine pure_ (i := 15) (N := some 60) (v := undef) (a' := ?_) #[true, true, true, true, true, true, true, true, true, true, true, true, true, true, true, true, false, false, false, false, false] rfl rfl (any_of HT_.out (by kernel_rfl)) (fun _ _ _ h => h) (Or.inr ⟨by rfl, rfl⟩) ?_ ?_
       rotate_left
       ·simp only [Act.put, List.setIfInBounds_toArray, List.set_cons_zero, List.set_cons_succ, i64_w, i32_w]
        rfl
       refine pure_ (i := 16) (N := some 61) (v := undef) (a' := ?_) #[true, true, true, true, true, true, true, true, true, true, true, true, true, true, true, true, true, false, false, false, false] rfl rfl (any_of HT_.out (by kernel_rfl)) (fun _ _ _ h => h) (Or.inr ⟨by rfl, rfl⟩) ?_ ?_
       rotate_left
       ·simp only [Act.put, List.setIfInBounds_toArray, List.set_cons_zero, List.set_cons_succ, i64_w, i32_w]
        rfl
       refine pure_ (i := 17) (N := some 62) (v := undef) (a' := ?_) #[true, true, true, true, true, true, true, true, true, true, true, true, true, true, true, true, true, true, false, false, false] rfl rfl (any_of HT_.out (by kernel_rfl)) (fun _ _ _ h => h) (Or.inr ⟨by rfl, rfl⟩) ?_ ?_
       rotate_left
       ·simp only [Act.put, List.setIfInBounds_toArray, List.set_cons_zero, List.set_cons_succ, i64_w, i32_w]
        rfl
       refine pure_ (i := 18) (N := some 63) (v := undef) (a' := ?_) #[true, true, true, true, true, true, true, true, true, true, true, true, true, true, true, true, true, true, true, false, false] rfl rfl (any_of HT_.out (by kernel_rfl)) (fun _ _ _ h => h) (Or.inr ⟨by rfl, rfl⟩) ?_ ?_
       rotate_left
       ·simp only [Act.put, List.setIfInBounds_toArray, List.set_cons_zero, List.set_cons_succ, i64_w, i32_w]
        rfl
       refine pure_ (i := 19) (N := some 64) (v := undef) (a' := ?_) #[true, true, true, true, true, true, true, true, true, true, true, true, true, true, true, true, true, true, true, true, false] rfl rfl (any_of HT_.out (by kernel_rfl)) (fun _ _ _ h => h) (Or.inr ⟨by rfl, rfl⟩) ?_ ?_
       rotate_left
       ·simp only [Act.put, List.setIfInBounds_toArray, List.set_cons_zero, List.set_cons_succ, i64_w, i32_w]
        rfl
       refine pure_ (i := 20) (N := some 65) (v := ?_) (a' := ?_) #[true, true, true, true, true, true, true, true, true, true, true, true, true, true, true, true, true, true, true, true, true] rfl rfl (any_of HT_.out (by kernel_rfl)) (fun _ _ _ h => h) (Or.inl ⟨by rfl, ?_⟩) ?_ ?_
       rotate_left
       ·intro w'
        go_simp
        with_reducible rfl
       rotate_left
       ·simp only [Act.put, List.setIfInBounds_toArray, List.set_cons_zero, List.set_cons_succ, i64_w, i32_w]
        rfl
       refine done_ (done_of HT_.out (by kernel_rfl)) ?_
       try go_wp2
       go_meet
       case rel => exact ⟨_, (false), (by first | rfl | (simp; done) | (simp [*]; done)), H', ⟨by have := HJ2.out; have := HJ8.out; first | omega | exact Nat.le_refl _⟩, ⟨by (with_reducible repeat (first | apply Kd.S_alloc | apply Kd.S_drewN | apply Kd.S_drew)); exact Kd.S_mono HO_5.out (fun _ hk => trivial)⟩, ⟨by repeat (first | (with_reducible first | exact HB.out | apply below_alloc | apply pw_below_drewN | apply below_drew1) | exact HB.out)⟩⟩
      rw [if_pos c19] at H
      have c19b0 : decide ((t881.length : Int) < 24) = true := decide_eq_true c19
      have c19b1 : decide (t881.length < 24) = true := decide_eq_true (by omega)
      clear c19
      obtain ⟨y888, hy888⟩ : ∃ y_ : List (S25), y_ = (([] : List (S25))) := ⟨_, rfl⟩
      replace H : (if y888.length + t881.length < 8796093022208 then ((some (y888 ++ t881 : List (S25))).bind fun y891 => (if 0 < (t881.length : Int) then ((some (([(⟨(rd_T25 t881 0).f0, (rd_T25 t881 0).f1⟩ : S25)] : List (S25)) : List (S25))).bind fun y895 => (if y891.length + y895.length < 8796093022208 then ((impl_PsalmRead.f kj8 t879 t880 (y891 ++ y895)).bind fun t901 => (laws_FnPsalmRead.j2 kj8 l1 t879 t880 t886 (t901 != 0))) else (none))) else (none))) else (none)) = some r := by first | (rw [hy888]; with_reducible exact H) | (have H2_ := (Option.bind_some _ _).symm.trans H; rw [hy888]; with_reducible exact H2_) | (have H2_ := (Option.bind_some _ _).symm.trans H; with_reducible exact H2_) | with_reducible exact H | (rw [hy888]; exact H) | exact H
      have Ny888 := Aside0.mk hy888
      clear hy888
      by_cases c20 : y888.length + t881.length < 8796093022208
      rotate_left
      ·rw [if_neg c20] at H
       exact absurd H (by simp)
      rw [if_pos c20] at H
      have LMc20 := Aside0.mk c20
      clear c20
      obtain ⟨y891, hy891⟩ : ∃ y_ : List (S25), y_ = (y888 ++ t881) := ⟨_, rfl⟩
      replace H : (if 0 < (t881.length : Int) then ((some (([(⟨(rd_T25 t881 0).f0, (rd_T25 t881 0).f1⟩ : S25)] : List (S25)) : List (S25))).bind fun y895 => (if y891.length + y895.length < 8796093022208 then ((impl_PsalmRead.f kj8 t879 t880 (y891 ++ y895)).bind fun t901 => (laws_FnPsalmRead.j2 kj8 l1 t879 t880 t886 (t901 != 0))) else (none))) else (none)) = some r := by first | (rw [hy891]; with_reducible exact H) | (have H2_ := (Option.bind_some _ _).symm.trans H; rw [hy891]; with_reducible exact H2_) | (have H2_ := (Option.bind_some _ _).symm.trans H; with_reducible exact H2_) | with_reducible exact H | (rw [hy891]; exact H) | exact H
      have Ny891 := Aside0.mk hy891
      clear hy891
      by_cases c21 : 0 < (t881.length : Int)
      rotate_left
      ·rw [if_neg c21] at H
       exact absurd H (by simp)
      rw [if_pos c21] at H
      have c21b0 : decide (0 < (t881.length : Int)) = true := decide_eq_true c21
      have c21b1 : decide (0 < t881.length) = true := decide_eq_true (by omega)
      clear c21
      obtain ⟨y895, hy895⟩ : ∃ y_ : List (S25), y_ = (([(⟨(rd_T25 t881 0).f0, (rd_T25 t881 0).f1⟩ : S25)] : List (S25))) := ⟨_, rfl⟩
      replace H : (if y891.length + y895.length < 8796093022208 then ((impl_PsalmRead.f kj8 t879 t880 (y891 ++ y895)).bind fun t901 => (laws_FnPsalmRead.j2 kj8 l1 t879 t880 t886 (t901 != 0))) else (none)) = some r := by first | (rw [hy895]; with_reducible exact H) | (have H2_ := (Option.bind_some _ _).symm.trans H; rw [hy895]; with_reducible exact H2_) | (have H2_ := (Option.bind_some _ _).symm.trans H; with_reducible exact H2_) | with_reducible exact H | (rw [hy895]; exact H) | exact H
      have Ny895 := Aside0.mk hy895
      clear hy895
      by_cases c22 : y891.length + y895.length < 8796093022208
      rotate_left
      ·rw [if_neg c22] at H
       exact absurd H (by simp)
      rw [if_pos c22] at H
      have LMc22 := Aside0.mk c22
      clear c22
      obtain ⟨y898, hy898⟩ : ∃ y_ : List (S25), y_ = (y891 ++ y895) := ⟨_, rfl⟩
      replace H : ((impl_PsalmRead.f kj8 t879 t880 y898).bind fun t901 => (laws_FnPsalmRead.j2 kj8 l1 t879 t880 t886 (t901 != 0))) = some r := by first | (rw [hy898]; with_reducible exact H) | (have H2_ := (Option.bind_some _ _).symm.trans H; rw [hy898]; with_reducible exact H2_) | (have H2_ := (Option.bind_some _ _).symm.trans H; with_reducible exact H2_) | with_reducible exact H | (rw [hy898]; exact H) | exact H
      have Ny898 := Aside0.mk hy898
      clear hy898
      replace H := Option.bind_eq_some_iff.mp H
      obtain ⟨t901, A230, H⟩ := H
      replace H : (laws_FnPsalmRead.j2 kj8 l1 t879 t880 t886 (t901 != 0)) = some r := H
      have A23 := Aside0.mk A230
      clear A230
      have H' := Aside0.mk H
      clear H
      try go_wp2
      have n0_ := Aside0.mk (Kd.S_drew HO_5.out)
      have n1_ := Aside0.mk (Kd.R_drew HO_7.out)
      have n2_ := Aside0.mk (below_drew1 HB.out)
      clear HO_5
      clear HO_7
      clear HB
      have HO_5 := n0_
      have HO_7 := n1_
      have HB := n2_
      clear n0_ n1_ n2_
      have p894 : 0 ≤ (0 : Int) := (by omega)
      have q894 : 0 < (t881.length : Int) := of_decide_eq_true (by first | (with_reducible assumption) | assumption)
      obtain ⟨ad894, e894, hx894_0, hx894_1⟩ := at_T25 (Kd.R_reads' HO_7.out).2.2 0 p894 q894
      cases e894
      have qi894 : (0 < t881.length) = True := eq_true (by omega)
      (try rw [show ((0 : Int)).toNat = 0 from rfl] at hx894_0)
      (try rw [show 0 * 2 = 0 from rfl] at hx894_0)
      (try rw [Addr.add_zero'] at hx894_0)
      (try rw [show ((0 : Int)).toNat = 0 from rfl] at hx894_1)
      (try rw [show 0 * 2 = 0 from rfl] at hx894_1)
      (try rw [Addr.add_zero'] at hx894_1)
      replace p894 := eq_true p894
      replace q894 := eq_true q894
      refine start_ (n := 21) (S := fun w' => w'.cell? ad894 = some (.int .i64 ((rd_T25 t881 0).f0)) ∧ w'.cell? ⟨ad894.block, ad894.off + 1, none⟩ = some (.bool ((rd_T25 t881 0).f1))) (ds := []) #[false, false, false, false, false, false, false, false, false, false, false, false, false, false, false, false, false, false, false, false, false] (by kernel_rfl) rfl rfl ⟨hx894_0, hx894_1⟩ (fun hHeld => ?_); refine with_tabW laws_FnPsalmRead.tab8 laws_FnPsalmRead.bits8 (fun HT_ HW_ => ?_)
      generalize wc.drew = w24 at HO_5 HO_7 HB hx894_0 hx894_1 hHeld ⊢
      refine pure_ (i := 0) (N := some 45) (v := ?_) (a' := ?_) #[true, false, false, false, false, false, false, false, false, false, false, false, false, false, false, false, false, false, false, false, false] rfl rfl (any_of HT_.out (by kernel_rfl)) (fun _ _ _ h => h) (Or.inl ⟨by rfl, ?_⟩) ?_ ?_
      rotate_left
      ·intro w'
       go_simp
       with_reducible rfl
      rotate_left
      ·simp only [Act.put, List.setIfInBounds_toArray, List.set_cons_zero, List.set_cons_succ, i64_w, i32_w]
       rfl
      refine pure_ (i := 1) (N := some 46) (v := ?_) (a' := ?_) #[true, true, false, false, false, false, false, false, false, false, false, false, false, false, false, false, false, false, false, false, false] rfl rfl (any_of HT_.out (by kernel_rfl)) (fun _ _ _ h => h) (Or.inl ⟨by rfl, ?_⟩) ?_ ?_
      rotate_left
      ·intro w'
       go_simp
       with_reducible rfl
      rotate_left
      ·simp only [Act.put, List.setIfInBounds_toArray, List.set_cons_zero, List.set_cons_succ, i64_w, i32_w]
       rfl
      refine pure_ (i := 2) (N := some 47) (v := ?_) (a' := ?_) #[true, true, true, false, false, false, false, false, false, false, false, false, false, false, false, false, false, false, false, false, false] rfl rfl (any_of HT_.out (by kernel_rfl)) (fun _ _ _ h => h) (Or.inl ⟨by rfl, ?_⟩) ?_ ?_
      rotate_left
      ·intro w'
       go_simp
       with_reducible rfl
      rotate_left
      ·simp only [Act.put, List.setIfInBounds_toArray, List.set_cons_zero, List.set_cons_succ, i64_w, i32_w]
       rfl
      refine pure_ (i := 3) (N := some 48) (v := ?_) (a' := ?_) #[true, true, true, true, false, false, false, false, false, false, false, false, false, false, false, false, false, false, false, false, false] rfl rfl (any_of HT_.out (by kernel_rfl)) (fun _ _ _ h => h) (Or.inl ⟨by rfl, ?_⟩) ?_ ?_
      rotate_left
      ·intro w'
       go_simp
       with_reducible rfl
      rotate_left
      ·simp only [Act.put, List.setIfInBounds_toArray, List.set_cons_zero, List.set_cons_succ, i64_w, i32_w]
       rfl
      refine pure_ (i := 4) (N := some 49) (v := ?_) (a' := ?_) #[true, true, true, true, true, false, false, false, false, false, false, false, false, false, false, false, false, false, false, false, false] rfl rfl (any_of HT_.out (by kernel_rfl)) (fun _ _ _ h => h) (Or.inl ⟨by rfl, ?_⟩) ?_ ?_
      rotate_left
      ·intro w'
       go_simp
       with_reducible rfl
      rotate_left
      ·simp only [Act.put, List.setIfInBounds_toArray, List.set_cons_zero, List.set_cons_succ, i64_w, i32_w]
       rfl
      refine pure_ (i := 5) (N := some 50) (v := ?_) (a' := ?_) #[true, true, true, true, true, true, false, false, false, false, false, false, false, false, false, false, false, false, false, false, false] rfl rfl (any_of HT_.out (by kernel_rfl)) (fun _ _ _ h => h) (Or.inl ⟨by rfl, ?_⟩) ?_ ?_
      rotate_left
      ·intro w'
       go_simp
       with_reducible rfl
      rotate_left
      ·simp only [Act.put, List.setIfInBounds_toArray, List.set_cons_zero, List.set_cons_succ, i64_w, i32_w]
       rfl
      refine pure_ (i := 6) (N := some 51) (v := ?_) (a' := ?_) #[true, true, true, true, true, true, true, false, false, false, false, false, false, false, false, false, false, false, false, false, false] rfl rfl (any_of HT_.out (by kernel_rfl)) (fun _ _ _ h => h) (Or.inl ⟨by rfl, ?_⟩) ?_ ?_
      rotate_left
      ·intro w'
       go_simp
       with_reducible rfl
      rotate_left
      ·simp only [Act.put, List.setIfInBounds_toArray, List.set_cons_zero, List.set_cons_succ, i64_w, i32_w]
       rfl
      refine pure_ (i := 7) (N := some 52) (v := ?_) (a' := ?_) #[true, true, true, true, true, true, true, true, false, false, false, false, false, false, false, false, false, false, false, false, false] rfl rfl (any_of HT_.out (by kernel_rfl)) (fun _ _ _ h => h) (Or.inl ⟨by rfl, ?_⟩) ?_ ?_
      rotate_left
      ·intro w'
       go_simp
       with_reducible rfl
      rotate_left
      ·simp only [Act.put, List.setIfInBounds_toArray, List.set_cons_zero, List.set_cons_succ, i64_w, i32_w]
       rfl
      refine pure_ (i := 8) (N := some 53) (v := ?_) (a' := ?_) #[true, true, true, true, true, true, true, true, true, false, false, false, false, false, false, false, false, false, false, false, false] rfl rfl (any_of HT_.out (by kernel_rfl)) (fun _ _ _ h => h) (Or.inl ⟨by rfl, ?_⟩) ?_ ?_
      rotate_left
      ·intro w'
       go_simp
       with_reducible rfl
      rotate_left
      ·simp only [Act.put, List.setIfInBounds_toArray, List.set_cons_zero, List.set_cons_succ, i64_w, i32_w]
       rfl
      refine pure_ (i := 9) (N := some 54) (v := ?_) (a' := ?_) #[true, true, true, true, true, true, true, true, true, true, false, false, false, false, false, false, false, false, false, false, false] rfl rfl (any_of HT_.out (by kernel_rfl)) (fun _ _ _ h => h) (Or.inl ⟨by rfl, ?_⟩) ?_ ?_
      rotate_left
      ·intro w'
       go_simp
       with_reducible rfl
      rotate_left
      ·simp only [Act.put, List.setIfInBounds_toArray, List.set_cons_zero, List.set_cons_succ, i64_w, i32_w]
       rfl
      refine pure_ (i := 11) (N := some 56) (v := ?_) (a' := ?_) #[true, true, true, true, true, true, true, true, true, true, false, true, false, false, false, false, false, false, false, false, false] rfl rfl (any_of HT_.out (by kernel_rfl)) (fun _ _ _ h => h) (Or.inl ⟨by rfl, ?_⟩) ?_ ?_
      rotate_left
      ·intro w'
       go_simp
       with_reducible rfl
      rotate_left
      ·simp only [Act.put, List.setIfInBounds_toArray, List.set_cons_zero, List.set_cons_succ, i64_w, i32_w]
       rfl
      refine pure_ (i := 13) (N := some 58) (v := ?_) (a' := ?_) #[true, true, true, true, true, true, true, true, true, true, false, true, false, true, false, false, false, false, false, false, false] rfl rfl (any_of HT_.out (by kernel_rfl)) (fun _ _ _ h => h) (Or.inl ⟨by rfl, ?_⟩) ?_ ?_
      rotate_left
      ·intro w'
       go_simp
       with_reducible rfl
      rotate_left
      ·simp only [Act.put, List.setIfInBounds_toArray, List.set_cons_zero, List.set_cons_succ, i64_w, i32_w]
       rfl
      refine pure_ (i := 14) (N := some 59) (v := ?_) (a' := ?_) #[true, true, true, true, true, true, true, true, true, true, false, true, false, true, true, false, false, false, false, false, false] rfl rfl (any_of HT_.out (by kernel_rfl)) (fun _ _ _ h => h) (Or.inl ⟨by rfl, ?_⟩) ?_ ?_
      rotate_left
      ·intro w'
       go_simp
       with_reducible rfl
      rotate_left
      ·simp only [Act.put, List.setIfInBounds_toArray, List.set_cons_zero, List.set_cons_succ, i64_w, i32_w]
       rfl
      refine take_ (i := 15) (N := some 60) (v := ?_) (a' := ?_) #[true, true, true, true, true, true, true, true, true, true, false, true, false, true, true, true, false, false, false, false, false] rfl rfl (take_ofW HT_.out HW_.out (by kernel_rfl)) (fun _ _ _ h => h) (Or.inl ⟨by rfl, ?_⟩) hHeld ?_ ?_
      rotate_left
      ·rintro w' ⟨s0, s1⟩
       go_simp
       with_reducible rfl
      rotate_left
      ·simp only [Act.put, List.setIfInBounds_toArray, List.set_cons_zero, List.set_cons_succ, i64_w, i32_w]
       rfl
      refine join_ (σ := Value × Value × Value) 4 #[true, true, true, true, true, true, true, true, true, true, true, true, true, true, true, true, true, false, false, false, false] (fun s_ => [(55, s_.1), (57, s_.2.1), (61, s_.2.2)]) (fun s_ w' => (w'.cell? ad894 = some (.int .i64 ((rd_T25 t881 0).f0)) ∧ w'.cell? ⟨ad894.block, ad894.off + 1, none⟩ = some (.bool ((rd_T25 t881 0).f1))) ∧ (Kd.R k25 25 w' w.heap.size (fun k_ => some k_ ≠ (s_.2.2 : Value).ownBlock ∧ some k_ ≠ (.slice (some ad894) t881.length co12 : Value).ownBlock) s_.2.1 y891) ∧ (Kd.R k25 25 w' w.heap.size (fun k_ => some k_ ≠ (s_.2.1 : Value).ownBlock ∧ some k_ ≠ (.slice (some ad894) t881.length co12 : Value).ownBlock) s_.2.2 y895) ∧ (Kd.S k27 27 w' w.heap.size (fun k_ => some k_ ≠ (s_.2.1 : Value).ownBlock ∧ some k_ ≠ (s_.2.2 : Value).ownBlock ∧ some k_ ≠ (.slice (some ad894) t881.length co12 : Value).ownBlock) (.slice Ao11 t879.length co11) t879) ∧ (Kd.R k25 25 w' w.heap.size (fun k_ => some k_ ≠ (s_.2.1 : Value).ownBlock ∧ some k_ ≠ (s_.2.2 : Value).ownBlock) (.slice (some ad894) t881.length co12) t881) ∧ (Below w.heap.size w w')) ?_ ?_
      rotate_left
      ·intro hCont
       refine two_ (i := 10) (j := 16) (Ni := some 55) (Nj := some 61) #[true, true, true, true, true, true, true, true, true, true, true, true, false, true, true, true, false, false, false, false, false] #[true, true, true, true, true, true, true, true, true, true, false, true, false, true, true, true, true, false, false, false, false] rfl rfl rfl rfl (two_of HT_.out (by kernel_rfl)) (by decide) (by decide) (fun K hK => ?_) (fun K hK => ?_)
       ·skip
        refine Kd.R_lit_step k25 _ 25 ?hg (N := 55) ?hd (xs := ([] : List (S25))) (inner := []) (ok := fun _ => True) (okp := fun _ => True) ?hr ?hp (fun _ hk => hk) trivial (Below.refl _ _) (Nat.le_refl _) (by simp) ?_; (case hd => rfl); (case hg => rfl); (case hr => first | (go_simp; done) | (go_simp; rfl)); (case hp => exact (Reps.none _ _))
        intro v889 w25 ho26 hb hg_ hnew_
        have HS0_ := (hb.cell (World.block_lt_of_cell? _ _ (hHeld.1))).trans (hHeld.1)
        have HS1_ := (hb.cell (World.block_lt_of_cell? _ _ (hHeld.2))).trans (hHeld.2)
        clear hg_ hnew_
        (first | rw [← Ny888.out] at ho26 | (simp only [Int.reduceToNat] at ho26; rw [← Ny888.out] at ho26))
        have n0_ := Aside0.mk (Kd.S_elder' (by (with_reducible repeat (first | apply Kd.S_alloc | apply Kd.S_drewN | apply Kd.S_drew)); exact HO_5.out) (Kd.R_base ho26) hb)
        have n1_ := Aside0.mk (Kd.R_elder' (by (with_reducible repeat (first | apply Kd.R_alloc | apply Kd.R_drewN | apply Kd.R_drew)); exact HO_7.out) (Kd.R_base ho26) hb)
        have n2_ := Aside0.mk (Kd.R_lower (Kd.R_new' ho26 (Kd.R_lt (by (with_reducible repeat (first | apply Kd.R_alloc | apply Kd.R_drewN | apply Kd.R_drew)); exact HO_7.out))) (below_size (by repeat (first | (with_reducible first | exact HB.out | apply below_alloc | apply pw_below_drewN | apply below_drew1) | exact HB.out))))
        have n3_ := Aside0.mk (below_step (by repeat (first | (with_reducible first | exact HB.out | apply below_alloc | apply pw_below_drewN | apply below_drew1) | exact HB.out)) hb)
        clear HO_5
        clear HO_7
        clear HB
        have HO_5 := n0_
        have HO_7 := n1_
        have HO890 := n2_
        have HB := n3_
        clear n0_ n1_ n2_ n3_
        clear hb ho26
        refine hK.out _ _ ⟨HS0_, HS1_⟩ (fun hHeld => ?_)
        clear hK K
        refine norm_ (a' := ?_) ?_ ?_
        rotate_left
        ·show Act.put _ (some 55) _ = _
         simp only [Act.put, List.setIfInBounds_toArray, List.set_cons_zero, List.set_cons_succ, i64_w, i32_w]
         rfl
        refine two_ (i := 12) (j := 16) (Ni := some 57) (Nj := some 61) #[true, true, true, true, true, true, true, true, true, true, true, true, true, true, true, true, false, false, false, false, false] #[true, true, true, true, true, true, true, true, true, true, true, true, false, true, true, true, true, false, false, false, false] rfl rfl rfl rfl (two_of HT_.out (by kernel_rfl)) (by decide) (by decide) (fun K hK => ?_) (fun K hK => ?_)
        ·skip
         refine Kd.R_append_rows_step k25 (w0 := w) w.heap.size (by rfl) (.tmp 55) (.tmp 56) 23 25 (.agg #[(.int .i64 0), (.bool false)]) 16 rfl Tryd.underlying23 info25 rfl (by decide) (by omega) v889 y888 t881 _ _ _ (fun k_ => some k_ ≠ (.slice (some ad894) t881.length co12 : Value).ownBlock) (fun _ => False) rfl rfl ?aO ?aR (fun _ _ h => h) (fun _ h => h.elim) ?aF ?aB ?aS ?aL ?_
         (case aR => repeat (first | exact (Kd.R_reads' HO_7.out).2.2 | (with_reducible refine Kd.C_alloc ?_ _) | (with_reducible refine Kd.C_drewN ?_ _) | (with_reducible refine Kd.C_drew ?_)))
         (case aB => exact (by repeat (first | (with_reducible first | exact HB.out | apply below_alloc | apply pw_below_drewN | apply below_drew1) | exact HB.out)))
         (case aF => exact (fun k_ hk => Kd.fresh' (Kd.R_lt (by (with_reducible repeat (first | apply Kd.R_alloc | apply Kd.R_drewN | apply Kd.R_drew)); exact HO_7.out)) k_ hk))
         (case aO => exact (by (with_reducible repeat (first | apply Kd.R_alloc | apply Kd.R_drewN | apply Kd.R_drew)); exact Kd.R_mono HO890.out (fun _ hk => hk.2)))
         (case aS => exact (below_size (by repeat (first | (with_reducible first | exact HB.out | apply below_alloc | apply pw_below_drewN | apply below_drew1) | exact HB.out))))
         (case aL => have := LMc20.out; omega)
         intro v892 w27 ho hb hg hat
         have HS0_ := cell_grown hg (hHeld.1) (by first | (rw [add_block]; exact (fun e_ => ((HO890.out.1 _ e_.symm).2) rfl)) | (show some (Addr.add _ _).block ≠ _; rw [add_block]; exact (fun e_ => ((HO890.out.1 _ e_.symm).2) rfl)) | exact (fun e_ => ((HO890.out.1 _ e_.symm).2) rfl))
         have HS1_ := cell_grown hg (hHeld.2) (by first | (rw [add_block]; exact (fun e_ => ((HO890.out.1 _ e_.symm).2) rfl)) | (show some (Addr.add _ _).block ≠ _; rw [add_block]; exact (fun e_ => ((HO890.out.1 _ e_.symm).2) rfl)) | exact (fun e_ => ((HO890.out.1 _ e_.symm).2) rfl))
         rw [← Ny891.out] at ho
         have n0_ := Aside0.mk (Kd.S_after (ok := (fun k_ => some k_ ≠ (.slice (some ad894) t881.length co12 : Value).ownBlock)) (by (with_reducible repeat (first | apply Kd.S_alloc | apply Kd.S_drewN | apply Kd.S_drew)); exact HO_5.out) hg hat)
         have n1_ := Aside0.mk (Kd.R_after (ok := (fun _ => True)) (by (with_reducible repeat (first | apply Kd.R_alloc | apply Kd.R_drewN | apply Kd.R_drew)); exact HO_7.out) hg hat)
         have n2_ := Aside0.mk (hb)
         have n3_ := Aside0.mk (ho)
         clear HO_5
         clear HO_7
         clear HB
         clear HO890
         have HO_5 := n0_
         have HO_7 := n1_
         have HB := n2_
         have HO893 := n3_
         clear n0_ n1_ n2_ n3_
         clear ho hb hg hat
         refine hK.out _ _ ⟨HS0_, HS1_⟩ (fun hHeld => ?_)
         clear hK K
         refine norm_ (a' := ?_) ?_ ?_
         rotate_left
         ·show Act.put _ (some 57) _ = _
          simp only [Act.put, List.setIfInBounds_toArray, List.set_cons_zero, List.set_cons_succ, i64_w, i32_w]
          rfl
         refine one_ (i := 16) (N := some 61) #[true, true, true, true, true, true, true, true, true, true, true, true, true, true, true, true, true, false, false, false, false] rfl rfl (one_of HT_.out (by kernel_rfl)) (by decide) (fun K hK => ?_)
         refine Kd.R_lit_step k25 _ 25 ?hg (N := 61) ?hd (xs := ([(⟨(rd_T25 t881 0).f0, (rd_T25 t881 0).f1⟩ : S25)] : List (S25))) (inner := [.int .i64 ((rd_T25 t881 0).f0), .bool ((rd_T25 t881 0).f1)]) (ok := fun _ => True) (okp := fun _ => True) ?hr ?hp (fun _ hk => hk) trivial (Below.refl _ _) (Nat.le_refl _) (by simp) ?_; (case hd => rfl); (case hg => rfl); (case hr => first | (go_simp; done) | (go_simp; rfl)); (case hp => exact (Reps.c2 (show Kd.M k25 _ _ _ (⟨(rd_T25 t881 0).f0, (rd_T25 t881 0).f1⟩ : S25) [.int .i64 ((rd_T25 t881 0).f0), .bool ((rd_T25 t881 0).f1)] from (k25_mkM _ _ _ (⟨(rd_T25 t881 0).f0, (rd_T25 t881 0).f1⟩ : S25) )) (Reps.none _ _)))
         intro v896 w28 ho29 hb hg_ hnew_
         have HS0_ := (hb.cell (World.block_lt_of_cell? _ _ (hHeld.1))).trans (hHeld.1)
         have HS1_ := (hb.cell (World.block_lt_of_cell? _ _ (hHeld.2))).trans (hHeld.2)
         clear hg_ hnew_
         (first | rw [← Ny895.out] at ho29 | (simp only [Int.reduceToNat] at ho29; rw [← Ny895.out] at ho29))
         have n0_ := Aside0.mk (Kd.S_elder' (by (with_reducible repeat (first | apply Kd.S_alloc | apply Kd.S_drewN | apply Kd.S_drew)); exact HO_5.out) (Kd.R_base ho29) hb)
         have n1_ := Aside0.mk (Kd.R_elder' (by (with_reducible repeat (first | apply Kd.R_alloc | apply Kd.R_drewN | apply Kd.R_drew)); exact HO_7.out) (Kd.R_base ho29) hb)
         have n2_ := Aside0.mk (Kd.R_elder' (by (with_reducible repeat (first | apply Kd.R_alloc | apply Kd.R_drewN | apply Kd.R_drew)); exact HO893.out) (Kd.R_base ho29) hb)
         have n3_ := Aside0.mk (Kd.R_lower (Kd.R_new' (Kd.R_new' ho29 (Kd.R_lt (by (with_reducible repeat (first | apply Kd.R_alloc | apply Kd.R_drewN | apply Kd.R_drew)); exact HO_7.out))) (Kd.R_lt (by (with_reducible repeat (first | apply Kd.R_alloc | apply Kd.R_drewN | apply Kd.R_drew)); exact HO893.out))) (below_size (by repeat (first | (with_reducible first | exact HB.out | apply below_alloc | apply pw_below_drewN | apply below_drew1) | exact HB.out))))
         have n4_ := Aside0.mk (below_step (by repeat (first | (with_reducible first | exact HB.out | apply below_alloc | apply pw_below_drewN | apply below_drew1) | exact HB.out)) hb)
         clear HO_5
         clear HO_7
         clear HO893
         clear HB
         have HO_5 := n0_
         have HO_7 := n1_
         have HO893 := n2_
         have HO897 := n3_
         have HB := n4_
         clear n0_ n1_ n2_ n3_ n4_
         clear hb ho29
         refine hK.out _ _ ⟨HS0_, HS1_⟩ (fun hHeld => ?_)
         clear hK K
         refine norm_ (a' := ?_) ?_ ?_
         rotate_left
         ·show Act.put _ (some 61) _ = _
          simp only [Act.put, List.setIfInBounds_toArray, List.set_cons_zero, List.set_cons_succ, i64_w, i32_w]
          rfl
         exact norm_ (by simp only [putAll, Act.put, List.setIfInBounds_toArray, List.set_cons_zero, List.set_cons_succ]) (hCont (v889, v892, v896) _ ⟨hHeld, (by (with_reducible repeat (first | apply Kd.R_alloc | apply Kd.R_drewN | apply Kd.R_drew)); exact Kd.R_mono HO893.out (fun _ hk => ⟨hk.2, hk.1⟩)), (by (with_reducible repeat (first | apply Kd.R_alloc | apply Kd.R_drewN | apply Kd.R_drew)); exact Kd.R_mono HO897.out (fun _ hk => ⟨hk.2, hk.1.2⟩)), (by (with_reducible repeat (first | apply Kd.S_alloc | apply Kd.S_drewN | apply Kd.S_drew)); exact Kd.S_mono HO_5.out (fun _ hk => ⟨hk.1.2, ⟨hk.2, hk.1.1⟩⟩)), (by (with_reducible repeat (first | apply Kd.R_alloc | apply Kd.R_drewN | apply Kd.R_drew)); exact Kd.R_mono HO_7.out (fun _ hk => ⟨hk.1.2, hk.2⟩)), (by repeat (first | (with_reducible first | exact HB.out | apply below_alloc | apply pw_below_drewN | apply below_drew1) | exact HB.out))⟩)
        ·skip
         refine Kd.R_lit_step k25 _ 25 ?hg (N := 61) ?hd (xs := ([(⟨(rd_T25 t881 0).f0, (rd_T25 t881 0).f1⟩ : S25)] : List (S25))) (inner := [.int .i64 ((rd_T25 t881 0).f0), .bool ((rd_T25 t881 0).f1)]) (ok := fun _ => True) (okp := fun _ => True) ?hr ?hp (fun _ hk => hk) trivial (Below.refl _ _) (Nat.le_refl _) (by simp) ?_; (case hd => rfl); (case hg => rfl); (case hr => first | (go_simp; done) | (go_simp; rfl)); (case hp => exact (Reps.c2 (show Kd.M k25 _ _ _ (⟨(rd_T25 t881 0).f0, (rd_T25 t881 0).f1⟩ : S25) [.int .i64 ((rd_T25 t881 0).f0), .bool ((rd_T25 t881 0).f1)] from (k25_mkM _ _ _ (⟨(rd_T25 t881 0).f0, (rd_T25 t881 0).f1⟩ : S25) )) (Reps.none _ _)))
         intro v896 w27 ho28 hb hg_ hnew_
         have HS0_ := (hb.cell (World.block_lt_of_cell? _ _ (hHeld.1))).trans (hHeld.1)
         have HS1_ := (hb.cell (World.block_lt_of_cell? _ _ (hHeld.2))).trans (hHeld.2)
         clear hg_ hnew_
         (first | rw [← Ny895.out] at ho28 | (simp only [Int.reduceToNat] at ho28; rw [← Ny895.out] at ho28))
         have n0_ := Aside0.mk (Kd.S_elder' (by (with_reducible repeat (first | apply Kd.S_alloc | apply Kd.S_drewN | apply Kd.S_drew)); exact HO_5.out) (Kd.R_base ho28) hb)
         have n1_ := Aside0.mk (Kd.R_elder' (by (with_reducible repeat (first | apply Kd.R_alloc | apply Kd.R_drewN | apply Kd.R_drew)); exact HO_7.out) (Kd.R_base ho28) hb)
         have n2_ := Aside0.mk (Kd.R_elder' (by (with_reducible repeat (first | apply Kd.R_alloc | apply Kd.R_drewN | apply Kd.R_drew)); exact HO890.out) (Kd.R_base ho28) hb)
         have n3_ := Aside0.mk (Kd.R_lower (Kd.R_new' (Kd.R_new' ho28 (Kd.R_lt (by (with_reducible repeat (first | apply Kd.R_alloc | apply Kd.R_drewN | apply Kd.R_drew)); exact HO_7.out))) (Kd.R_lt (by (with_reducible repeat (first | apply Kd.R_alloc | apply Kd.R_drewN | apply Kd.R_drew)); exact HO890.out))) (below_size (by repeat (first | (with_reducible first | exact HB.out | apply below_alloc | apply pw_below_drewN | apply below_drew1) | exact HB.out))))
         have n4_ := Aside0.mk (below_step (by repeat (first | (with_reducible first | exact HB.out | apply below_alloc | apply pw_below_drewN | apply below_drew1) | exact HB.out)) hb)
         clear HO_5
         clear HO_7
         clear HO890
         clear HB
         have HO_5 := n0_
         have HO_7 := n1_
         have HO890 := n2_
         have HO897 := n3_
         have HB := n4_
         clear n0_ n1_ n2_ n3_ n4_
         clear hb ho28
         refine hK.out _ _ ⟨HS0_, HS1_⟩ (fun hHeld => ?_)
         clear hK K
         refine norm_ (a' := ?_) ?_ ?_
         rotate_left
         ·show Act.put _ (some 61) _ = _
          simp only [Act.put, List.setIfInBounds_toArray, List.set_cons_zero, List.set_cons_succ, i64_w, i32_w]
          rfl
         refine one_ (i := 12) (N := some 57) #[true, true, true, true, true, true, true, true, true, true, true, true, true, true, true, true, true, false, false, false, false] rfl rfl (one_of HT_.out (by kernel_rfl)) (by decide) (fun K hK => ?_)
         refine Kd.R_append_rows_step k25 (w0 := w) w.heap.size (by rfl) (.tmp 55) (.tmp 56) 23 25 (.agg #[(.int .i64 0), (.bool false)]) 16 rfl Tryd.underlying23 info25 rfl (by decide) (by omega) v889 y888 t881 _ _ _ (fun k_ => some k_ ≠ (.slice (some ad894) t881.length co12 : Value).ownBlock ∧ some k_ ≠ (v896 : Value).ownBlock) (fun _ => False) rfl rfl ?aO ?aR (fun _ _ h => h) (fun _ h => h.elim) ?aF ?aB ?aS ?aL ?_
         (case aR => repeat (first | exact (Kd.R_reads' HO_7.out).2.2 | (with_reducible refine Kd.C_alloc ?_ _) | (with_reducible refine Kd.C_drewN ?_ _) | (with_reducible refine Kd.C_drew ?_)))
         (case aB => exact (by repeat (first | (with_reducible first | exact HB.out | apply below_alloc | apply pw_below_drewN | apply below_drew1) | exact HB.out)))
         (case aF => exact (fun k_ hk => ⟨Kd.fresh' (Kd.R_lt (by (with_reducible repeat (first | apply Kd.R_alloc | apply Kd.R_drewN | apply Kd.R_drew)); exact HO_7.out)) k_ hk, Kd.fresh' (Kd.R_lt (by (with_reducible repeat (first | apply Kd.R_alloc | apply Kd.R_drewN | apply Kd.R_drew)); exact HO897.out)) k_ hk⟩))
         (case aO => exact (by (with_reducible repeat (first | apply Kd.R_alloc | apply Kd.R_drewN | apply Kd.R_drew)); exact Kd.R_mono HO890.out (fun _ hk => ⟨hk.1.2, hk.2⟩)))
         (case aS => exact (below_size (by repeat (first | (with_reducible first | exact HB.out | apply below_alloc | apply pw_below_drewN | apply below_drew1) | exact HB.out))))
         (case aL => have := LMc20.out; omega)
         intro v892 w29 ho hb hg hat
         have HS0_ := cell_grown hg (hHeld.1) (by first | (rw [add_block]; exact (fun e_ => ((HO890.out.1 _ e_.symm).1.2) rfl)) | (show some (Addr.add _ _).block ≠ _; rw [add_block]; exact (fun e_ => ((HO890.out.1 _ e_.symm).1.2) rfl)) | exact (fun e_ => ((HO890.out.1 _ e_.symm).1.2) rfl))
         have HS1_ := cell_grown hg (hHeld.2) (by first | (rw [add_block]; exact (fun e_ => ((HO890.out.1 _ e_.symm).1.2) rfl)) | (show some (Addr.add _ _).block ≠ _; rw [add_block]; exact (fun e_ => ((HO890.out.1 _ e_.symm).1.2) rfl)) | exact (fun e_ => ((HO890.out.1 _ e_.symm).1.2) rfl))
         rw [← Ny891.out] at ho
         have n0_ := Aside0.mk (Kd.S_after (ok := (fun k_ => some k_ ≠ (.slice (some ad894) t881.length co12 : Value).ownBlock ∧ some k_ ≠ (v896 : Value).ownBlock)) (by (with_reducible repeat (first | apply Kd.S_alloc | apply Kd.S_drewN | apply Kd.S_drew)); exact Kd.S_mono HO_5.out (fun _ hk => ⟨⟨hk.1.1, hk.2⟩, hk.1.2⟩)) hg hat)
         have n1_ := Aside0.mk (Kd.R_after (ok := (fun k_ => some k_ ≠ (v896 : Value).ownBlock)) (by (with_reducible repeat (first | apply Kd.R_alloc | apply Kd.R_drewN | apply Kd.R_drew)); exact Kd.R_mono HO_7.out (fun _ hk => ⟨hk.2, hk.1.2⟩)) hg hat)
         have n2_ := Aside0.mk (Kd.R_after (ok := (fun k_ => some k_ ≠ (.slice (some ad894) t881.length co12 : Value).ownBlock)) (by (with_reducible repeat (first | apply Kd.R_alloc | apply Kd.R_drewN | apply Kd.R_drew)); exact Kd.R_mono HO897.out (fun _ hk => ⟨hk.1.2, hk.2⟩)) hg hat)
         have n3_ := Aside0.mk (hb)
         have n4_ := Aside0.mk (ho)
         clear HO_5
         clear HO_7
         clear HO897
         clear HB
         clear HO890
         have HO_5 := n0_
         have HO_7 := n1_
         have HO897 := n2_
         have HB := n3_
         have HO893 := n4_
         clear n0_ n1_ n2_ n3_ n4_
         clear ho hb hg hat
         refine hK.out _ _ ⟨HS0_, HS1_⟩ (fun hHeld => ?_)
         clear hK K
         refine norm_ (a' := ?_) ?_ ?_
         rotate_left
         ·show Act.put _ (some 57) _ = _
          simp only [Act.put, List.setIfInBounds_toArray, List.set_cons_zero, List.set_cons_succ, i64_w, i32_w]
          rfl
         exact norm_ (by simp only [putAll, Act.put, List.setIfInBounds_toArray, List.set_cons_zero, List.set_cons_succ]) (hCont (v889, v892, v896) _ ⟨hHeld, (by (with_reducible repeat (first | apply Kd.R_alloc | apply Kd.R_drewN | apply Kd.R_drew)); exact Kd.R_mono HO893.out (fun _ hk => ⟨hk.2, hk.1⟩)), (by (with_reducible repeat (first | apply Kd.R_alloc | apply Kd.R_drewN | apply Kd.R_drew)); exact Kd.R_mono HO897.out (fun _ hk => ⟨hk.2, hk.1⟩)), (by (with_reducible repeat (first | apply Kd.S_alloc | apply Kd.S_drewN | apply Kd.S_drew)); exact Kd.S_mono HO_5.out (fun _ hk => ⟨hk.2, ⟨hk.1.2, hk.1.1⟩⟩)), (by (with_reducible repeat (first | apply Kd.R_alloc | apply Kd.R_drewN | apply Kd.R_drew)); exact Kd.R_mono HO_7.out (fun _ hk => ⟨hk.2, hk.1⟩)), (by repeat (first | (with_reducible first | exact HB.out | apply below_alloc | apply pw_below_drewN | apply below_drew1) | exact HB.out))⟩)
       ·skip
        refine Kd.R_lit_step k25 _ 25 ?hg (N := 61) ?hd (xs := ([(⟨(rd_T25 t881 0).f0, (rd_T25 t881 0).f1⟩ : S25)] : List (S25))) (inner := [.int .i64 ((rd_T25 t881 0).f0), .bool ((rd_T25 t881 0).f1)]) (ok := fun _ => True) (okp := fun _ => True) ?hr ?hp (fun _ hk => hk) trivial (Below.refl _ _) (Nat.le_refl _) (by simp) ?_; (case hd => rfl); (case hg => rfl); (case hr => first | (go_simp; done) | (go_simp; rfl)); (case hp => exact (Reps.c2 (show Kd.M k25 _ _ _ (⟨(rd_T25 t881 0).f0, (rd_T25 t881 0).f1⟩ : S25) [.int .i64 ((rd_T25 t881 0).f0), .bool ((rd_T25 t881 0).f1)] from (k25_mkM _ _ _ (⟨(rd_T25 t881 0).f0, (rd_T25 t881 0).f1⟩ : S25) )) (Reps.none _ _)))
        intro v896 w25 ho26 hb hg_ hnew_
        have HS0_ := (hb.cell (World.block_lt_of_cell? _ _ (hHeld.1))).trans (hHeld.1)
        have HS1_ := (hb.cell (World.block_lt_of_cell? _ _ (hHeld.2))).trans (hHeld.2)
        clear hg_ hnew_
        (first | rw [← Ny895.out] at ho26 | (simp only [Int.reduceToNat] at ho26; rw [← Ny895.out] at ho26))
        have n0_ := Aside0.mk (Kd.S_elder' (by (with_reducible repeat (first | apply Kd.S_alloc | apply Kd.S_drewN | apply Kd.S_drew)); exact HO_5.out) (Kd.R_base ho26) hb)
        have n1_ := Aside0.mk (Kd.R_elder' (by (with_reducible repeat (first | apply Kd.R_alloc | apply Kd.R_drewN | apply Kd.R_drew)); exact HO_7.out) (Kd.R_base ho26) hb)
        have n2_ := Aside0.mk (Kd.R_lower (Kd.R_new' ho26 (Kd.R_lt (by (with_reducible repeat (first | apply Kd.R_alloc | apply Kd.R_drewN | apply Kd.R_drew)); exact HO_7.out))) (below_size (by repeat (first | (with_reducible first | exact HB.out | apply below_alloc | apply pw_below_drewN | apply below_drew1) | exact HB.out))))
        have n3_ := Aside0.mk (below_step (by repeat (first | (with_reducible first | exact HB.out | apply below_alloc | apply pw_below_drewN | apply below_drew1) | exact HB.out)) hb)
        clear HO_5
        clear HO_7
        clear HB
        have HO_5 := n0_
        have HO_7 := n1_
        have HO897 := n2_
        have HB := n3_
        clear n0_ n1_ n2_ n3_
        clear hb ho26
        refine hK.out _ _ ⟨HS0_, HS1_⟩ (fun hHeld => ?_)
        clear hK K
        refine norm_ (a' := ?_) ?_ ?_
        rotate_left
        ·show Act.put _ (some 61) _ = _
         simp only [Act.put, List.setIfInBounds_toArray, List.set_cons_zero, List.set_cons_succ, i64_w, i32_w]
         rfl
        refine one_ (i := 10) (N := some 55) #[true, true, true, true, true, true, true, true, true, true, true, true, false, true, true, true, true, false, false, false, false] rfl rfl (one_of HT_.out (by kernel_rfl)) (by decide) (fun K hK => ?_)
        refine Kd.R_lit_step k25 _ 25 ?hg (N := 55) ?hd (xs := ([] : List (S25))) (inner := []) (ok := fun _ => True) (okp := fun _ => True) ?hr ?hp (fun _ hk => hk) trivial (Below.refl _ _) (Nat.le_refl _) (by simp) ?_; (case hd => rfl); (case hg => rfl); (case hr => first | (go_simp; done) | (go_simp; rfl)); (case hp => exact (Reps.none _ _))
        intro v889 w27 ho28 hb hg_ hnew_
        have HS0_ := (hb.cell (World.block_lt_of_cell? _ _ (hHeld.1))).trans (hHeld.1)
        have HS1_ := (hb.cell (World.block_lt_of_cell? _ _ (hHeld.2))).trans (hHeld.2)
        clear hg_ hnew_
        (first | rw [← Ny888.out] at ho28 | (simp only [Int.reduceToNat] at ho28; rw [← Ny888.out] at ho28))
        have n0_ := Aside0.mk (Kd.S_elder' (by (with_reducible repeat (first | apply Kd.S_alloc | apply Kd.S_drewN | apply Kd.S_drew)); exact HO_5.out) (Kd.R_base ho28) hb)
        have n1_ := Aside0.mk (Kd.R_elder' (by (with_reducible repeat (first | apply Kd.R_alloc | apply Kd.R_drewN | apply Kd.R_drew)); exact HO_7.out) (Kd.R_base ho28) hb)
        have n2_ := Aside0.mk (Kd.R_elder' (by (with_reducible repeat (first | apply Kd.R_alloc | apply Kd.R_drewN | apply Kd.R_drew)); exact HO897.out) (Kd.R_base ho28) hb)
        have n3_ := Aside0.mk (Kd.R_lower (Kd.R_new' (Kd.R_new' ho28 (Kd.R_lt (by (with_reducible repeat (first | apply Kd.R_alloc | apply Kd.R_drewN | apply Kd.R_drew)); exact HO_7.out))) (Kd.R_lt (by (with_reducible repeat (first | apply Kd.R_alloc | apply Kd.R_drewN | apply Kd.R_drew)); exact HO897.out))) (below_size (by repeat (first | (with_reducible first | exact HB.out | apply below_alloc | apply pw_below_drewN | apply below_drew1) | exact HB.out))))
        have n4_ := Aside0.mk (below_step (by repeat (first | (with_reducible first | exact HB.out | apply below_alloc | apply pw_below_drewN | apply below_drew1) | exact HB.out)) hb)
        clear HO_5
        clear HO_7
        clear HO897
        clear HB
        have HO_5 := n0_
        have HO_7 := n1_
        have HO897 := n2_
        have HO890 := n3_
        have HB := n4_
        clear n0_ n1_ n2_ n3_ n4_
        clear hb ho28
        refine hK.out _ _ ⟨HS0_, HS1_⟩ (fun hHeld => ?_)
        clear hK K
        refine norm_ (a' := ?_) ?_ ?_
        rotate_left
        ·show Act.put _ (some 55) _ = _
         simp only [Act.put, List.setIfInBounds_toArray, List.set_cons_zero, List.set_cons_succ, i64_w, i32_w]
         rfl
        refine one_ (i := 12) (N := some 57) #[true, true, true, true, true, true, true, true, true, true, true, true, true, true, true, true, true, false, false, false, false] rfl rfl (one_of HT_.out (by kernel_rfl)) (by decide) (fun K hK => ?_)
        refine Kd.R_append_rows_step k25 (w0 := w) w.heap.size (by rfl) (.tmp 55) (.tmp 56) 23 25 (.agg #[(.int .i64 0), (.bool false)]) 16 rfl Tryd.underlying23 info25 rfl (by decide) (by omega) v889 y888 t881 _ _ _ (fun k_ => some k_ ≠ (.slice (some ad894) t881.length co12 : Value).ownBlock ∧ some k_ ≠ (v896 : Value).ownBlock) (fun _ => False) rfl rfl ?aO ?aR (fun _ _ h => h) (fun _ h => h.elim) ?aF ?aB ?aS ?aL ?_
        (case aR => repeat (first | exact (Kd.R_reads' HO_7.out).2.2 | (with_reducible refine Kd.C_alloc ?_ _) | (with_reducible refine Kd.C_drewN ?_ _) | (with_reducible refine Kd.C_drew ?_)))
        (case aB => exact (by repeat (first | (with_reducible first | exact HB.out | apply below_alloc | apply pw_below_drewN | apply below_drew1) | exact HB.out)))
        (case aF => exact (fun k_ hk => ⟨Kd.fresh' (Kd.R_lt (by (with_reducible repeat (first | apply Kd.R_alloc | apply Kd.R_drewN | apply Kd.R_drew)); exact HO_7.out)) k_ hk, Kd.fresh' (Kd.R_lt (by (with_reducible repeat (first | apply Kd.R_alloc | apply Kd.R_drewN | apply Kd.R_drew)); exact HO897.out)) k_ hk⟩))
        (case aO => exact (by (with_reducible repeat (first | apply Kd.R_alloc | apply Kd.R_drewN | apply Kd.R_drew)); exact Kd.R_mono HO890.out (fun _ hk => ⟨hk.1.2, hk.2⟩)))
        (case aS => exact (below_size (by repeat (first | (with_reducible first | exact HB.out | apply below_alloc | apply pw_below_drewN | apply below_drew1) | exact HB.out))))
        (case aL => have := LMc20.out; omega)
        intro v892 w29 ho hb hg hat
        have HS0_ := cell_grown hg (hHeld.1) (by first | (rw [add_block]; exact (fun e_ => ((HO890.out.1 _ e_.symm).1.2) rfl)) | (show some (Addr.add _ _).block ≠ _; rw [add_block]; exact (fun e_ => ((HO890.out.1 _ e_.symm).1.2) rfl)) | exact (fun e_ => ((HO890.out.1 _ e_.symm).1.2) rfl))
        have HS1_ := cell_grown hg (hHeld.2) (by first | (rw [add_block]; exact (fun e_ => ((HO890.out.1 _ e_.symm).1.2) rfl)) | (show some (Addr.add _ _).block ≠ _; rw [add_block]; exact (fun e_ => ((HO890.out.1 _ e_.symm).1.2) rfl)) | exact (fun e_ => ((HO890.out.1 _ e_.symm).1.2) rfl))
        rw [← Ny891.out] at ho
        have n0_ := Aside0.mk (Kd.S_after (ok := (fun k_ => some k_ ≠ (.slice (some ad894) t881.length co12 : Value).ownBlock ∧ some k_ ≠ (v896 : Value).ownBlock)) (by (with_reducible repeat (first | apply Kd.S_alloc | apply Kd.S_drewN | apply Kd.S_drew)); exact HO_5.out) hg hat)
        have n1_ := Aside0.mk (Kd.R_after (ok := (fun k_ => some k_ ≠ (v896 : Value).ownBlock)) (by (with_reducible repeat (first | apply Kd.R_alloc | apply Kd.R_drewN | apply Kd.R_drew)); exact Kd.R_mono HO_7.out (fun _ hk => ⟨hk.1.2, hk.2⟩)) hg hat)
        have n2_ := Aside0.mk (Kd.R_after (ok := (fun k_ => some k_ ≠ (.slice (some ad894) t881.length co12 : Value).ownBlock)) (by (with_reducible repeat (first | apply Kd.R_alloc | apply Kd.R_drewN | apply Kd.R_drew)); exact Kd.R_mono HO897.out (fun _ hk => ⟨hk.1.2, hk.2⟩)) hg hat)
        have n3_ := Aside0.mk (hb)
        have n4_ := Aside0.mk (ho)
        clear HO_5
        clear HO_7
        clear HO897
        clear HB
        clear HO890
        have HO_5 := n0_
        have HO_7 := n1_
        have HO897 := n2_
        have HB := n3_
        have HO893 := n4_
        clear n0_ n1_ n2_ n3_ n4_
        clear ho hb hg hat
        refine hK.out _ _ ⟨HS0_, HS1_⟩ (fun hHeld => ?_)
        clear hK K
        refine norm_ (a' := ?_) ?_ ?_
        rotate_left
        ·show Act.put _ (some 57) _ = _
         simp only [Act.put, List.setIfInBounds_toArray, List.set_cons_zero, List.set_cons_succ, i64_w, i32_w]
         rfl
        exact norm_ (by simp only [putAll, Act.put, List.setIfInBounds_toArray, List.set_cons_zero, List.set_cons_succ]) (hCont (v889, v892, v896) _ ⟨hHeld, (by (with_reducible repeat (first | apply Kd.R_alloc | apply Kd.R_drewN | apply Kd.R_drew)); exact Kd.R_mono HO893.out (fun _ hk => ⟨hk.2, hk.1⟩)), (by (with_reducible repeat (first | apply Kd.R_alloc | apply Kd.R_drewN | apply Kd.R_drew)); exact Kd.R_mono HO897.out (fun _ hk => ⟨hk.2, hk.1⟩)), (by (with_reducible repeat (first | apply Kd.S_alloc | apply Kd.S_drewN | apply Kd.S_drew)); exact Kd.S_mono HO_5.out (fun _ hk => ⟨hk.2, ⟨hk.1.2, hk.1.1⟩⟩)), (by (with_reducible repeat (first | apply Kd.R_alloc | apply Kd.R_drewN | apply Kd.R_drew)); exact Kd.R_mono HO_7.out (fun _ hk => ⟨hk.2, hk.1⟩)), (by repeat (first | (with_reducible first | exact HB.out | apply below_alloc | apply pw_below_drewN | apply below_drew1) | exact HB.out))⟩)
      rintro ⟨v889, v892, v896⟩ w30 ⟨hS_, h0_, h1_, h2_, h3_, h4_⟩
      have n0_ : Aside0 (Kd.R k25 25 w30 w.heap.size (fun k_ => some k_ ≠ (v896 : Value).ownBlock ∧ some k_ ≠ (.slice (some ad894) t881.length co12 : Value).ownBlock) v892 y891) := ⟨h0_⟩
      have n1_ : Aside0 (Kd.R k25 25 w30 w.heap.size (fun k_ => some k_ ≠ (v892 : Value).ownBlock ∧ some k_ ≠ (.slice (some ad894) t881.length co12 : Value).ownBlock) v896 y895) := ⟨h1_⟩
      have n2_ : Aside0 (Kd.S k27 27 w30 w.heap.size (fun k_ => some k_ ≠ (v892 : Value).ownBlock ∧ some k_ ≠ (v896 : Value).ownBlock ∧ some k_ ≠ (.slice (some ad894) t881.length co12 : Value).ownBlock) (.slice Ao11 t879.length co11) t879) := ⟨h2_⟩
      have n3_ : Aside0 (Kd.R k25 25 w30 w.heap.size (fun k_ => some k_ ≠ (v892 : Value).ownBlock ∧ some k_ ≠ (v896 : Value).ownBlock) (.slice (some ad894) t881.length co12) t881) := ⟨h3_⟩
      have n4_ : Aside0 (Below w.heap.size w w30) := ⟨h4_⟩
      clear HO_5
      clear HO_7
      clear HB
      clear h0_ h1_ h2_ h3_ h4_
      have HO893 := n0_
      have HO897 := n1_
      have HO_5 := n2_
      have HO_7 := n3_
      have HB := n4_
      clear n0_ n1_ n2_ n3_ n4_
      have hHeld : w30.cell? ad894 = some (.int .i64 ((rd_T25 t881 0).f0)) ∧ w30.cell? ⟨ad894.block, ad894.off + 1, none⟩ = some (.bool ((rd_T25 t881 0).f1)) := hS_
      obtain ⟨Ao32, co32, eo32⟩ := Kd.R_slice HO897.out
      (first | subst eo32 | (injection eo32 with f1_ f2_ f3_; have f4_ := f1_.symm; have f5_ := f3_.symm; clear f1_ f2_ f3_; subst f4_; subst f5_))
      refine norm_ (a' := ?_) ?_ ?_
      rotate_left
      ·simp only [putAll, Act.put, List.setIfInBounds_toArray, List.set_cons_zero, List.set_cons_succ]
       rfl
      refine one_ (i := 17) (N := some 62) #[true, true, true, true, true, true, true, true, true, true, true, true, true, true, true, true, true, true, false, false, false] rfl rfl (one_of HT_.out (by kernel_rfl)) (by decide) (fun K hK => ?_)
      refine Kd.R_append_rows_step k25 (w0 := w) w.heap.size (by rfl) (.tmp 57) (.tmp 61) 23 25 (.agg #[(.int .i64 0), (.bool false)]) 16 rfl Tryd.underlying23 info25 rfl (by decide) (by omega) v892 y891 y895 _ _ _ (fun k_ => some k_ ≠ (.slice (some ad894) t881.length co12 : Value).ownBlock ∧ some k_ ≠ (.slice Ao32 y895.length co32 : Value).ownBlock) (fun _ => False) rfl rfl ?aO ?aR (fun _ _ h => h) (fun _ h => h.elim) ?aF ?aB ?aS ?aL ?_
      (case aR => repeat (first | exact (Kd.R_reads' HO897.out).2.2 | (with_reducible refine Kd.C_alloc ?_ _) | (with_reducible refine Kd.C_drewN ?_ _) | (with_reducible refine Kd.C_drew ?_)))
      (case aB => exact (by repeat (first | (with_reducible first | exact HB.out | apply below_alloc | apply pw_below_drewN | apply below_drew1) | exact HB.out)))
      (case aF => exact (fun k_ hk => ⟨Kd.fresh' (Kd.R_lt (by (with_reducible repeat (first | apply Kd.R_alloc | apply Kd.R_drewN | apply Kd.R_drew)); exact HO_7.out)) k_ hk, Kd.fresh' (Kd.R_lt (by (with_reducible repeat (first | apply Kd.R_alloc | apply Kd.R_drewN | apply Kd.R_drew)); exact HO897.out)) k_ hk⟩))
      (case aO => exact (by (with_reducible repeat (first | apply Kd.R_alloc | apply Kd.R_drewN | apply Kd.R_drew)); exact Kd.R_mono HO893.out (fun _ hk => ⟨hk.2, hk.1⟩)))
      (case aS => exact (below_size (by repeat (first | (with_reducible first | exact HB.out | apply below_alloc | apply pw_below_drewN | apply below_drew1) | exact HB.out))))
      (case aL => have := LMc22.out; omega)
      intro v899 w31 ho hb hg hat
      have HS0_ := cell_grown hg (hHeld.1) (by first | (rw [add_block]; exact (fun e_ => ((HO893.out.1 _ e_.symm).2) rfl)) | (show some (Addr.add _ _).block ≠ _; rw [add_block]; exact (fun e_ => ((HO893.out.1 _ e_.symm).2) rfl)) | exact (fun e_ => ((HO893.out.1 _ e_.symm).2) rfl))
      have HS1_ := cell_grown hg (hHeld.2) (by first | (rw [add_block]; exact (fun e_ => ((HO893.out.1 _ e_.symm).2) rfl)) | (show some (Addr.add _ _).block ≠ _; rw [add_block]; exact (fun e_ => ((HO893.out.1 _ e_.symm).2) rfl)) | exact (fun e_ => ((HO893.out.1 _ e_.symm).2) rfl))
      rw [← Ny898.out] at ho
      have n0_ := Aside0.mk (Kd.S_after (ok := (fun k_ => some k_ ≠ (.slice (some ad894) t881.length co12 : Value).ownBlock ∧ some k_ ≠ (.slice Ao32 y895.length co32 : Value).ownBlock)) (by (with_reducible repeat (first | apply Kd.S_alloc | apply Kd.S_drewN | apply Kd.S_drew)); exact Kd.S_mono HO_5.out (fun _ hk => ⟨⟨hk.2.2, hk.2.1⟩, hk.1⟩)) hg hat)
      have n1_ := Aside0.mk (Kd.R_after (ok := (fun k_ => some k_ ≠ (.slice Ao32 y895.length co32 : Value).ownBlock)) (by (with_reducible repeat (first | apply Kd.R_alloc | apply Kd.R_drewN | apply Kd.R_drew)); exact Kd.R_mono HO_7.out (fun _ hk => ⟨hk.2, hk.1⟩)) hg hat)
      have n2_ := Aside0.mk (Kd.R_after (ok := (fun k_ => some k_ ≠ (.slice (some ad894) t881.length co12 : Value).ownBlock)) (by (with_reducible repeat (first | apply Kd.R_alloc | apply Kd.R_drewN | apply Kd.R_drew)); exact Kd.R_mono HO897.out (fun _ hk => ⟨hk.2, hk.1⟩)) hg hat)
      have n3_ := Aside0.mk (hb)
      have n4_ := Aside0.mk (ho)
      clear HO_5
      clear HO_7
      clear HO897
      clear HB
      clear HO893
      have HO_5 := n0_
      have HO_7 := n1_
      have HO897 := n2_
      have HB := n3_
      have HO900 := n4_
      clear n0_ n1_ n2_ n3_ n4_
      clear ho hb hg hat
      obtain ⟨Ao33, co33, eo33⟩ := Kd.R_slice HO900.out
      (first | subst eo33 | (injection eo33 with f1_ f2_ f3_; have f4_ := f1_.symm; have f5_ := f3_.symm; clear f1_ f2_ f3_; subst f4_; subst f5_))
      refine hK.out _ _ ⟨HS0_, HS1_⟩ (fun hHeld => ?_)
      clear hK K
      refine norm_ (a' := ?_) ?_ ?_
      rotate_left
      ·show Act.put _ (some 62) _ = _
       simp only [Act.put, List.setIfInBounds_toArray, List.set_cons_zero, List.set_cons_succ, i64_w, i32_w]
       rfl
      refine one_ (i := 18) (N := some 63) #[true, true, true, true, true, true, true, true, true, true, true, true, true, true, true, true, true, true, true, false, false] rfl rfl (one_of HT_.out (by kernel_rfl)) (by decide) (fun K hK => ?_)
      first | (refine goes_ Tryd.func44 (by kernel_rfl) rfl #[.slice Ao11 t879.length co11, .string t880, .slice Ao33 y898.length co33] (by rfl) rfl rfl (by (try simp only [List.map_toArray, List.map_cons, List.map_nil]); first | done | rfl | (simp only [List.length_drop, List.length_take]; rfl)) ?_) | (refine goes_ Tryd.func44 (by kernel_rfl) rfl #[.slice (some ad894) t879.length co11, .string t880, .slice (some ad894) y898.length co33] (by rfl) rfl rfl (by (try simp only [List.map_toArray, List.map_cons, List.map_nil]); first | done | rfl | (simp only [List.length_drop, List.length_take]; rfl)) ?_)
      with_reducible refine (impl_PsalmRead.calls kj8 _ _ t879 t880 _ _ y898 t901 _ ?side1 ?side2 ?side3 ?side4 ?side5 A23.out).mono ?_
      (case side1 => repeat (first | exact (Kd.S_reads' HO_5.out).2.2 | (with_reducible refine Kd.C_alloc ?_ _) | (with_reducible refine Kd.C_drewN ?_ _) | (with_reducible refine Kd.C_drew ?_)))
      (case side2 => exact (Kd.S_reads' HO_5.out).2.1)
      (case side3 => repeat (first | exact (Kd.R_reads' HO900.out).2.2 | (with_reducible refine Kd.C_alloc ?_ _) | (with_reducible refine Kd.C_drewN ?_ _) | (with_reducible refine Kd.C_drew ?_)))
      (case side4 => exact (Kd.R_reads' HO900.out).2.1)
      (case side5 => exact GOk.sub (GOk.below HG.out (by repeat (first | (with_reducible first | exact HB.out | apply below_alloc | apply pw_below_drewN | apply below_drew1) | exact HB.out))) (by decide))
      rintro e w34 ⟨rfl, hb⟩
      have HS0_ := (hb.cell (World.block_lt_of_cell? _ _ (hHeld.1))).trans (hHeld.1)
      have HS1_ := (hb.cell (World.block_lt_of_cell? _ _ (hHeld.2))).trans (hHeld.2)
      refine ⟨_, rfl, ?_⟩
      have n0_ := Aside0.mk (Kd.S_below (by (with_reducible repeat (first | apply Kd.S_alloc | apply Kd.S_drewN | apply Kd.S_drew)); exact HO_5.out) hb)
      have n1_ := Aside0.mk (Kd.R_below (by (with_reducible repeat (first | apply Kd.R_alloc | apply Kd.R_drewN | apply Kd.R_drew)); exact HO_7.out) hb)
      have n2_ := Aside0.mk (Kd.R_below (by (with_reducible repeat (first | apply Kd.R_alloc | apply Kd.R_drewN | apply Kd.R_drew)); exact HO897.out) hb)
      have n3_ := Aside0.mk (Kd.R_below (by (with_reducible repeat (first | apply Kd.R_alloc | apply Kd.R_drewN | apply Kd.R_drew)); exact HO900.out) hb)
      have n4_ := Aside0.mk (below_step (by repeat (first | (with_reducible first | exact HB.out | apply below_alloc | apply pw_below_drewN | apply below_drew1) | exact HB.out)) hb)
      clear HO_5
      clear HO_7
      clear HO897
      clear HO900
      clear HB
      have HO_5 := n0_
      have HO_7 := n1_
      have HO897 := n2_
      have HO900 := n3_
      have HB := n4_
      clear n0_ n1_ n2_ n3_ n4_
      (try clear hb)
      (try clear hb2)
      (try clear hk)
      (try clear hi)
      refine hK.out _ _ ⟨HS0_, HS1_⟩ (fun hHeld => ?_)
      clear hK K
      refine norm_ (a' := ?_) ?_ ?_
      rotate_left
      ·show Act.put _ (some 63) _ = _
       simp only [Act.put, List.setIfInBounds_toArray, List.set_cons_zero, List.set_cons_succ, i64_w, i32_w]
       rfl
      refine pure_ (i := 19) (N := some 64) (v := ?_) (a' := ?_) #[true, true, true, true, true, true, true, true, true, true, true, true, true, true, true, true, true, true, true, true, false] rfl rfl (any_of HT_.out (by kernel_rfl)) (fun _ _ _ h => h) (Or.inl ⟨by rfl, ?_⟩) ?_ ?_
      rotate_left
      ·intro w'
       go_simp
       with_reducible rfl
      rotate_left
      ·simp only [Act.put, List.setIfInBounds_toArray, List.set_cons_zero, List.set_cons_succ, i64_w, i32_w]
       rfl
      refine pure_ (i := 20) (N := some 65) (v := ?_) (a' := ?_) #[true, true, true, true, true, true, true, true, true, true, true, true, true, true, true, true, true, true, true, true, true] rfl rfl (any_of HT_.out (by kernel_rfl)) (fun _ _ _ h => h) (Or.inl ⟨by rfl, ?_⟩) ?_ ?_
      rotate_left
      ·intro w'
       go_simp
       with_reducible rfl
      rotate_left
      ·simp only [Act.put, List.setIfInBounds_toArray, List.set_cons_zero, List.set_cons_succ, i64_w, i32_w]
       rfl
      refine done_ (done_of HT_.out (by kernel_rfl)) ?_
      try go_wp2
      go_meet
      case rel => exact ⟨_, ((t901 != 0)), (by first | rfl | (simp; done) | (simp [*]; done)), H', ⟨by have := HJ2.out; have := HJ8.out; first | omega | exact Nat.le_refl _⟩, ⟨by (with_reducible repeat (first | apply Kd.S_alloc | apply Kd.S_drewN | apply Kd.S_drew)); exact Kd.S_mono HO_5.out (fun _ hk => trivial)⟩, ⟨by repeat (first | (with_reducible first | exact HB.out | apply below_alloc | apply pw_below_drewN | apply below_drew1) | exact HB.out)⟩⟩
     case rest =>
      clear HC17
      try clear c1
      try clear c2
      try clear p2
      try clear c4
      try clear c18
      try clear c18b0
      try clear c19
      try clear c19b0
      try clear c19b1
      try clear c20
      try clear c21
      try clear c22
      obtain ⟨kq, x65_16, rfl, HA, HJ16, HO_5, HB⟩ := hcut
      cases kq with
      | zero => exact absurd HA.out (by simp [laws_FnPsalmRead.j2])
      | succ kj16 =>
       have H := HA.out
       clear HA
       simp only [laws_FnPsalmRead.j2] at H
       by_cases c37 : x65_16 = true
       ·subst c37
        have H1 : (none) = some r := by rw [if_pos rfl] at H; exact H
        clear H
        have H := H1
        clear H1
        exact absurd H (by simp)
       replace c37 := Bool.eq_false_iff.mpr c37
       subst c37
       have H1 : (if (t879.length : Int) = 0 then (some (t886 == 0)) else (if 0 ≤ ((l1.length : Int) % (t879.length : Int)) then (if ((l1.length : Int) % (t879.length : Int)) < (t879.length : Int) then ((impl_PsalmSing.f kj16 ((rd_T27 t879 ((l1.length : Int) % (t879.length : Int))).f0) ((rd_T27 t879 ((l1.length : Int) % (t879.length : Int))).f1.f0) ((rd_T27 t879 ((l1.length : Int) % (t879.length : Int))).f1.f1) ((rd_T27 t879 ((l1.length : Int) % (t879.length : Int))).f2) ((rd_T27 t879 ((l1.length : Int) % (t879.length : Int))).f3) t880).bind fun bt903 => (if t886 ≤ (t879.length : Int) then (if bt903.2 = true then ((impl_PsalmRead.f kj16 t879 t880 bt903.1).bind fun t907 => (some (decide (t907 ≥ 1)))) else (some true)) else (none))) else (none)) else (none))) = some r := by rw [if_neg (show ¬ (false = true) by decide)] at H; exact H
       clear H
       have H := H1
       clear H1
       by_cases c38 : (t879.length : Int) = 0
       ·rw [if_pos c38] at H
        have c38b0 : ((t879.length : Int) == 0) = true := beq_iff_eq.mpr c38
        have c38b1 : ((t879.length : Int) != 0) = false := bne_eq_false_iff_eq.mpr c38
        clear c38
        obtain rfl := Option.some.inj H
        go_wp2
        go_ret
        exact ⟨by first | rfl | (simp [errW_none, errW_some] <;> rfl) | (simp [*, errW_none, errW_some] <;> rfl), by repeat (first | (with_reducible first | exact HB.out | apply below_alloc | apply pw_below_drewN | apply below_drew1) | exact HB.out)⟩
       rw [if_neg c38] at H
       have c38b0 : ((t879.length : Int) == 0) = false := beq_eq_false_iff_ne.mpr c38
       have c38b1 : ((t879.length : Int) != 0) = true := bne_iff_ne.mpr c38
       have c38b2 : ¬ (t879 = []) := fun h_ => c38 (by rw [h_]; rfl)
       obtain ⟨ji39, hji39⟩ : ∃ j_ : Int, ((l1.length : Int) % (t879.length : Int)) = j_ := ⟨_, rfl⟩
       replace H : (if 0 ≤ (ji39) then (if (ji39) < (t879.length : Int) then ((impl_PsalmSing.f kj16 ((rd_T27 t879 (ji39)).f0) ((rd_T27 t879 (ji39)).f1.f0) ((rd_T27 t879 (ji39)).f1.f1) ((rd_T27 t879 (ji39)).f2) ((rd_T27 t879 (ji39)).f3) t880).bind fun bt903 => (if t886 ≤ (t879.length : Int) then (if bt903.2 = true then ((impl_PsalmRead.f kj16 t879 t880 bt903.1).bind fun t907 => (some (decide (t907 ≥ 1)))) else (some true)) else (none))) else (none)) else (none)) = some r := by first | (rw [hji39] at H; exact H) | (simp only [hji39] at H ⊢; exact H)
       by_cases c40 : 0 ≤ (ji39)
       rotate_left
       ·rw [if_neg c40] at H
        exact absurd H (by simp)
       rw [if_pos c40] at H
       have c40b0 : decide (0 ≤ (ji39)) = true := decide_eq_true c40
       clear c40
       by_cases c41 : (ji39) < (t879.length : Int)
       rotate_left
       ·rw [if_neg c41] at H
        exact absurd H (by simp)
       rw [if_pos c41] at H
       have c41b0 : decide ((ji39) < (t879.length : Int)) = true := decide_eq_true c41
       clear c41
       replace H := Option.bind_eq_some_iff.mp H
       obtain ⟨⟨t903, t906⟩, A420, H⟩ := H
       replace H : (if t886 ≤ (t879.length : Int) then (if t906 = true then ((impl_PsalmRead.f kj16 t879 t880 t903).bind fun t907 => (some (decide (t907 ≥ 1)))) else (some true)) else (none)) = some r := H
       have A42 := Aside0.mk A420
       clear A420
       by_cases c43 : t886 ≤ (t879.length : Int)
       rotate_left
       ·rw [if_neg c43] at H
        exact absurd H (by simp)
       rw [if_pos c43] at H
       have c43b0 : decide (t886 ≤ (t879.length : Int)) = true := decide_eq_true c43
       clear c43
       by_cases c44 : t906 = true
       rotate_left
       ·replace c44 := Bool.eq_false_iff.mpr c44
        subst c44
        have H1 : (some true) = some r := by rw [if_neg (show ¬ (false = true) by decide)] at H; exact H
        clear H
        have H := H1
        clear H1
        obtain rfl := Option.some.inj H
        have p902 : 0 ≤ ((ji39) : Int) := of_decide_eq_true (by first | (with_reducible assumption) | assumption)
        have q902 : (ji39) < (t879.length : Int) := of_decide_eq_true (by first | (with_reducible assumption) | assumption)
        obtain ⟨ad902, A902_0, c902_0, A902_3, c902_3, A902_4, c902_4, e902, hx902_0, hx902_1, hx902_2, hx902_3, hx902_4, hl902_0, hi902_0, hl902_3, hi902_3, hl902_4, hi902_4⟩ := at_T27 (Kd.S_reads' HO_5.out).2.2 (ji39) p902 q902
        cases e902
        obtain ⟨ce902, hce902, hMe902, hcc902⟩ := Kd.S_get HO_5.out z27 (ji39) p902 (by first | exact q902 | exact of_decide_eq_true (by first | (with_reducible assumption) | assumption) | (have e_ := (Kd.S_reads' HO_5.out).1; omega))
        obtain ⟨ve902_0, ve902_3, ve902_4, rfl, ge902_0, ge902_3, ge902_4⟩ := k27_openM hMe902
        have hv902_0 := hcc902 0 _ rfl
        rw [Nat.add_zero] at hv902_0
        replace hv902_0 := Option.some.inj (hv902_0.symm.trans hx902_0)
        rw [hv902_0] at ge902_0
        have HL902_0 := Aside0.mk (show Kd.R k25 25 _ _ _ _ ((rd_T27 t879 (ji39)).f0) from ge902_0)
        clear hv902_0 ge902_0
        have hv902_3 := hcc902 3 _ rfl
        rw [add_field _ _ 3 (by omega)] at hv902_3
        replace hv902_3 := Option.some.inj (hv902_3.symm.trans hx902_3)
        rw [hv902_3] at ge902_3
        have HL902_3 := Aside0.mk (show Kd.R k25 25 _ _ _ _ ((rd_T27 t879 (ji39)).f2) from ge902_3)
        clear hv902_3 ge902_3
        have hv902_4 := hcc902 4 _ rfl
        rw [add_field _ _ 4 (by omega)] at hv902_4
        replace hv902_4 := Option.some.inj (hv902_4.symm.trans hx902_4)
        rw [hv902_4] at ge902_4
        have HL902_4 := Aside0.mk (show Kd.R k25 25 _ _ _ _ ((rd_T27 t879 (ji39)).f3) from ge902_4)
        clear hv902_4 ge902_4
        clear hcc902 hce902
        have HR902_0 := Aside0.mk hi902_0
        have HC902_0 := Aside0.mk hl902_0
        clear hi902_0 hl902_0
        have HR902_3 := Aside0.mk hi902_3
        have HC902_3 := Aside0.mk hl902_3
        clear hi902_3 hl902_3
        have HR902_4 := Aside0.mk hi902_4
        have HC902_4 := Aside0.mk hl902_4
        clear hi902_4 hl902_4
        replace p902 := eq_true p902
        replace q902 := eq_true q902
        go_wp2_with (first | ((with_reducible refine gate_callee (f := 19) rfl ?_); refine goesL_ (some 82) rfl rfl Tryd.func19 (by kernel_rfl) rfl #[.agg #[.slice A902_0 ((rd_T27 t879 (ji39)).f0).length c902_0, .int .i64 ((rd_T27 t879 (ji39)).f1.f0), .bool ((rd_T27 t879 (ji39)).f1.f1), .slice A902_3 ((rd_T27 t879 (ji39)).f2).length c902_3, .slice A902_4 ((rd_T27 t879 (ji39)).f3).length c902_4], .string t880] rfl (by (try simp only [List.map_toArray, List.map_cons, List.map_nil]); first | done | (simp only [hji39]; rfl) | rfl | (simp only [List.length_drop, List.length_take]; rfl)) ?_; (with_reducible refine (impl_PsalmSing.calls kj16 _ _ ((rd_T27 t879 (ji39)).f0) ((rd_T27 t879 (ji39)).f1.f0) ((rd_T27 t879 (ji39)).f1.f1) _ _ ((rd_T27 t879 (ji39)).f2) _ _ ((rd_T27 t879 (ji39)).f3) t880 t903 false _ ?side1 ?side2 ?side3 ?side4 ?side5 ?side6 ?side7 A42.out).mono ?_); (case side1 => repeat (first | exact (by repeat (first | (with_reducible exact HR902_0.out) | (with_reducible refine Kd.C_alloc ?_ _) | (with_reducible refine Kd.C_drewN ?_ _) | (with_reducible refine Kd.C_drew ?_) | exact HR902_0.out)) | (with_reducible refine Kd.C_alloc ?_ _) | (with_reducible refine Kd.C_drewN ?_ _) | (with_reducible refine Kd.C_drew ?_))); (case side2 => exact HC902_0.out); (case side3 => repeat (first | exact (by repeat (first | (with_reducible exact HR902_3.out) | (with_reducible refine Kd.C_alloc ?_ _) | (with_reducible refine Kd.C_drewN ?_ _) | (with_reducible refine Kd.C_drew ?_) | exact HR902_3.out)) | (with_reducible refine Kd.C_alloc ?_ _) | (with_reducible refine Kd.C_drewN ?_ _) | (with_reducible refine Kd.C_drew ?_))); (case side4 => exact HC902_3.out); (case side5 => repeat (first | exact (by repeat (first | (with_reducible exact HR902_4.out) | (with_reducible refine Kd.C_alloc ?_ _) | (with_reducible refine Kd.C_drewN ?_ _) | (with_reducible refine Kd.C_drew ?_) | exact HR902_4.out)) | (with_reducible refine Kd.C_alloc ?_ _) | (with_reducible refine Kd.C_drewN ?_ _) | (with_reducible refine Kd.C_drew ?_))); (case side6 => exact HC902_4.out); (case side7 => exact GOk.sub (GOk.below HG.out (by repeat (first | (with_reducible first | exact HB.out | apply below_alloc | apply pw_below_drewN | apply below_drew1) | exact HB.out))) (by decide)); rintro e w49 ⟨v904, rfl, ho0, hb⟩; refine ⟨_, rfl, ?_⟩; have n0_ := Aside0.mk (Kd.S_elder' (by (with_reducible repeat (first | apply Kd.S_alloc | apply Kd.S_drewN | apply Kd.S_drew)); exact HO_5.out) (Kd.R_base ho0) hb); have n1_ := Aside0.mk (Kd.R_elder' (by (with_reducible repeat (first | apply Kd.R_alloc | apply Kd.R_drewN | apply Kd.R_drew)); exact HL902_0.out) (Kd.R_base ho0) hb); have n2_ := Aside0.mk (Kd.R_elder' (by (with_reducible repeat (first | apply Kd.R_alloc | apply Kd.R_drewN | apply Kd.R_drew)); exact HL902_3.out) (Kd.R_base ho0) hb); have n3_ := Aside0.mk (Kd.R_elder' (by (with_reducible repeat (first | apply Kd.R_alloc | apply Kd.R_drewN | apply Kd.R_drew)); exact HL902_4.out) (Kd.R_base ho0) hb); have n4_ := Aside0.mk (Kd.R_lower (Kd.R_new' (Kd.R_new' (Kd.R_new' ho0 (Kd.R_lt (by (with_reducible repeat (first | apply Kd.R_alloc | apply Kd.R_drewN | apply Kd.R_drew)); exact HL902_0.out))) (Kd.R_lt (by (with_reducible repeat (first | apply Kd.R_alloc | apply Kd.R_drewN | apply Kd.R_drew)); exact HL902_3.out))) (Kd.R_lt (by (with_reducible repeat (first | apply Kd.R_alloc | apply Kd.R_drewN | apply Kd.R_drew)); exact HL902_4.out))) (below_size (by repeat (first | (with_reducible first | exact HB.out | apply below_alloc | apply pw_below_drewN | apply below_drew1) | exact HB.out)))); have n5_ := Aside0.mk (Kd.C_below (by repeat (first | (with_reducible exact HR902_0.out) | (with_reducible refine Kd.C_alloc ?_ _) | (with_reducible refine Kd.C_drewN ?_ _) | (with_reducible refine Kd.C_drew ?_) | exact HR902_0.out)) hb); have n6_ := Aside0.mk (Kd.C_below (by repeat (first | (with_reducible exact HR902_3.out) | (with_reducible refine Kd.C_alloc ?_ _) | (with_reducible refine Kd.C_drewN ?_ _) | (with_reducible refine Kd.C_drew ?_) | exact HR902_3.out)) hb); have n7_ := Aside0.mk (Kd.C_below (by repeat (first | (with_reducible exact HR902_4.out) | (with_reducible refine Kd.C_alloc ?_ _) | (with_reducible refine Kd.C_drewN ?_ _) | (with_reducible refine Kd.C_drew ?_) | exact HR902_4.out)) hb); have n8_ := Aside0.mk (below_step (by repeat (first | (with_reducible first | exact HB.out | apply below_alloc | apply pw_below_drewN | apply below_drew1) | exact HB.out)) hb); clear HO_5; clear HL902_0; clear HL902_3; clear HL902_4; clear HR902_0; clear HR902_3; clear HR902_4; clear HB; have HO_5 := n0_; have HL902_0 := n1_; have HL902_3 := n2_; have HL902_4 := n3_; have HO905 := n4_; have HR902_0 := n5_; have HR902_3 := n6_; have HR902_4 := n7_; have HB := n8_; clear n0_ n1_ n2_ n3_ n4_ n5_ n6_ n7_ n8_; (try clear hb); (try clear hb2); (try clear hk); (try clear hi); (try clear ho0)))
        go_ret
        exact ⟨by first | rfl | (simp [errW_none, errW_some] <;> rfl) | (simp only [← hji39]; first | rfl | (simp [errW_none, errW_some] <;> rfl)) | (simp [*, errW_none, errW_some] <;> rfl), by repeat (first | (with_reducible first | exact HB.out | apply below_alloc | apply pw_below_drewN | apply below_drew1) | exact HB.out)⟩
       subst c44
       have H1 : ((impl_PsalmRead.f kj16 t879 t880 t903).bind fun t907 => (some (decide (t907 ≥ 1)))) = some r := by rw [if_pos rfl] at H; exact H
       clear H
       have H := H1
       clear H1
       replace H := Option.bind_eq_some_iff.mp H
       obtain ⟨t907, A450, H⟩ := H
       replace H : (some (decide (t907 ≥ 1))) = some r := H
       have A45 := Aside0.mk A450
       clear A450
       obtain rfl := Option.some.inj H
       have p902 : 0 ≤ ((ji39) : Int) := of_decide_eq_true (by first | (with_reducible assumption) | assumption)
       have q902 : (ji39) < (t879.length : Int) := of_decide_eq_true (by first | (with_reducible assumption) | assumption)
       obtain ⟨ad902, A902_0, c902_0, A902_3, c902_3, A902_4, c902_4, e902, hx902_0, hx902_1, hx902_2, hx902_3, hx902_4, hl902_0, hi902_0, hl902_3, hi902_3, hl902_4, hi902_4⟩ := at_T27 (Kd.S_reads' HO_5.out).2.2 (ji39) p902 q902
       cases e902
       obtain ⟨ce902, hce902, hMe902, hcc902⟩ := Kd.S_get HO_5.out z27 (ji39) p902 (by first | exact q902 | exact of_decide_eq_true (by first | (with_reducible assumption) | assumption) | (have e_ := (Kd.S_reads' HO_5.out).1; omega))
       obtain ⟨ve902_0, ve902_3, ve902_4, rfl, ge902_0, ge902_3, ge902_4⟩ := k27_openM hMe902
       have hv902_0 := hcc902 0 _ rfl
       rw [Nat.add_zero] at hv902_0
       replace hv902_0 := Option.some.inj (hv902_0.symm.trans hx902_0)
       rw [hv902_0] at ge902_0
       have HL902_0 := Aside0.mk (show Kd.R k25 25 _ _ _ _ ((rd_T27 t879 (ji39)).f0) from ge902_0)
       clear hv902_0 ge902_0
       have hv902_3 := hcc902 3 _ rfl
       rw [add_field _ _ 3 (by omega)] at hv902_3
       replace hv902_3 := Option.some.inj (hv902_3.symm.trans hx902_3)
       rw [hv902_3] at ge902_3
       have HL902_3 := Aside0.mk (show Kd.R k25 25 _ _ _ _ ((rd_T27 t879 (ji39)).f2) from ge902_3)
       clear hv902_3 ge902_3
       have hv902_4 := hcc902 4 _ rfl
       rw [add_field _ _ 4 (by omega)] at hv902_4
       replace hv902_4 := Option.some.inj (hv902_4.symm.trans hx902_4)
       rw [hv902_4] at ge902_4
       have HL902_4 := Aside0.mk (show Kd.R k25 25 _ _ _ _ ((rd_T27 t879 (ji39)).f3) from ge902_4)
       clear hv902_4 ge902_4
       clear hcc902 hce902
       have HR902_0 := Aside0.mk hi902_0
       have HC902_0 := Aside0.mk hl902_0
       clear hi902_0 hl902_0
       have HR902_3 := Aside0.mk hi902_3
       have HC902_3 := Aside0.mk hl902_3
       clear hi902_3 hl902_3
       have HR902_4 := Aside0.mk hi902_4
       have HC902_4 := Aside0.mk hl902_4
       clear hi902_4 hl902_4
       replace p902 := eq_true p902
       replace q902 := eq_true q902
       go_wp2_with (first | ((with_reducible refine gate_callee (f := 19) rfl ?_); refine goesL_ (some 82) rfl rfl Tryd.func19 (by kernel_rfl) rfl #[.agg #[.slice A902_0 ((rd_T27 t879 (ji39)).f0).length c902_0, .int .i64 ((rd_T27 t879 (ji39)).f1.f0), .bool ((rd_T27 t879 (ji39)).f1.f1), .slice A902_3 ((rd_T27 t879 (ji39)).f2).length c902_3, .slice A902_4 ((rd_T27 t879 (ji39)).f3).length c902_4], .string t880] rfl (by (try simp only [List.map_toArray, List.map_cons, List.map_nil]); first | done | (simp only [hji39]; rfl) | rfl | (simp only [List.length_drop, List.length_take]; rfl)) ?_; (with_reducible refine (impl_PsalmSing.calls kj16 _ _ ((rd_T27 t879 (ji39)).f0) ((rd_T27 t879 (ji39)).f1.f0) ((rd_T27 t879 (ji39)).f1.f1) _ _ ((rd_T27 t879 (ji39)).f2) _ _ ((rd_T27 t879 (ji39)).f3) t880 t903 true _ ?side1 ?side2 ?side3 ?side4 ?side5 ?side6 ?side7 A42.out).mono ?_); (case side1 => repeat (first | exact (by repeat (first | (with_reducible exact HR902_0.out) | (with_reducible refine Kd.C_alloc ?_ _) | (with_reducible refine Kd.C_drewN ?_ _) | (with_reducible refine Kd.C_drew ?_) | exact HR902_0.out)) | (with_reducible refine Kd.C_alloc ?_ _) | (with_reducible refine Kd.C_drewN ?_ _) | (with_reducible refine Kd.C_drew ?_))); (case side2 => exact HC902_0.out); (case side3 => repeat (first | exact (by repeat (first | (with_reducible exact HR902_3.out) | (with_reducible refine Kd.C_alloc ?_ _) | (with_reducible refine Kd.C_drewN ?_ _) | (with_reducible refine Kd.C_drew ?_) | exact HR902_3.out)) | (with_reducible refine Kd.C_alloc ?_ _) | (with_reducible refine Kd.C_drewN ?_ _) | (with_reducible refine Kd.C_drew ?_))); (case side4 => exact HC902_3.out); (case side5 => repeat (first | exact (by repeat (first | (with_reducible exact HR902_4.out) | (with_reducible refine Kd.C_alloc ?_ _) | (with_reducible refine Kd.C_drewN ?_ _) | (with_reducible refine Kd.C_drew ?_) | exact HR902_4.out)) | (with_reducible refine Kd.C_alloc ?_ _) | (with_reducible refine Kd.C_drewN ?_ _) | (with_reducible refine Kd.C_drew ?_))); (case side6 => exact HC902_4.out); (case side7 => exact GOk.sub (GOk.below HG.out (by repeat (first | (with_reducible first | exact HB.out | apply below_alloc | apply pw_below_drewN | apply below_drew1) | exact HB.out))) (by decide)); rintro e w46 ⟨v904, rfl, ho0, hb⟩; refine ⟨_, rfl, ?_⟩; have n0_ := Aside0.mk (Kd.S_elder' (by (with_reducible repeat (first | apply Kd.S_alloc | apply Kd.S_drewN | apply Kd.S_drew)); exact HO_5.out) (Kd.R_base ho0) hb); have n1_ := Aside0.mk (Kd.R_elder' (by (with_reducible repeat (first | apply Kd.R_alloc | apply Kd.R_drewN | apply Kd.R_drew)); exact HL902_0.out) (Kd.R_base ho0) hb); have n2_ := Aside0.mk (Kd.R_elder' (by (with_reducible repeat (first | apply Kd.R_alloc | apply Kd.R_drewN | apply Kd.R_drew)); exact HL902_3.out) (Kd.R_base ho0) hb); have n3_ := Aside0.mk (Kd.R_elder' (by (with_reducible repeat (first | apply Kd.R_alloc | apply Kd.R_drewN | apply Kd.R_drew)); exact HL902_4.out) (Kd.R_base ho0) hb); have n4_ := Aside0.mk (Kd.R_lower (Kd.R_new' (Kd.R_new' (Kd.R_new' ho0 (Kd.R_lt (by (with_reducible repeat (first | apply Kd.R_alloc | apply Kd.R_drewN | apply Kd.R_drew)); exact HL902_0.out))) (Kd.R_lt (by (with_reducible repeat (first | apply Kd.R_alloc | apply Kd.R_drewN | apply Kd.R_drew)); exact HL902_3.out))) (Kd.R_lt (by (with_reducible repeat (first | apply Kd.R_alloc | apply Kd.R_drewN | apply Kd.R_drew)); exact HL902_4.out))) (below_size (by repeat (first | (with_reducible first | exact HB.out | apply below_alloc | apply pw_below_drewN | apply below_drew1) | exact HB.out)))); have n5_ := Aside0.mk (Kd.C_below (by repeat (first | (with_reducible exact HR902_0.out) | (with_reducible refine Kd.C_alloc ?_ _) | (with_reducible refine Kd.C_drewN ?_ _) | (with_reducible refine Kd.C_drew ?_) | exact HR902_0.out)) hb); have n6_ := Aside0.mk (Kd.C_below (by repeat (first | (with_reducible exact HR902_3.out) | (with_reducible refine Kd.C_alloc ?_ _) | (with_reducible refine Kd.C_drewN ?_ _) | (with_reducible refine Kd.C_drew ?_) | exact HR902_3.out)) hb); have n7_ := Aside0.mk (Kd.C_below (by repeat (first | (with_reducible exact HR902_4.out) | (with_reducible refine Kd.C_alloc ?_ _) | (with_reducible refine Kd.C_drewN ?_ _) | (with_reducible refine Kd.C_drew ?_) | exact HR902_4.out)) hb); have n8_ := Aside0.mk (below_step (by repeat (first | (with_reducible first | exact HB.out | apply below_alloc | apply pw_below_drewN | apply below_drew1) | exact HB.out)) hb); clear HO_5; clear HL902_0; clear HL902_3; clear HL902_4; clear HR902_0; clear HR902_3; clear HR902_4; clear HB; have HO_5 := n0_; have HL902_0 := n1_; have HL902_3 := n2_; have HL902_4 := n3_; have HO905 := n4_; have HR902_0 := n5_; have HR902_3 := n6_; have HR902_4 := n7_; have HB := n8_; clear n0_ n1_ n2_ n3_ n4_ n5_ n6_ n7_ n8_; (try clear hb); (try clear hb2); (try clear hk); (try clear hi); (try clear ho0); obtain ⟨Ao47, co47, eo47⟩ := Kd.R_slice HO905.out; subst eo47) | (go_at_call 44; (with_reducible refine (impl_PsalmRead.calls kj16 _ _ t879 t880 _ _ t903 t907 _ ?side1 ?side2 ?side3 ?side4 ?side5 A45.out).mono ?_); (case side1 => repeat (first | exact (Kd.S_reads' HO_5.out).2.2 | (with_reducible refine Kd.C_alloc ?_ _) | (with_reducible refine Kd.C_drewN ?_ _) | (with_reducible refine Kd.C_drew ?_))); (case side2 => exact (Kd.S_reads' HO_5.out).2.1); (case side3 => repeat (first | exact (Kd.R_reads' HO905.out).2.2 | (with_reducible refine Kd.C_alloc ?_ _) | (with_reducible refine Kd.C_drewN ?_ _) | (with_reducible refine Kd.C_drew ?_))); (case side4 => exact (Kd.R_reads' HO905.out).2.1); (case side5 => exact GOk.sub (GOk.below HG.out (by repeat (first | (with_reducible first | exact HB.out | apply below_alloc | apply pw_below_drewN | apply below_drew1) | exact HB.out))) (by decide)); rintro e w48 ⟨rfl, hb⟩; have n0_ := Aside0.mk (Kd.S_below (by (with_reducible repeat (first | apply Kd.S_alloc | apply Kd.S_drewN | apply Kd.S_drew)); exact HO_5.out) hb); have n1_ := Aside0.mk (Kd.R_below (by (with_reducible repeat (first | apply Kd.R_alloc | apply Kd.R_drewN | apply Kd.R_drew)); exact HL902_0.out) hb); have n2_ := Aside0.mk (Kd.R_below (by (with_reducible repeat (first | apply Kd.R_alloc | apply Kd.R_drewN | apply Kd.R_drew)); exact HL902_3.out) hb); have n3_ := Aside0.mk (Kd.R_below (by (with_reducible repeat (first | apply Kd.R_alloc | apply Kd.R_drewN | apply Kd.R_drew)); exact HL902_4.out) hb); have n4_ := Aside0.mk (Kd.R_below (by (with_reducible repeat (first | apply Kd.R_alloc | apply Kd.R_drewN | apply Kd.R_drew)); exact HO905.out) hb); have n5_ := Aside0.mk (Kd.C_below (by repeat (first | (with_reducible exact HR902_0.out) | (with_reducible refine Kd.C_alloc ?_ _) | (with_reducible refine Kd.C_drewN ?_ _) | (with_reducible refine Kd.C_drew ?_) | exact HR902_0.out)) hb); have n6_ := Aside0.mk (Kd.C_below (by repeat (first | (with_reducible exact HR902_3.out) | (with_reducible refine Kd.C_alloc ?_ _) | (with_reducible refine Kd.C_drewN ?_ _) | (with_reducible refine Kd.C_drew ?_) | exact HR902_3.out)) hb); have n7_ := Aside0.mk (Kd.C_below (by repeat (first | (with_reducible exact HR902_4.out) | (with_reducible refine Kd.C_alloc ?_ _) | (with_reducible refine Kd.C_drewN ?_ _) | (with_reducible refine Kd.C_drew ?_) | exact HR902_4.out)) hb); have n8_ := Aside0.mk (below_step (by repeat (first | (with_reducible first | exact HB.out | apply below_alloc | apply pw_below_drewN | apply below_drew1) | exact HB.out)) hb); clear HO_5; clear HL902_0; clear HL902_3; clear HL902_4; clear HO905; clear HR902_0; clear HR902_3; clear HR902_4; clear HB; have HO_5 := n0_; have HL902_0 := n1_; have HL902_3 := n2_; have HL902_4 := n3_; have HO905 := n4_; have HR902_0 := n5_; have HR902_3 := n6_; have HR902_4 := n7_; have HB := n8_; clear n0_ n1_ n2_ n3_ n4_ n5_ n6_ n7_ n8_; (try clear hb); (try clear hb2); (try clear hk); (try clear hi)))
       go_ret
       exact ⟨by first | rfl | (simp [errW_none, errW_some] <;> rfl) | (simp only [← hji39]; first | rfl | (simp [errW_none, errW_some] <;> rfl)) | (simp [*, errW_none, errW_some] <;> rfl), by repeat (first | (with_reducible first | exact HB.out | apply below_alloc | apply pw_below_drewN | apply below_drew1) | exact HB.out)⟩
def laws_FnPsalmRead.Pure : Prop := ∀ (l0 : List Int) (l1 : List Int), l0.length ≤ maxLen → l0.length * 1 ≤ 140737488351232 → (∀ x ∈ l0, (Lit.int .u8 x).wf = true) → l1.length ≤ maxLen → l1.length * 1 ≤ 140737488351232 → (∀ x ∈ l1, (Lit.int .u8 x).wf = true) → ∃ k, laws_FnPsalmRead.f k l0 l1 = some true
end Go.Proofs.YtdgmkfbmeaalpaaDoor.E
end
section
namespace Go.Proofs.YtdgmkfbmeaalpaaDoor.Pur
open Go.RowKit Go.Proofs.YtdgmkfbmeaalpaaDoorW.PrintWords
def EvP {α : Type} (g : Nat → Option α) (P : α → Prop) : Prop := ∃ r, Ev g r ∧ P r
section
variable {α β : Type}
theorem EvP.bind {g : Nat → Option α} {f : Nat → α → Option β} {P : α → Prop} {Q : β → Prop} (h : EvP g P) (k : ∀ a, P a → EvP (fun n => f n a) Q) : EvP (fun n => (g n).bind (f n)) Q := by
  obtain ⟨a, ha, hp⟩ := h
  obtain ⟨b, hb, hq⟩ := k a hp
  exact ⟨b, Ev.bind ha hb, hq⟩
theorem EvP.ret {P : α → Prop} {r : α} (h : P r) : EvP (fun _ => some r) P := ⟨r, Ev.now r, h⟩
theorem EvP.con {o : Option α} {P : α → Prop} {r : α} (h : o = some r) (hp : P r) : EvP (fun _ => o) P := by subst h; exact .ret hp
theorem EvP.ite {c : Prop} [Decidable c] {f g : Nat → Option α} {P : α → Prop} (h : c → EvP f P) (k : ¬ c → EvP g P) : EvP (fun n => if c then f n else g n) P := by
  by_cases hc : c
  · obtain ⟨r, hr, hp⟩ := h hc
    exact ⟨r, Ev.congr (fun n => if_pos hc) hr, hp⟩
  · obtain ⟨r, hr, hp⟩ := k hc
    exact ⟨r, Ev.congr (fun n => if_neg hc) hr, hp⟩
theorem EvP.yes {c : Prop} [Decidable c] {f g : Nat → Option α} {P : α → Prop} (hc : c) (h : EvP f P) : EvP (fun n => if c then f n else g n) P := .ite (fun _ => h) (fun k => absurd hc k)
theorem EvP.no {c : Prop} [Decidable c] {f g : Nat → Option α} {P : α → Prop} (hc : ¬ c) (h : EvP g P) : EvP (fun n => if c then f n else g n) P := .ite (fun k => absurd k hc) (fun _ => h)
theorem EvP.step {g f : Nat → Option α} {P : α → Prop} (h : ∀ k, g (k + 1) = f k) (k : EvP f P) : EvP g P := by
  obtain ⟨r, hr, hp⟩ := k
  exact ⟨r, Ev.step h hr, hp⟩
theorem EvP.succ {g : Nat → Option α} {P : α → Prop} (k : EvP (fun n => g (n + 1)) P) : EvP g P := EvP.step (fun _ => rfl) k
theorem EvP.mono {g : Nat → Option α} {P Q : α → Prop} (h : EvP g P) (k : ∀ r, P r → Q r) : EvP g Q := by
  obtain ⟨r, hr, hp⟩ := h
  exact ⟨r, hr, k r hp⟩
theorem EvP.rounds {g : Nat → Option α} {r : α} (h : EvP g (· = r)) : ∃ k, g k = some r := by
  obtain ⟨_, hr, rfl⟩ := h
  exact hr.rounds
end
structure Hd (p : Prop) : Prop where mk :: (out : p)
theorem w64 {i : Int} (h0 : -9223372036854775808 ≤ i) (h1 : i ≤ 9223372036854775807) : wrap64 i = i := by unfold wrap64; omega
theorem tmod_pos {a : Int} (b : Int) (h : 0 ≤ a) : Int.tmod a b = a % b := Int.tmod_eq_emod_of_nonneg h
theorem tdiv_pos {a : Int} (b : Int) (h : 0 ≤ a) : Int.tdiv a b = a / b := Int.tdiv_eq_ediv_of_nonneg h
theorem toNat_nat (n : Nat) : ((n : Int)).toNat = n := rfl
theorem toNat_succ (n : Nat) : ((n : Int) + 1).toNat = n + 1 := by omega
end Go.Proofs.YtdgmkfbmeaalpaaDoor.Pur
end
section
namespace Go.Proofs.YtdgmkfbmeaalpaaDoor.E
open Go.RowKit Go.Proofs.YtdgmkfbmeaalpaaDoorW.PrintWords Go.Proofs.YtdgmkfbmeaalpaaDoorW.PrintLast Go.Proofs.YtdgmkfbmeaalpaaDoorW.PrintMore
attribute [local go_sem] max2_int min2_int max_two min_two max_three min_three max_four min_four
set_option linter.unusedVariables false
set_option linter.unusedSimpArgs false
attribute [local go_sem] str_leq_ str_gtr_ str_geq_
def spec_VerseSyllables.f (k : Nat) (a0 : ByteArray) : Option (Int) := (spec_VerseValid.f k a0).bind fun t314 => (if t314 = true then (some (wrap64 ((a0.size : Int) - 1))) else (some (-1)))
end Go.Proofs.YtdgmkfbmeaalpaaDoor.E
end
section
namespace Go.Proofs.YtdgmkfbmeaalpaaDoor.E
open Go.RowKit Go.Proofs.YtdgmkfbmeaalpaaDoorW.PrintWords Go.Proofs.YtdgmkfbmeaalpaaDoorW.PrintLast Go.Proofs.YtdgmkfbmeaalpaaDoorW.PrintMore
attribute [local go_sem] max2_int min2_int max_two min_two max_three min_three max_four min_four
set_option linter.unusedVariables false
set_option linter.unusedSimpArgs false
attribute [local go_sem] str_leq_ str_gtr_ str_geq_
def impl_VerseSyllables.f (a0 : ByteArray) : Option (Int) := (impl_VerseHalves.f a0).bind fun bt613 => (if bt613.2.2 = true then (some (wrap64 ((bt613.1.size : Int) + (bt613.2.1.size : Int)))) else (some (-1)))
end Go.Proofs.YtdgmkfbmeaalpaaDoor.E
end
section
namespace Go.Proofs.YtdgmkfbmeaalpaaDoor.Pur
open Go.RowKit Go.Proofs.YtdgmkfbmeaalpaaDoorW.PrintWords Go.Proofs.YtdgmkfbmeaalpaaDoorW.PrintMore Go.Proofs.YtdgmkfbmeaalpaaDoor.E
theorem bt_at (t : ByteArray) (i : Nat) (h : i < t.size) : bt t (i : Int) = ((t.data.toList[i]'(by rw [Array.length_toList]; exact h)).toNat : Int) := by
  unfold bt
  rw [toNat_nat, dif_pos h, Array.getElem_toList]
  rfl
theorem list_len (t : ByteArray) : t.data.toList.length = t.size := Array.length_toList
theorem ba_ext {a b : ByteArray} (h : a.data.toList = b.data.toList) : a = b := by
  cases a; cases b
  congr 1
  exact Array.toList_inj.mp h
theorem ba_list (l : List UInt8) : (⟨l.toArray⟩ : ByteArray).data.toList = l := rfl
theorem ba_size (l : List UInt8) : (⟨l.toArray⟩ : ByteArray).size = l.length := by rw [← list_len]
def cutL : List UInt8 → List UInt8 × List UInt8 × Bool
  | [] => ([], [], false)
  | b :: l => if b = 124 then ([], l, true) else (b :: (cutL l).1, (cutL l).2.1, (cutL l).2.2)
theorem cut_is : ∀ l : List UInt8, Lib.cut l [124] = if (cutL l).2.2 = true then cutL l else (l, [], false)
  | [] => rfl
  | b :: l => by
    have ih := cut_is l
    have hge := Lib.index_ge l [124]
    have hp : List.isPrefixOf [(124 : UInt8)] (b :: l) = ((124 : UInt8) == b) := by simp [List.isPrefixOf]
    unfold Lib.cut at ih ⊢
    rw [Lib.index, hp, cutL]
    by_cases h : b = 124
    · subst h
      simp
    · rw [if_neg h, show ((124 : UInt8) == b) = false from beq_eq_false_iff_ne.mpr (fun e => h e.symm)]
      simp only [Bool.false_eq_true, if_false]
      by_cases g : Lib.index l [124] = -1
      · have e : (if (Lib.index l [124] == -1) = true then -1 else Lib.index l [124] + 1) = -1 := by rw [g]; rfl
        rw [e, if_neg (by decide)]
        rw [g, if_neg (by decide)] at ih
        by_cases k : (cutL l).2.2 = true
        · rw [if_pos k] at ih
          rw [← ih] at k
          exact absurd k Bool.false_ne_true
        · rw [if_neg k]
      · have e : (if (Lib.index l [124] == -1) = true then -1 else Lib.index l [124] + 1) = Lib.index l [124] + 1 := if_neg (fun h => g (by simpa using h))
        rw [e, if_pos (by omega)]
        rw [if_pos (by omega)] at ih
        by_cases k : (cutL l).2.2 = true
        · rw [if_pos k] at ih ⊢
          rw [← ih]
          obtain ⟨j, ej⟩ : ∃ j : Nat, Lib.index l [124] = (j : Int) := ⟨(Lib.index l [124]).toNat, by omega⟩
          rw [ej]
          simp only [toNat_nat, toNat_succ, List.take_succ_cons, List.length_singleton]
          rw [show j + 1 + 1 = (j + 1) + 1 from rfl, List.drop_succ_cons]
        · rw [if_neg k] at ih
          have := congrArg (fun x => x.2.2) ih
          exact absurd this (by simp)
theorem cut_miss : ∀ l : List UInt8, (cutL l).2.2 = false → cutL l = (l, [], false)
  | [], _ => rfl
  | b :: l, h => by
    rw [cutL] at h ⊢
    by_cases g : b = 124
    · rw [if_pos g] at h; cases h
    · rw [if_neg g] at h ⊢
      have := cut_miss l h
      rw [this]
theorem cut_eq (l : List UInt8) : Lib.cut l [124] = cutL l := by
  rw [cut_is]
  by_cases h : (cutL l).2.2 = true
  · rw [if_pos h]
  · rw [if_neg h, cut_miss l (Bool.eq_false_iff.mpr h)]
theorem cut_len : ∀ l : List UInt8, (cutL l).1.length + (cutL l).2.1.length + (if (cutL l).2.2 = true then 1 else 0) = l.length
  | [] => rfl
  | b :: l => by
    have ih := cut_len l
    rw [cutL]
    by_cases g : b = 124
    · rw [if_pos g]; simp
    · rw [if_neg g]
      simp only [List.length_cons]
      omega
def halfL (l : List UInt8) : Bool := !l.isEmpty && l.all (fun b => b == 120 || b == 47)
def verse (s : ByteArray) : Option (ByteArray × ByteArray) := if (cutL s.data.toList).2.2 = true ∧ halfL (cutL s.data.toList).1 = true ∧ halfL (cutL s.data.toList).2.1 = true ∧ (cutL s.data.toList).1.length + (cutL s.data.toList).2.1.length ≤ 20 then some (⟨(cutL s.data.toList).1.toArray⟩, ⟨(cutL s.data.toList).2.1.toArray⟩) else none
def halvesOf (s : ByteArray) : ByteArray × ByteArray × Bool := match verse s with
  | some (a, b) => (a, b, true)
  | none => (⟨#[]⟩, ⟨#[]⟩, false)
theorem verse_some {s a b : ByteArray} (h : verse s = some (a, b)) : a.size + b.size ≤ 20 ∧ 1 ≤ a.size ∧ 1 ≤ b.size ∧ s.size = a.size + b.size + 1 ∧ halfL a.data.toList = true ∧ halfL b.data.toList = true ∧ a.data.toList = (cutL s.data.toList).1 ∧ b.data.toList = (cutL s.data.toList).2.1 := by
  unfold verse at h
  split at h
  · rename_i g
    obtain ⟨g1, g2, g3, g4⟩ := g
    simp only [Option.some.injEq, Prod.mk.injEq] at h
    obtain ⟨rfl, rfl⟩ := h
    have hl := cut_len s.data.toList
    rw [if_pos g1, list_len s] at hl
    have n1 : 1 ≤ (cutL s.data.toList).1.length := by
      rw [halfL, Bool.and_eq_true] at g2
      have := g2.1
      rcases e : (cutL s.data.toList).1 with _ | ⟨x, y⟩
      · rw [e] at this; simp at this
      · simp
    have n2 : 1 ≤ (cutL s.data.toList).2.1.length := by
      rw [halfL, Bool.and_eq_true] at g3
      have := g3.1
      rcases e : (cutL s.data.toList).2.1 with _ | ⟨x, y⟩
      · rw [e] at this; simp at this
      · simp
    have e1 := ba_size (cutL s.data.toList).1
    have e2 := ba_size (cutL s.data.toList).2.1
    refine ⟨by omega, by omega, by omega, by omega, g2, g3, rfl, rfl⟩
  · cases h
theorem dropWhile_nil {α : Type} (p : α → Bool) : ∀ l : List α, l.dropWhile p = [] ↔ l.all p = true
  | [] => by simp
  | a :: l => by
    by_cases h : p a = true
    · simp [h, dropWhile_nil p l]
    · simp [h]
theorem trim_nil (l cs : List UInt8) : Lib.trimS l cs = [] ↔ l.all (cs.contains ·) = true := by
  unfold Lib.trimS Lib.trimLeftS Lib.trimRightS
  rw [dropWhile_nil, List.all_reverse]
  constructor
  · intro h
    rw [List.all_eq_true] at h ⊢
    intro x hx
    by_cases hm : x ∈ l.reverse.dropWhile (cs.contains ·)
    · exact h x hm
    · have hs := List.takeWhile_append_dropWhile (p := fun y => cs.contains y) (l := l.reverse)
      have hx' : x ∈ l.reverse := List.mem_reverse.mpr hx
      rw [← hs, List.mem_append] at hx'
      rcases hx' with g | g
      · have := List.all_takeWhile (p := fun y => cs.contains y) (l := l.reverse)
        rw [List.all_eq_true] at this
        exact this x g
      · exact absurd g hm
  · intro h
    rw [List.all_eq_true] at h ⊢
    intro x hx
    have := (List.dropWhile_sublist (fun y => cs.contains y) (l := l.reverse)).subset hx
    exact h x (List.mem_reverse.mp this)
theorem half_is (t : ByteArray) (ht : t.size ≤ 1000000) : impl_halfValid.f t = some (halfL t.data.toList) := by
  unfold impl_halfValid.f halfL
  rw [ByteArray.toList_eq]
  by_cases h0 : t.data.toList = ([] : List UInt8)
  · rw [if_pos h0, h0]
    rfl
  · rw [if_neg h0]
    unfold strings_Trim.f
    rw [if_pos (by omega), if_pos (by decide), if_pos (by decide)]
    simp only [Option.bind_some]
    congr 1
    have e : (t.data.toList.all (fun b => [120, 47].contains b)) = t.data.toList.all (fun b => b == 120 || b == 47) := by
      congr 1
      funext b
      simp only [List.contains, List.elem]
      cases b == 120 <;> cases b == 47 <;> rfl
    have hne : (!t.data.toList.isEmpty) = true := by
      rcases e : t.data.toList with _ | ⟨x, y⟩
      · exact absurd e h0
      · rfl
    rw [hne, Bool.true_and, ← e]
    rw [Bool.eq_iff_iff, beq_iff_eq, ByteArray.toList_eq]
    exact trim_nil t.data.toList [120, 47]
theorem impl_halves (s : ByteArray) (hs : s.size ≤ 100000000) : impl_VerseHalves.f s = some (halvesOf s) := by
  have hl := cut_len s.data.toList
  rw [list_len s] at hl
  have sz1 : (⟨(cutL s.data.toList).1.toArray⟩ : ByteArray).size = (cutL s.data.toList).1.length := ba_size _
  have sz2 : (⟨(cutL s.data.toList).2.1.toArray⟩ : ByteArray).size = (cutL s.data.toList).2.1.length := ba_size _
  unfold impl_VerseHalves.f strings_Cut.f halvesOf verse
  rw [if_pos (by omega), show (⟨#[124]⟩ : ByteArray).data.toList = [124] from rfl, cut_eq]
  simp only [Option.bind_some]
  by_cases g1 : (cutL s.data.toList).2.2 = true
  rotate_left
  · rw [if_neg g1, if_neg (fun h => g1 h.1)]
  rw [if_pos g1, sz1, sz2, w64 (by omega) (by omega)]
  by_cases g4 : (cutL s.data.toList).1.length + (cutL s.data.toList).2.1.length ≤ 20
  rotate_left
  · rw [if_pos (by omega), if_neg (fun h => g4 h.2.2.2)]
  rw [if_neg (by omega), half_is _ (by omega), half_is _ (by omega)]
  simp only [Option.bind_some]
  by_cases g2 : halfL (cutL s.data.toList).1 = true
  rotate_left
  · rw [if_neg g2, if_neg (fun h => g2 h.2.1)]
  rw [if_pos g2]
  by_cases g3 : halfL (cutL s.data.toList).2.1 = true
  · rw [if_pos g3, if_pos ⟨g1, g2, g3, g4⟩]
  · rw [if_neg g3, if_neg (fun h => g3 h.2.2.1)]
def hv (s : ByteArray) : ByteArray × ByteArray := (⟨(cutL s.data.toList).1.toArray⟩, ⟨(cutL s.data.toList).2.1.toArray⟩)
theorem cut_at : ∀ (l : List UInt8) (i : Nat), (∀ j, j < i → l[j]? ≠ some 124) → (cutL l).1 = l.take i ++ (cutL (l.drop i)).1 ∧ (cutL l).2.1 = (cutL (l.drop i)).2.1 ∧ (cutL l).2.2 = (cutL (l.drop i)).2.2
  | _, 0, _ => ⟨rfl, rfl, rfl⟩
  | [], i + 1, _ => ⟨rfl, rfl, rfl⟩
  | b :: l, i + 1, h => by
    have hb : b ≠ 124 := fun e => h 0 (by omega) (by rw [e]; rfl)
    have ih := cut_at l i (fun j hj => by have := h (j + 1) (by omega); rwa [List.getElem?_cons_succ] at this)
    rw [cutL, if_neg hb]
    refine ⟨?_, ih.2.1, ih.2.2⟩
    rw [List.take_succ_cons, List.drop_succ_cons, List.cons_append, ih.1]
theorem spec_halves_loop (s : ByteArray) (hs : s.size ≤ 100000000) : ∀ (d i : Nat), i + d = s.size → (∀ j, j < i → s.data.toList[j]? ≠ some 124) → EvP (fun k => spec_l4Halves.l0 k s (i : Int)) (· = hv s) := by
  intro d
  induction d with
  | zero =>
    intro i hi hn
    refine EvP.succ ?_
    simp only [spec_l4Halves.l0]
    refine EvP.no (by omega) (EvP.ret ?_)
    obtain ⟨a, b, c⟩ := cut_at s.data.toList i hn
    have e : s.data.toList.drop i = [] := List.drop_of_length_le (by rw [list_len]; omega)
    rw [e] at a b
    have e2 : s.data.toList.take i = s.data.toList := List.take_of_length_le (by rw [list_len]; omega)
    unfold hv
    rw [a, b, e2]
    refine Prod.ext (ba_ext ?_) (ba_ext rfl)
    rw [ba_list]
    simp [cutL]
  | succ d ih =>
    intro i hi hn
    have hlt : i < s.data.toList.length := by rw [list_len]; omega
    have e2 : Hd (wrap64 ((i : Int) + 1) = ((i + 1 : Nat) : Int)) := ⟨w64 (by omega) (by omega)⟩
    refine EvP.succ ?_
    simp only [spec_l4Halves.l0]
    refine EvP.yes (by omega) (EvP.yes (by omega) ?_)
    rw [bt_at s i (by omega), e2.out]
    refine EvP.ite (fun g => ?_) (fun g => ?_)
    · refine EvP.yes (by omega) (EvP.yes (by omega) (EvP.yes (by omega) (EvP.ret ?_)))
      have eb : s.data.toList[i] = 124 := by rw [← UInt8.toNat_inj]; show _ = 124; omega
      obtain ⟨a, b, c⟩ := cut_at s.data.toList i hn
      rw [List.drop_eq_getElem_cons hlt, eb, cutL, if_pos rfl] at a b
      unfold hv
      rw [a, b]
      refine Prod.ext (ba_ext ?_) (ba_ext ?_)
      · show (s.extract 0 (i : Int).toNat).data.toList = List.take i s.data.toList ++ []
        rw [Lib.extract_eq, toNat_nat, List.append_nil]
        rfl
      · show (s.extract ((i + 1 : Nat) : Int).toNat s.size).data.toList = List.drop (i + 1) s.data.toList
        rw [Lib.extract_eq, toNat_nat, ba_list, List.take_of_length_le (by rw [List.length_drop, list_len s]; omega)]
    · refine ih (i + 1) (by omega) (fun j hj e => ?_)
      by_cases ej : j = i
      · subst ej
        rw [List.getElem?_eq_getElem hlt] at e
        have := Option.some.inj e
        rw [this] at g
        exact g rfl
      · exact hn j (by omega) e
theorem spec_halves (s : ByteArray) (hs : s.size ≤ 100000000) : EvP (fun k => spec_l4Halves.f k s) (· = hv s) := by
  unfold spec_l4Halves.f
  exact spec_halves_loop s hs s.size 0 (by omega) (fun j hj => by omega)
theorem spec_half_loop (t : ByteArray) (ht : t.size ≤ 100000000) : ∀ (d i : Nat), i + d = t.size → EvP (fun k => spec_l4Half.l0 k t (i : Int)) (· = ((t.data.toList.drop i).all (fun b => b == 120 || b == 47) && decide (t.size > 0))) := by
  intro d
  induction d with
  | zero =>
    intro i hi
    refine EvP.succ ?_
    simp only [spec_l4Half.l0]
    refine EvP.no (by omega) (EvP.ret ?_)
    rw [List.drop_of_length_le (by rw [list_len]; omega)]
    rw [List.all_nil, Bool.true_and]
    exact decide_eq_decide.mpr (by omega)
  | succ d ih =>
    intro i hi
    have hlt : i < t.data.toList.length := by rw [list_len]; omega
    have e2 : Hd (wrap64 ((i : Int) + 1) = ((i + 1 : Nat) : Int)) := ⟨w64 (by omega) (by omega)⟩
    refine EvP.succ ?_
    simp only [spec_l4Half.l0]
    refine EvP.yes (by omega) (EvP.yes (by omega) ?_)
    rw [bt_at t i (by omega), e2.out, List.drop_eq_getElem_cons hlt, List.all_cons]
    refine EvP.ite (fun g => ?_) (fun g => EvP.ite (fun g' => ?_) (fun g' => EvP.ret ?_))
    · rw [show t.data.toList[i] = 120 from by rw [← UInt8.toNat_inj]; show _ = 120; omega]
      exact ih (i + 1) (by omega)
    · rw [show t.data.toList[i] = 47 from by rw [← UInt8.toNat_inj]; show _ = 47; omega]
      exact ih (i + 1) (by omega)
    · rw [show (t.data.toList[i] == 120) = false from beq_eq_false_iff_ne.mpr (fun e => g (by rw [e]; rfl)), show (t.data.toList[i] == 47) = false from beq_eq_false_iff_ne.mpr (fun e => g' (by rw [e]; rfl))]
      rfl
theorem spec_half (t : ByteArray) (ht : t.size ≤ 100000000) : EvP (fun k => spec_l4Half.f k t) (· = halfL t.data.toList) := by
  unfold spec_l4Half.f
  refine (spec_half_loop t ht t.size 0 (by omega)).mono (fun r e => ?_)
  rw [e, List.drop_zero, Bool.and_comm]
  unfold halfL
  congr 1
  rw [← list_len]
  rcases t.data.toList with _ | ⟨x, y⟩
  · rfl
  · simp
theorem hv_of {s a b : ByteArray} (h : verse s = some (a, b)) : hv s = (a, b) := by
  obtain ⟨_, _, _, _, _, _, e1, e2⟩ := verse_some h
  unfold hv
  exact Prod.ext (ba_ext e1.symm) (ba_ext e2.symm)
theorem spec_valid_v (s : ByteArray) (hs : s.size ≤ 100000000) : EvP (fun k => spec_VerseValid.f k s) (· = (verse s).isSome) := by
  have hl := cut_len s.data.toList
  rw [list_len s] at hl
  unfold spec_VerseValid.f
  refine EvP.bind (spec_halves s hs) (fun _ e => ?_)
  subst e
  have sz1 : (hv s).1.size = (cutL s.data.toList).1.length := ba_size _
  have sz2 : (hv s).2.size = (cutL s.data.toList).2.1.length := ba_size _
  refine EvP.bind (spec_half (hv s).1 (by omega)) (fun _ e => ?_)
  subst e
  unfold verse
  refine EvP.ite (fun g1 => ?_) (fun g1 => EvP.ret ?_)
  · refine EvP.bind (spec_half (hv s).2 (by omega)) (fun _ e => ?_)
    subst e
    refine EvP.ite (fun g2 => EvP.ret ?_) (fun g2 => EvP.ret ?_)
    · rw [w64 (by omega) (by omega), sz1, sz2]
      have g3 : (cutL s.data.toList).2.2 = true := by
        by_cases k : (cutL s.data.toList).2.2 = true
        · exact k
        · have := cut_miss _ (Bool.eq_false_iff.mpr k)
          have e2 : (hv s).2.data.toList = (cutL s.data.toList).2.1 := rfl
          rw [e2, this] at g2
          exact absurd (show halfL [] = true from g2) (by decide)
      by_cases g4 : (cutL s.data.toList).1.length + (cutL s.data.toList).2.1.length ≤ 20
      · rw [if_pos ⟨g3, g1, g2, g4⟩]
        exact decide_eq_true (by omega)
      · rw [if_neg (fun h => g4 h.2.2.2)]
        exact decide_eq_false (by omega)
    · rw [if_neg (fun h => g2 h.2.2.1)]; rfl
  · rw [if_neg (fun h => g1 h.2.1)]; rfl
theorem impl_valid_v (s : ByteArray) (hs : s.size ≤ 100000000) : impl_VerseValid.f s = some (verse s).isSome := by
  unfold impl_VerseValid.f
  rw [impl_halves s hs]
  simp only [Option.bind_some]
  congr 1
  unfold halvesOf
  split
  · rename_i a b e; rw [e]; rfl
  · rename_i e; rw [e]; rfl
end Go.Proofs.YtdgmkfbmeaalpaaDoor.Pur
end
section
namespace Go.Proofs.YtdgmkfbmeaalpaaDoor.Pur
open Go.RowKit Go.Proofs.YtdgmkfbmeaalpaaDoorW.PrintWords Go.Proofs.YtdgmkfbmeaalpaaDoor.E
def okT (t : S25) : Bool := decide (0 ≤ t.f0) && decide (t.f0 ≤ 20) && (!t.f1 || decide (t.f0 % 7 = 2))
def okM (l : List S25) : Bool := l.all okT && decide (l.length ≤ 24)
theorem spec_valid (t : S25) : spec_ToneValid.f t.f0 t.f1 = some (okT t) := by
  obtain ⟨s, b⟩ := t
  unfold spec_ToneValid.f spec_l6In.f spec_l1Letter.f okT
  by_cases h0 : s ≥ 0
  · rw [if_pos h0]
    by_cases h1 : s ≤ 20
    · cases b <;> simp [h0, h1, tmod_pos, Bool.beq_eq_decide_eq]
    · simp [h0, h1]
  · simp [h0]
theorem impl_valid (t : S25) : impl_Tone_valid.f t.f0 t.f1 = some (okT t) := by
  obtain ⟨s, b⟩ := t
  unfold impl_Tone_valid.f okT
  by_cases h0 : s ≥ 0
  · rw [if_pos h0]
    by_cases h1 : s ≤ 20
    · cases b <;> simp [h0, h1, tmod_pos, Bool.beq_eq_decide_eq]
    · simp [h0, h1]
  · simp [h0]
theorem rdT_lt {l : List S25} {i : Nat} (h : i < l.length) : rd_T25 l (i : Int) = l[i] := by
  unfold rd_T25
  rw [toNat_nat, List.getD_eq_getElem?_getD, List.getElem?_eq_getElem h]
  rfl
theorem all_drop {l : List S25} {i : Nat} (h : i < l.length) : (l.drop i).all okT = (okT l[i] && (l.drop (i + 1)).all okT) := by
  rw [List.drop_eq_getElem_cons h, List.all_cons]
theorem spec_melody_loop (l : List S25) (hl : l.length < 9223372036854775807) : ∀ d i : Nat, i + d = l.length → EvP (fun k => spec_MelodyValid.l0 k l (i : Int)) (· = ((l.drop i).all okT && decide (l.length ≤ 24))) := by
  intro d
  induction d with
  | zero =>
    intro i hi
    refine EvP.succ ?_
    simp only [spec_MelodyValid.l0]
    refine (EvP.no (by omega) (EvP.ret ?_))
    rw [List.drop_of_length_le (by omega)]
    simp only [List.all_nil, Bool.true_and]
    by_cases h : l.length ≤ 24
    · have : (l.length : Int) ≤ 24 := by omega
      simp [h, this]
    · have : ¬ (l.length : Int) ≤ 24 := by omega
      simp [h, this]
  | succ d ih =>
    intro i hi
    have hlt : i < l.length := by omega
    refine EvP.step (fun k => rfl) (EvP.yes (by omega) (EvP.yes (by omega) ?_))
    rw [rdT_lt hlt, all_drop hlt]
    refine EvP.bind (P := (· = okT l[i])) (EvP.con (spec_valid _) rfl) (fun _ e => ?_)
    subst e
    refine EvP.ite (fun h => ?_) (fun h => EvP.ret ?_)
    · rw [w64 (by omega) (by omega), h, Bool.true_and]
      exact ih (i + 1) (by omega)
    · simp [h]
theorem spec_melody (l : List S25) (hl : l.length < 9223372036854775807) : EvP (fun k => spec_MelodyValid.f k l) (· = okM l) := spec_melody_loop l hl l.length 0 (by omega)
theorem impl_melody_loop (l : List S25) (hl : l.length ≤ 24) : ∀ d i : Nat, i + d = l.length → EvP (fun k => impl_MelodyValid.l0 k l (l.length : Int) (i : Int)) (· = (l.drop i).all okT) := by
  intro d
  induction d with
  | zero =>
    intro i hi
    refine EvP.step (fun k => rfl) (EvP.no (by omega) (EvP.ret ?_))
    rw [List.drop_of_length_le (by omega)]
    rfl
  | succ d ih =>
    intro i hi
    have hlt : i < l.length := by omega
    refine EvP.step (fun k => rfl) (EvP.yes (by omega) (EvP.yes (by omega) ?_))
    try refine EvP.yes (by omega) ?_
    rw [rdT_lt hlt, all_drop hlt]
    refine EvP.bind (P := (· = okT l[i])) (EvP.con (impl_valid _) rfl) (fun _ e => ?_)
    subst e
    refine EvP.ite (fun h => ?_) (fun h => EvP.ret ?_)
    · rw [w64 (by omega) (by omega), h, Bool.true_and]
      exact ih (i + 1) (by omega)
    · simp [h]
theorem impl_melody (l : List S25) : EvP (fun k => impl_MelodyValid.f k l) (· = okM l) := by
  unfold impl_MelodyValid.f
  refine EvP.ite (fun h => EvP.ret ?_) (fun h => ?_)
  · simp [okM]; intro; omega
  · have hl : l.length ≤ 24 := by omega
    refine (impl_melody_loop l hl l.length 0 (by omega)).mono (fun r e => ?_)
    rw [e]
    simp [okM, hl]
end Go.Proofs.YtdgmkfbmeaalpaaDoor.Pur
end
section
namespace Go.Proofs.YtdgmkfbmeaalpaaDoor.Pur
open Go.RowKit Go.Proofs.YtdgmkfbmeaalpaaDoorW.PrintWords
def sumN (f : Nat → Nat) : Nat → Nat
  | 0 => 0
  | n + 1 => sumN f n + f n
theorem sumN_zero {f : Nat → Nat} : ∀ n : Nat, (∀ i, i < n → f i = 0) → sumN f n = 0
  | 0, _ => rfl
  | n + 1, h => by rw [sumN, sumN_zero n (fun i hi => h i (by omega)), h n (by omega)]
theorem sumN_le {f : Nat → Nat} : ∀ n : Nat, (∀ i, i < n → f i ≤ 1) → sumN f n ≤ n
  | 0, _ => Nat.le_refl _
  | n + 1, h => by
    have := sumN_le n (fun i hi => h i (by omega))
    have := h n (by omega)
    rw [sumN]
    omega
end Go.Proofs.YtdgmkfbmeaalpaaDoor.Pur
end
section
namespace Go.Proofs.YtdgmkfbmeaalpaaDoor.E
open Go.RowKit Go.Proofs.YtdgmkfbmeaalpaaDoorW.PrintWords Go.Proofs.YtdgmkfbmeaalpaaDoorW.PrintLast Go.Proofs.YtdgmkfbmeaalpaaDoorW.PrintMore
attribute [local go_sem] max2_int min2_int max_two min_two max_three min_three max_four min_four
set_option linter.unusedVariables false
set_option linter.unusedSimpArgs false
attribute [local go_sem] str_leq_ str_gtr_ str_geq_
def impl_PsalmFits.f (k : Nat) (l0_0 : List (S25)) (a0_1 : Int) (a0_2 : Bool) (l0_3 : List (S25)) (l0_4 : List (S25)) (a1 : ByteArray) : Option (Bool) := (impl_sungVerse.f k l0_0 a0_1 a0_2 l0_3 l0_4 a1).bind fun bt224 => (some bt224.2)
end Go.Proofs.YtdgmkfbmeaalpaaDoor.E
end
section
namespace Go.Proofs.YtdgmkfbmeaalpaaDoor.E
open Go.RowKit Go.Proofs.YtdgmkfbmeaalpaaDoorW.PrintWords Go.Proofs.YtdgmkfbmeaalpaaDoorW.PrintLast Go.Proofs.YtdgmkfbmeaalpaaDoorW.PrintMore
attribute [local go_sem] max2_int min2_int max_two min_two max_three min_three max_four min_four
set_option linter.unusedVariables false
set_option linter.unusedSimpArgs false
attribute [local go_sem] str_leq_ str_gtr_ str_geq_
def spec_PsalmTenors.f (k : Nat) (l0_0 : List (S25)) (a0_1 : Int) (a0_2 : Bool) (l0_3 : List (S25)) (l0_4 : List (S25)) (a1 : ByteArray) : Option (Int) := (spec_PsalmFits.f k l0_0 a0_1 a0_2 l0_3 l0_4 a1).bind fun t316 => (if t316 = true then ((spec_VerseSyllables.f k a1).bind fun t317 => (some (wrap64 ((wrap64 ((wrap64 (t317 - (l0_0.length : Int))) - (l0_3.length : Int))) - (l0_4.length : Int))))) else (some (-1)))
end Go.Proofs.YtdgmkfbmeaalpaaDoor.E
end
section
namespace Go.Proofs.YtdgmkfbmeaalpaaDoor.E
open Go.RowKit Go.Proofs.YtdgmkfbmeaalpaaDoorW.PrintWords Go.Proofs.YtdgmkfbmeaalpaaDoorW.PrintLast Go.Proofs.YtdgmkfbmeaalpaaDoorW.PrintMore
attribute [local go_sem] max2_int min2_int max_two min_two max_three min_three max_four min_four
set_option linter.unusedVariables false
set_option linter.unusedSimpArgs false
attribute [local go_sem] str_leq_ str_gtr_ str_geq_
def impl_PsalmTenors.l0 : Nat → Int → List (S86) → Int → Int → Option (Int)
 | 0, _, _, _, _ => none
 | k + 1, x7, x18, x19, x20 => if x20 < x19 then (if 0 ≤ x20 then (if x20 < (x18.length : Int) then (if ((rd_T86 x18 x20).f1) = 1 then (impl_PsalmTenors.l0 k (wrap64 (x7 + 1)) x18 x19 (wrap64 (x20 + 1))) else (impl_PsalmTenors.l0 k x7 x18 x19 (wrap64 (x20 + 1)))) else (none)) else (none)) else (some x7)
def impl_PsalmTenors.f (k : Nat) (l0_0 : List (S25)) (a0_1 : Int) (a0_2 : Bool) (l0_3 : List (S25)) (l0_4 : List (S25)) (a1 : ByteArray) : Option (Int) := (impl_sungVerse.f k l0_0 a0_1 a0_2 l0_3 l0_4 a1).bind fun bt343 => (if bt343.2 = true then (impl_PsalmTenors.l0 k 0 bt343.1 (bt343.1.length : Int) 0) else (some (-1)))
end Go.Proofs.YtdgmkfbmeaalpaaDoor.E
end
section
namespace Go.Proofs.YtdgmkfbmeaalpaaDoor.Pur
open Go.RowKit Go.Proofs.YtdgmkfbmeaalpaaDoorW.PrintWords Go.Proofs.YtdgmkfbmeaalpaaDoor.E
abbrev TL := List S25
def tonesB (l : TL) (lo hi : Int) : Bool := decide (lo ≤ (l.length : Int)) && (decide ((l.length : Int) ≤ hi) && okM l)
theorem impl_tones (l : TL) (lo hi : Int) : EvP (fun k => impl_tonesValid.f k l lo hi) (· = tonesB l lo hi) := by
  simp only [impl_tonesValid.f, tonesB]
  refine EvP.ite (fun h => EvP.ite (fun g => ?_) (fun g => EvP.ret ?_)) (fun h => EvP.ret ?_)
  · refine EvP.bind (impl_melody l) (fun _ e => EvP.ret ?_)
    subst e
    rw [decide_eq_true (show lo ≤ (l.length : Int) from h), decide_eq_true g]
    rfl
  · rw [decide_eq_false g]
    simp
  · rw [decide_eq_false (show ¬ lo ≤ (l.length : Int) from h)]
    rfl
theorem spec_tones (l : TL) (hl : l.length < 9223372036854775807) (lo hi : Int) : EvP (fun k => spec_l4Tones.f k l lo hi) (· = tonesB l lo hi) := by
  simp only [spec_l4Tones.f, tonesB, spec_l6In.f]
  refine EvP.bind (spec_melody l hl) (fun _ e => ?_)
  subst e
  refine EvP.ite (fun h => ?_) (fun h => EvP.ret ?_)
  · by_cases g : lo ≤ (l.length : Int)
    · rw [if_pos (show (l.length : Int) ≥ lo from g)]
      refine EvP.ret ?_
      rw [decide_eq_true g, h]
      simp
    · rw [if_neg (show ¬ (l.length : Int) ≥ lo from g)]
      refine EvP.ret ?_
      rw [decide_eq_false g]
      rfl
  · rw [Bool.eq_false_iff.mpr h]
    simp
def okPs (ps : TL) (x : Int) (b : Bool) (pm pe : TL) : Bool := tonesB ps 0 3 && (okT ⟨x, b⟩ && (tonesB pm 1 4 && tonesB pe 1 4))
theorem impl_psalm (ps : TL) (x : Int) (b : Bool) (pm pe : TL) : EvP (fun k => impl_PsalmValid.f k ps x b pm pe) (· = okPs ps x b pm pe) := by
  simp only [impl_PsalmValid.f, okPs]
  refine EvP.bind (impl_tones ps 0 3) (fun _ e => ?_)
  subst e
  refine EvP.ite (fun h => ?_) (fun h => EvP.ret ?_)
  · rw [h, Bool.true_and]
    refine EvP.bind (EvP.con (impl_valid ⟨x, b⟩) (P := (· = okT ⟨x, b⟩)) rfl) (fun _ e => ?_)
    subst e
    refine EvP.ite (fun h => ?_) (fun h => EvP.ret ?_)
    · rw [h, Bool.true_and]
      refine EvP.bind (impl_tones pm 1 4) (fun _ e => ?_)
      subst e
      refine EvP.ite (fun h => ?_) (fun h => EvP.ret ?_)
      · rw [h, Bool.true_and]
        refine EvP.bind (impl_tones pe 1 4) (fun _ e => EvP.ret e)
      · rw [Bool.eq_false_iff.mpr h, Bool.false_and]
    · rw [Bool.eq_false_iff.mpr h, Bool.false_and]
  · rw [Bool.eq_false_iff.mpr h, Bool.false_and]
theorem spec_psalm (ps : TL) (x : Int) (b : Bool) (pm pe : TL) (hs : ps.length < 9223372036854775807) (hm : pm.length < 9223372036854775807) (he : pe.length < 9223372036854775807) : EvP (fun k => spec_PsalmValid.f k ps x b pm pe) (· = okPs ps x b pm pe) := by
  simp only [spec_PsalmValid.f, okPs]
  refine EvP.bind (spec_tones ps hs 0 3) (fun _ e => ?_)
  subst e
  refine EvP.ite (fun h => ?_) (fun h => EvP.ret ?_)
  · rw [h, Bool.true_and]
    refine EvP.bind (EvP.con (spec_valid ⟨x, b⟩) (P := (· = okT ⟨x, b⟩)) rfl) (fun _ e => ?_)
    subst e
    refine EvP.ite (fun h => ?_) (fun h => EvP.ret ?_)
    · rw [h, Bool.true_and]
      refine EvP.bind (spec_tones pm hm 1 4) (fun _ e => ?_)
      subst e
      refine EvP.ite (fun h => ?_) (fun h => EvP.ret ?_)
      · rw [h, Bool.true_and]
        refine EvP.bind (spec_tones pe he 1 4) (fun _ e => EvP.ret e)
      · rw [Bool.eq_false_iff.mpr h, Bool.false_and]
    · rw [Bool.eq_false_iff.mpr h, Bool.false_and]
  · rw [Bool.eq_false_iff.mpr h, Bool.false_and]
theorem okPs_lens {ps pm pe : TL} {x : Int} {b : Bool} (h : okPs ps x b pm pe = true) : ps.length ≤ 3 ∧ 1 ≤ pm.length ∧ pm.length ≤ 4 ∧ 1 ≤ pe.length ∧ pe.length ≤ 4 ∧ okM ps = true ∧ okT ⟨x, b⟩ = true ∧ okM pm = true ∧ okM pe = true := by
  simp only [okPs, tonesB, Bool.and_eq_true, decide_eq_true_eq] at h
  obtain ⟨⟨_, h1, h2⟩, h3, ⟨h4, h5, h6⟩, h7, h8, h9⟩ := h
  exact ⟨by omega, by omega, by omega, by omega, by omega, h2, h3, h6, h9⟩
def fitP (ps : TL) (x : Int) (b : Bool) (pm pe : TL) (s : ByteArray) : Option (ByteArray × ByteArray) := if okPs ps x b pm pe = true then (verse s).bind (fun q => if ps.length + pm.length ≤ q.1.size ∧ pe.length ≤ q.2.size then some q else none) else none
theorem fit_some {ps pm pe : TL} {x : Int} {b : Bool} {s u v : ByteArray} (h : fitP ps x b pm pe s = some (u, v)) : okPs ps x b pm pe = true ∧ verse s = some (u, v) ∧ ps.length + pm.length ≤ u.size ∧ pe.length ≤ v.size := by
  unfold fitP at h
  split at h
  · rename_i g
    rw [Option.bind_eq_some_iff] at h
    obtain ⟨q, hq, h⟩ := h
    split at h
    · rename_i g2
      cases h
      exact ⟨g, hq, g2.1, g2.2⟩
    · cases h
  · cases h
theorem fit_of {ps pm pe : TL} {x : Int} {b : Bool} {s u v : ByteArray} (h : okPs ps x b pm pe = true) (hv : verse s = some (u, v)) (h1 : ps.length + pm.length ≤ u.size) (h2 : pe.length ≤ v.size) : fitP ps x b pm pe s = some (u, v) := by
  unfold fitP
  rw [if_pos h, hv]
  simp only [Option.bind_some]
  rw [if_pos ⟨h1, h2⟩]
theorem fit_bad {ps pm pe : TL} {x : Int} {b : Bool} {s : ByteArray} (h : okPs ps x b pm pe = false) : fitP ps x b pm pe s = none := by
  unfold fitP
  rw [h]
  rfl
theorem fit_none {ps pm pe : TL} {x : Int} {b : Bool} {s : ByteArray} (h : verse s = none) : fitP ps x b pm pe s = none := by
  unfold fitP
  rw [h]
  simp
theorem fit_short {ps pm pe : TL} {x : Int} {b : Bool} {s u v : ByteArray} (hv : verse s = some (u, v)) (h1 : ¬ (ps.length + pm.length ≤ u.size ∧ pe.length ≤ v.size)) : fitP ps x b pm pe s = none := by
  unfold fitP
  rw [hv]
  simp only [Option.bind_some]
  rw [if_neg h1]
  simp
def sungR (ps : TL) (x : Int) (b : Bool) (pm pe : TL) : Option (ByteArray × ByteArray) → List S86 × Bool
  | some q => (sungOf ps ⟨x, b⟩ pm pe q.1.size q.2.size, true)
  | none => ([], false)
theorem impl_sung (ps : TL) (x : Int) (b : Bool) (pm pe : TL) (s : ByteArray) (hs : s.size ≤ 100000000) : EvP (fun k => impl_sungVerse.f k ps x b pm pe s) (· = sungR ps x b pm pe (fitP ps x b pm pe s)) := by
  simp only [impl_sungVerse.f]
  refine EvP.bind (EvP.con (impl_halves s hs) (P := (· = halvesOf s)) rfl) (fun _ e => ?_)
  subst e
  rcases hv : verse s with _ | ⟨u, v⟩
  · have hh : halvesOf s = (⟨#[]⟩, ⟨#[]⟩, false) := by unfold halvesOf; rw [hv]
    rw [hh, fit_none hv]
    exact EvP.ret rfl
  · have hh : halvesOf s = (u, v, true) := by unfold halvesOf; rw [hv]
    rw [hh]
    refine EvP.yes rfl ?_
    refine EvP.bind (impl_psalm ps x b pm pe) (fun _ e => ?_)
    subst e
    refine EvP.ite (fun h => ?_) (fun h => EvP.ret ?_)
    · obtain ⟨l1, l2, l3, l4, l5, _⟩ := okPs_lens h
      have hl := (verse_some hv).1
      refine EvP.yes (by omega) ?_
      refine EvP.ite (fun g => EvP.ret ?_) (fun g => EvP.ite (fun g2 => EvP.ret ?_) (fun g2 => EvP.yes (by simp only []; omega) (EvP.ret ?_)))
      · rw [fit_short hv (by simp only [] at g; omega)]
        rfl
      · rw [fit_short hv (by simp only [] at g2; omega)]
        rfl
      · rw [fit_of h hv (by simp only [] at g; omega) (by simp only [] at g2; omega)]
        rfl
    · rw [fit_bad (Bool.eq_false_iff.mpr h)]
      rfl
theorem spec_fits (ps : TL) (x : Int) (b : Bool) (pm pe : TL) (s : ByteArray) (hs : s.size ≤ 100000000) (h1 : ps.length < 9223372036854775807) (hm : pm.length < 9223372036854775807) (he : pe.length < 9223372036854775807) : EvP (fun k => spec_PsalmFits.f k ps x b pm pe s) (· = (fitP ps x b pm pe s).isSome) := by
  simp only [spec_PsalmFits.f]
  refine EvP.bind (spec_halves s hs) (fun _ e => ?_)
  subst e
  refine EvP.bind (spec_psalm ps x b pm pe h1 hm he) (fun _ e => ?_)
  subst e
  refine EvP.ite (fun h => ?_) (fun h => EvP.ret ?_)
  · refine EvP.bind (spec_valid_v s hs) (fun _ e => ?_)
    subst e
    rcases hv : verse s with _ | ⟨u, v⟩
    · rw [fit_none hv]
      exact EvP.ret rfl
    · refine EvP.yes rfl ?_
      rw [hv_of hv]
      obtain ⟨l1, l2, l3, l4, l5, _⟩ := okPs_lens h
      rw [w64 (by omega) (by omega)]
      refine EvP.ite (fun g => EvP.ret ?_) (fun g => EvP.ret ?_)
      · simp only [] at g ⊢
        by_cases g2 : pe.length ≤ v.size
        · rw [fit_of h hv (by omega) g2]
          exact decide_eq_true (by omega)
        · rw [fit_short hv (by omega)]
          exact decide_eq_false (by omega)
      · simp only [] at g
        rw [fit_short hv (by omega)]
        rfl
  · rw [fit_bad (Bool.eq_false_iff.mpr h)]
    rfl
def singOf (ps : TL) (x : Int) (b : Bool) (pm pe : TL) (m n : Nat) : TL := ps ++ (List.replicate (m - pm.length - ps.length) ⟨x, b⟩ ++ (pm ++ (List.replicate (n - pe.length) ⟨x, b⟩ ++ pe)))
theorem sing_map (ps : TL) (x : Int) (b : Bool) (pm pe : TL) (m n : Nat) : (sungOf ps ⟨x, b⟩ pm pe m n).map (·.f0) = singOf ps x b pm pe m n := by
  unfold sungOf singOf
  simp only [List.map_append, List.map_map, List.map_replicate]
  have hid : ∀ (l : TL) (n : Int), l.map ((fun y : S86 => y.f0) ∘ fun y => ⟨y, n⟩) = l := fun l n => List.map_id l
  rw [hid, hid, hid]
theorem sing_len {ps pm pe : TL} {x : Int} {b : Bool} {m n : Nat} (h1 : ps.length + pm.length ≤ m) (h2 : pe.length ≤ n) : (singOf ps x b pm pe m n).length = m + n := by
  simp only [singOf, List.length_append, List.length_replicate]
  omega
def singR (ps : TL) (x : Int) (b : Bool) (pm pe : TL) : Option (ByteArray × ByteArray) → TL × Bool
  | some q => (singOf ps x b pm pe q.1.size q.2.size, true)
  | none => ([], false)
theorem rdS_lt {l : List S86} {i : Nat} (h : i < l.length) : rd_T86 l (i : Int) = l[i] := by
  unfold rd_T86
  rw [toNat_nat, List.getD_eq_getElem?_getD, List.getElem?_eq_getElem h]
  rfl
theorem impl_sing_loop (L : List S86) (hl : L.length ≤ 1000) : ∀ (d i : Nat) (xs : TL), i + d = L.length → xs.length = i → EvP (fun k => impl_PsalmSing.l0 k xs L (L.length : Int) (i : Int)) (· = (xs ++ (L.drop i).map (·.f0), true)) := by
  intro d
  induction d with
  | zero =>
    intro i xs hi hx
    refine EvP.succ ?_
    simp only [impl_PsalmSing.l0]
    refine EvP.no (by omega) (EvP.ret ?_)
    rw [List.drop_of_length_le (by omega)]
    simp
  | succ d ih =>
    intro i xs hi hx
    have hlt : i < L.length := by omega
    refine EvP.succ ?_
    simp only [impl_PsalmSing.l0]
    refine EvP.yes (by omega) (EvP.yes (by omega) (EvP.yes (by omega) (EvP.yes (by omega) ?_)))
    rw [rdS_lt hlt, w64 (by omega) (by omega), show (i : Int) + 1 = ((i + 1 : Nat) : Int) by omega]
    refine (ih (i + 1) (xs ++ [L[i].f0]) (by omega) (by simp; omega)).mono ?_
    intro r e
    rw [e, List.drop_eq_getElem_cons hlt, List.map_cons, List.append_assoc]
    rfl
theorem impl_sing (ps : TL) (x : Int) (b : Bool) (pm pe : TL) (s : ByteArray) (hs : s.size ≤ 100000000) : EvP (fun k => impl_PsalmSing.f k ps x b pm pe s) (· = singR ps x b pm pe (fitP ps x b pm pe s)) := by
  simp only [impl_PsalmSing.f]
  refine EvP.bind (impl_sung ps x b pm pe s hs) (fun _ e => ?_)
  subst e
  rcases hf : fitP ps x b pm pe s with _ | ⟨u, v⟩
  · exact EvP.ret rfl
  · refine EvP.yes rfl ?_
    obtain ⟨h, hv, h1, h2⟩ := fit_some hf
    have hl := (verse_some hv).1
    have hlen := sung_len (t := ⟨x, b⟩) h1 h2
    refine (impl_sing_loop (sungOf ps ⟨x, b⟩ pm pe u.size v.size) (by omega) _ 0 [] (by rw [Nat.zero_add]) rfl).mono ?_
    intro r e
    rw [e, List.drop_zero, List.nil_append, sing_map]
    rfl
theorem spec_fill1 (u v : ByteArray) (ps : TL) (x : Int) (b : Bool) (pm pe : TL) (hu : u.size ≤ 1000) (hv : v.size ≤ 1000) (h1 : pm.length ≤ u.size) (h2 : pe.length ≤ v.size) : ∀ (d : Nat) (xs : TL), xs.length + d = u.size + v.size - pe.length → EvP (fun k => spec_PsalmSing.l1 k u v xs ps x b pm pe) (· = (xs ++ (List.replicate d ⟨x, b⟩ ++ pe), true)) := by
  intro d
  induction d with
  | zero =>
    intro xs hx
    refine EvP.succ ?_
    simp only [spec_PsalmSing.l1]
    rw [w64 (i := (u.size : Int) + (v.size : Int)) (by omega) (by omega), w64 (by omega) (by omega)]
    refine EvP.no (by omega) (EvP.yes (by omega) (EvP.ret ?_))
    simp
  | succ d ih =>
    intro xs hx
    refine EvP.succ ?_
    simp only [spec_PsalmSing.l1]
    rw [w64 (i := (u.size : Int) + (v.size : Int)) (by omega) (by omega), w64 (by omega) (by omega)]
    refine EvP.yes (by omega) (EvP.yes (by omega) ?_)
    refine (ih (xs ++ [⟨x, b⟩]) (by simp; omega)).mono ?_
    intro r e
    rw [e, List.replicate_succ]
    simp
theorem spec_fill0 (u v : ByteArray) (ps : TL) (x : Int) (b : Bool) (pm pe : TL) (hu : u.size ≤ 1000) (hv : v.size ≤ 1000) (h1 : pm.length ≤ u.size) (h2 : pe.length ≤ v.size) : ∀ (d : Nat) (xs : TL), xs.length + d = u.size - pm.length → EvP (fun k => spec_PsalmSing.l0 k u v xs ps x b pm pe) (· = (xs ++ (List.replicate d ⟨x, b⟩ ++ (pm ++ (List.replicate (v.size - pe.length) ⟨x, b⟩ ++ pe))), true)) := by
  intro d
  induction d with
  | zero =>
    intro xs hx
    refine EvP.succ ?_
    simp only [spec_PsalmSing.l0]
    rw [w64 (by omega) (by omega)]
    refine EvP.no (by omega) (EvP.yes (by omega) ?_)
    refine (spec_fill1 u v ps x b pm pe hu hv h1 h2 (v.size - pe.length) (xs ++ pm) (by simp; omega)).mono ?_
    intro r e
    rw [e]
    simp
  | succ d ih =>
    intro xs hx
    refine EvP.succ ?_
    simp only [spec_PsalmSing.l0]
    rw [w64 (by omega) (by omega)]
    refine EvP.yes (by omega) (EvP.yes (by omega) ?_)
    refine (ih (xs ++ [⟨x, b⟩]) (by simp; omega)).mono ?_
    intro r e
    rw [e, List.replicate_succ]
    simp
theorem spec_sing (ps : TL) (x : Int) (b : Bool) (pm pe : TL) (s : ByteArray) (hs : s.size ≤ 100000000) (h1 : ps.length < 9223372036854775807) (hm : pm.length < 9223372036854775807) (he : pe.length < 9223372036854775807) : EvP (fun k => spec_PsalmSing.f k ps x b pm pe s) (· = singR ps x b pm pe (fitP ps x b pm pe s)) := by
  simp only [spec_PsalmSing.f]
  refine EvP.bind (spec_fits ps x b pm pe s hs h1 hm he) (fun _ e => ?_)
  subst e
  rcases hf : fitP ps x b pm pe s with _ | ⟨u, v⟩
  · exact EvP.ret rfl
  · refine EvP.yes rfl ?_
    obtain ⟨h, hv, g1, g2⟩ := fit_some hf
    have hl := (verse_some hv).1
    obtain ⟨l1, l2, l3, l4, l5, _⟩ := okPs_lens h
    refine EvP.bind (spec_halves s hs) (fun _ e => ?_)
    subst e
    rw [hv_of hv]
    simp only [Option.bind_some]
    refine EvP.yes (by simp; omega) ?_
    rw [List.nil_append]
    refine (spec_fill0 u v ps x b pm pe (by omega) (by omega) (by omega) g2 (u.size - pm.length - ps.length) ps (by omega)).mono ?_
    intro r e
    rw [e]
    rfl
def tenR (ps pm pe : TL) : Option (ByteArray × ByteArray) → Int
  | some q => (q.1.size : Int) + q.2.size - ps.length - pm.length - pe.length
  | none => -1
end Go.Proofs.YtdgmkfbmeaalpaaDoor.Pur
end
section
namespace Go.Proofs.YtdgmkfbmeaalpaaDoor.E
open Go.RowKit Go.Proofs.YtdgmkfbmeaalpaaDoorW.PrintWords Go.Proofs.YtdgmkfbmeaalpaaDoorW.PrintLast Go.Proofs.YtdgmkfbmeaalpaaDoorW.PrintMore
attribute [local go_sem] max2_int min2_int max_two min_two max_three min_three max_four min_four
set_option linter.unusedVariables false
set_option linter.unusedSimpArgs false
attribute [local go_sem] str_leq_ str_gtr_ str_geq_
def impl_VerseAccents.l0 : Nat → List Int → ByteArray → Int → Int → Option (List Int)
 | 0, _, _, _, _ => none
 | k + 1, x3, x7, x23, x24 => if x24 < x23 then (if 0 ≤ x24 then (if x24 < (x7.size : Int) then (if (bt x7 x24) = 47 then (if x3.length < 17592186044416 then (impl_VerseAccents.l0 k (x3 ++ [x24]) x7 x23 (wrap64 (x24 + 1))) else (none)) else (impl_VerseAccents.l0 k x3 x7 x23 (wrap64 (x24 + 1)))) else (none)) else (none)) else (some x3)
def impl_VerseAccents.f (k : Nat) (a0 : ByteArray) : Option (List Int) := (some (([] : List Int) : List Int)).bind fun y416 => ((impl_VerseHalves.f a0).bind fun bt419 => (if bt419.2.2 = true then (if bt419.1.size + bt419.2.1.size ≤ 9223372036854775807 then (impl_VerseAccents.l0 k y416 (bt419.1 ++ bt419.2.1) ((bt419.1 ++ bt419.2.1).size : Int) 0) else (none)) else (some y416)))
end Go.Proofs.YtdgmkfbmeaalpaaDoor.E
end
section
namespace Go.Proofs.YtdgmkfbmeaalpaaDoor.E
open Go.RowKit Go.Proofs.YtdgmkfbmeaalpaaDoorW.PrintWords Go.Proofs.YtdgmkfbmeaalpaaDoorW.PrintLast Go.Proofs.YtdgmkfbmeaalpaaDoorW.PrintMore
attribute [local go_sem] max2_int min2_int max_two min_two max_three min_three max_four min_four
set_option linter.unusedVariables false
set_option linter.unusedSimpArgs false
attribute [local go_sem] str_leq_ str_gtr_ str_geq_
def impl_PsalmAccents.l0 : Nat → List (S86) → Int → List Int → Int → Int → Option (Int)
 | 0, _, _, _, _, _ => none
 | k + 1, x5, x7, x20, x21, x22 => if x22 < x21 then (if 0 ≤ x22 then (if x22 < (x20.length : Int) then (if 0 ≤ (rd x20 x22) then (if (rd x20 x22) < (x5.length : Int) then (if ((rd_T86 x5 (rd x20 x22)).f1) = 2 then (impl_PsalmAccents.l0 k x5 (wrap64 (x7 + 1)) x20 x21 (wrap64 (x22 + 1))) else (if ((rd_T86 x5 (rd x20 x22)).f1) = 3 then (impl_PsalmAccents.l0 k x5 (wrap64 (x7 + 1)) x20 x21 (wrap64 (x22 + 1))) else (impl_PsalmAccents.l0 k x5 x7 x20 x21 (wrap64 (x22 + 1))))) else (none)) else (none)) else (none)) else (none)) else (some x7)
def impl_PsalmAccents.f (k : Nat) (l0_0 : List (S25)) (a0_1 : Int) (a0_2 : Bool) (l0_3 : List (S25)) (l0_4 : List (S25)) (a1 : ByteArray) : Option (Int) := (impl_sungVerse.f k l0_0 a0_1 a0_2 l0_3 l0_4 a1).bind fun bt426 => (if bt426.2 = true then ((impl_VerseAccents.f k a1).bind fun t430 => (impl_PsalmAccents.l0 k bt426.1 0 t430 (t430.length : Int) 0)) else (some (-1)))
end Go.Proofs.YtdgmkfbmeaalpaaDoor.E
end
section
namespace Go.Proofs.YtdgmkfbmeaalpaaDoor.E
open Go.RowKit Go.Proofs.YtdgmkfbmeaalpaaDoorW.PrintWords Go.Proofs.YtdgmkfbmeaalpaaDoorW.PrintLast Go.Proofs.YtdgmkfbmeaalpaaDoorW.PrintMore
attribute [local go_sem] max2_int min2_int max_two min_two max_three min_three max_four min_four
set_option linter.unusedVariables false
set_option linter.unusedSimpArgs false
attribute [local go_sem] str_leq_ str_gtr_ str_geq_
mutual
def spec_PsalmAccents.l0 : Nat → ByteArray → ByteArray → Int → Int → List (S25) → Int → Bool → List (S25) → List (S25) → Option (Int)
 | 0, _, _, _, _, _, _, _, _, _ => none
 | k + 1, x5, x6, x7, x8, x436000, x436001, x436002, x436003, x436004 => if x8 < (x5.size : Int) then (if 0 ≤ x8 then (if (bt x5 x8) = 47 then (spec_PsalmAccents.l0 k x5 x6 (wrap64 (x7 + 1)) (wrap64 (x8 + 1)) x436000 x436001 x436002 x436003 x436004) else (spec_PsalmAccents.l0 k x5 x6 x7 (wrap64 (x8 + 1)) x436000 x436001 x436002 x436003 x436004)) else (none)) else (spec_PsalmAccents.l1 k x6 x7 (wrap64 ((x6.size : Int) - (x436004.length : Int))))
def spec_PsalmAccents.l1 : Nat → ByteArray → Int → Int → Option (Int)
 | 0, _, _, _ => none
 | k + 1, x6, x7, x9 => if x9 < (x6.size : Int) then (if 0 ≤ x9 then (if (bt x6 x9) = 47 then (spec_PsalmAccents.l1 k x6 (wrap64 (x7 + 1)) (wrap64 (x9 + 1))) else (spec_PsalmAccents.l1 k x6 x7 (wrap64 (x9 + 1)))) else (none)) else (some x7)
end
def spec_PsalmAccents.f (k : Nat) (l0_0 : List (S25)) (a0_1 : Int) (a0_2 : Bool) (l0_3 : List (S25)) (l0_4 : List (S25)) (a1 : ByteArray) : Option (Int) := (spec_PsalmFits.f k l0_0 a0_1 a0_2 l0_3 l0_4 a1).bind fun t436 => (if t436 = true then ((spec_l4Halves.f k a1).bind fun bt437 => (spec_PsalmAccents.l0 k bt437.1 bt437.2 0 (wrap64 ((bt437.1.size : Int) - (l0_3.length : Int))) l0_0 a0_1 a0_2 l0_3 l0_4)) else (some (-1)))
end Go.Proofs.YtdgmkfbmeaalpaaDoor.E
end
section
namespace Go.Proofs.YtdgmkfbmeaalpaaDoor.Pur
open Go.RowKit Go.Proofs.YtdgmkfbmeaalpaaDoorW.PrintWords Go.Proofs.YtdgmkfbmeaalpaaDoor.E
def isA (v : ByteArray) (z : Nat) : Nat := if v.data.toList[z]? = some 47 then 1 else 0
def accN (u v : ByteArray) (m e : Nat) : Nat := sumN (fun j => isA u (u.size - m + j)) m + sumN (fun j => isA v (v.size - e + j)) e
def accR (pm pe : TL) : Option (ByteArray × ByteArray) → Int
  | some q => (accN q.1 q.2 pm.length pe.length : Int)
  | none => -1
def accFrom : List UInt8 → Nat → List Int
  | [], _ => []
  | b :: l, i => if b = 47 then (i : Int) :: accFrom l (i + 1) else accFrom l (i + 1)
def accL : Option (ByteArray × ByteArray) → List Int
  | some q => accFrom (q.1 ++ q.2).data.toList 0
  | none => []
end Go.Proofs.YtdgmkfbmeaalpaaDoor.Pur
end
section
namespace Go.Proofs.YtdgmkfbmeaalpaaDoor.Pur
open Go.RowKit Go.Proofs.YtdgmkfbmeaalpaaDoorW.PrintWords Go.Proofs.YtdgmkfbmeaalpaaDoorW.PrintMore Go.Proofs.YtdgmkfbmeaalpaaDoor.E
def okB (B : List Int) : Prop := B.length ≤ 2000 ∧ ∀ x ∈ B, 0 ≤ x ∧ x ≤ 255
theorem byte_range {x : Int} (h : (Lit.int .u8 x).wf = true) : 0 ≤ x ∧ x ≤ 255 := by
  simp [Lit.wf, IntKind.min, IntKind.max, IntKind.signed, IntKind.bits] at h
  omega
theorem okB_rd {B : List Int} (h : okB B) (i : Int) : 0 ≤ rd B i ∧ rd B i ≤ 255 := by
  unfold rd
  rw [List.getD_eq_getElem?_getD]
  cases e : B[i.toNat]? with
  | none => simp
  | some v => simpa using h.2 v (List.mem_of_getElem? e)
theorem open_code (l : List Int) (h : ∀ x ∈ l, (Lit.int .u8 x).wf = true) : EvP (fun _ => spec_l6Open.f l) (fun r => okB r.1 ∧ r.2 = 0) := by
  unfold spec_l6Open.f
  refine EvP.ite (fun h1 => EvP.yes (by omega) (EvP.ret ⟨⟨by simp; omega, fun x hx => byte_range (h x (List.mem_of_mem_take hx))⟩, rfl⟩)) (fun h1 => EvP.ret ⟨⟨by dsimp only; omega, fun x hx => byte_range (h x hx)⟩, rfl⟩)
theorem xor_nn {x y : Int} (hx : 0 ≤ x) (hx' : x < 4611686018427387904) (hy : 0 ≤ y) (hy' : y < 4611686018427387904) : 0 ≤ Go.bits .xor .i64 x y := by
  obtain ⟨a, rfl⟩ := Int.eq_ofNat_of_zero_le hx
  obtain ⟨b, rfl⟩ := Int.eq_ofNat_of_zero_le hy
  have ha : a < 2 ^ 62 := by omega
  have hb : b < 2 ^ 62 := by omega
  have hx : a ^^^ b < 2 ^ 62 := Nat.xor_lt_two_pow ha hb
  have ea : a % 2 ^ IntKind.i64.bits = a := Nat.mod_eq_of_lt (by simp [IntKind.bits]; omega)
  have eb : b % 2 ^ IntKind.i64.bits = b := Nat.mod_eq_of_lt (by simp [IntKind.bits]; omega)
  simp only [Go.bits, BitVec.ofInt_natCast, BitVec.toNat_xor, BitVec.toNat_ofNat, ea, eb]
  rw [IntKind.wrap_i64]
  omega
theorem mix_ok (E n : Int) (h0 : 0 ≤ E) (h1 : E < 4611686018427387904) (hn : 1 ≤ n) :
    0 ≤ Int.tmod (Go.bits .xor .i64 E (wrap64 (Int.tdiv E 64))) n ∧ Int.tmod (Go.bits .xor .i64 E (wrap64 (Int.tdiv E 64))) n < n := by
  have hd : Int.tdiv E 64 = E / 64 := tdiv_pos 64 h0
  have h2 := xor_nn h0 h1 (y := wrap64 (Int.tdiv E 64)) (by rw [hd, w64 (by omega) (by omega)]; omega) (by rw [hd, w64 (by omega) (by omega)]; omega)
  exact ⟨Int.tmod_nonneg n h2, Int.tmod_lt_of_pos _ (by omega)⟩
theorem mixE (r1 r2 p q : Int) (a1 : 0 ≤ r1 ∧ r1 ≤ 255) (a2 : 0 ≤ r2 ∧ r2 ≤ 255) (hp : 0 ≤ p ∧ p ≤ 1000000000) (hq : 0 ≤ q ∧ q ≤ 1000000000) :
    (wrap64 ((wrap64 ((wrap64 ((wrap64 ((wrap64 r1) * 131)) + (wrap64 ((wrap64 r2) * 1117)))) + (wrap64 (p * 29)))) + (wrap64 ((wrap64 q) * 53)))) = r1 * 131 + r2 * 1117 + p * 29 + q * 53 := by
  rw [w64 (i := r1) (by omega) (by omega), w64 (i := r2) (by omega) (by omega), w64 (i := q) (by omega) (by omega), w64 (i := r1 * 131) (by omega) (by omega), w64 (i := r2 * 1117) (by omega) (by omega), w64 (i := p * 29) (by omega) (by omega),
    w64 (i := q * 53) (by omega) (by omega), w64 (i := r1 * 131 + r2 * 1117) (by omega) (by omega), w64 (i := r1 * 131 + r2 * 1117 + p * 29) (by omega) (by omega), w64 (by omega) (by omega)]
theorem pick_ok {B : List Int} (hB : okB B) (p n : Int) (hp : 0 ≤ p ∧ p ≤ 100000000) (hn : 1 ≤ n ∧ n ≤ 1000000) : EvP (fun k => spec_l6Rd_pick.f k B p n) (fun r => 0 ≤ r.1 ∧ r.1 < n ∧ r.2 = p + 1) := by
  unfold spec_l6Rd_pick.f
  have e1 : wrap64 (p + 1) = p + 1 := w64 (by omega) (by omega)
  have e2 : wrap64 (p + 1 - 1) = p := by rw [w64 (by omega) (by omega)]; omega
  have hl := hB.1
  rw [e1]
  refine EvP.no (by omega) ?_
  refine EvP.succ ?_
  simp only [spec_l6Rd_pick.j0, e2]
  clear e1 e2
  refine EvP.ite (fun h0 => EvP.ret ⟨by omega, by dsimp only; omega, rfl⟩) (fun h0 => ?_)
  have hpos : 0 < (B.length : Int) := by
    rw [beq_iff_eq] at h0
    omega
  refine EvP.ite (fun h1 => ?_) (fun h1 => ?_)
  · have hr := okB_rd hB p
    refine EvP.yes (by omega) (EvP.no (by omega) (EvP.ret ⟨?_, ?_, rfl⟩))
    · rw [w64 (by omega) (by omega)]; exact Int.tmod_nonneg n hr.1
    · exact Int.tmod_lt_of_pos _ (by omega)
  · refine EvP.no (by omega) ?_
    have m1 : Int.tmod p (B.length : Int) = p % (B.length : Int) := tmod_pos _ hp.1
    have hm1 : 0 ≤ Int.tmod p (B.length : Int) ∧ Int.tmod p (B.length : Int) < (B.length : Int) := by rw [m1]; exact ⟨Int.emod_nonneg _ (by omega), Int.emod_lt_of_pos _ hpos⟩
    have e3 : wrap64 ((wrap64 (p * 7)) + 3) = p * 7 + 3 := by rw [w64 (i := p * 7) (by omega) (by omega), w64 (by omega) (by omega)]
    rw [e3]
    clear e3
    have hm2 : 0 ≤ Int.tmod (p * 7 + 3) (B.length : Int) ∧ Int.tmod (p * 7 + 3) (B.length : Int) < (B.length : Int) := by rw [tmod_pos _ (by omega)]; exact ⟨Int.emod_nonneg _ (by omega), Int.emod_lt_of_pos _ hpos⟩
    have hq : 0 ≤ Int.tdiv p (B.length : Int) ∧ Int.tdiv p (B.length : Int) ≤ 1000000000 := by
      rw [tdiv_pos _ hp.1]
      have := Int.ediv_le_self (B.length : Int) hp.1
      exact ⟨Int.ediv_nonneg hp.1 (by omega), by omega⟩
    have a1 := okB_rd hB (Int.tmod p (B.length : Int))
    have a2 := okB_rd hB (Int.tmod (p * 7 + 3) (B.length : Int))
    refine EvP.yes hm1.1 (EvP.yes hm1.2 (EvP.yes hm2.1 (EvP.yes hm2.2 (EvP.no (by omega) ?_))))
    rw [mixE _ _ p _ a1 a2 (by omega) hq]
    have := mix_ok (rd B (Int.tmod p (B.length : Int)) * 131 + rd B (Int.tmod (p * 7 + 3) (B.length : Int)) * 1117 + p * 29 + Int.tdiv p (B.length : Int) * 53) n (by omega) (by omega) hn.1
    exact EvP.ret ⟨this.1, this.2, rfl⟩
end Go.Proofs.YtdgmkfbmeaalpaaDoor.Pur
end
section
namespace Go.Proofs.YtdgmkfbmeaalpaaDoor.Pur
open Go.RowKit Go.Proofs.YtdgmkfbmeaalpaaDoorW.PrintWords Go.Proofs.YtdgmkfbmeaalpaaDoorW.PrintMore Go.Proofs.YtdgmkfbmeaalpaaDoor.E
theorem of_ok {B : List Int} (hB : okB B) (p : Int) (hp : 0 ≤ p ∧ p ≤ 1000000) (l : List ByteArray) (hl : 1 ≤ l.length ∧ l.length ≤ 1000) : EvP (fun k => spec_l6Rd_of.f k B p l) (fun r => (∃ i : Nat, i < l.length ∧ r.1 = l.getD i ByteArray.empty) ∧ r.2 = p + 1) := by
  unfold spec_l6Rd_of.f
  refine EvP.bind (pick_ok hB p (l.length : Int) (by omega) (by omega)) (fun r hr => ?_)
  exact EvP.yes hr.1 (EvP.yes hr.2.1 (EvP.ret ⟨⟨r.1.toNat, by omega, rfl⟩, hr.2.2⟩))
theorem of_size {B : List Int} (hB : okB B) (p : Int) (hp : 0 ≤ p ∧ p ≤ 1000000) (l : List ByteArray) (hl : 1 ≤ l.length ∧ l.length ≤ 1000) (n : Nat) (h : ∀ t ∈ l, t.size ≤ n) : EvP (fun k => spec_l6Rd_of.f k B p l) (fun r => r.1.size ≤ n ∧ r.1 ∈ l ∧ r.2 = p + 1) := by
  refine (of_ok hB p hp l hl).mono (fun r hr => ?_)
  obtain ⟨⟨i, hi, e⟩, e2⟩ := hr
  have hm : r.1 ∈ l := by
    rw [e, List.getD_eq_getElem?_getD, List.getElem?_eq_getElem hi]
    exact List.getElem_mem hi
  exact ⟨h _ hm, hm, e2⟩
end Go.Proofs.YtdgmkfbmeaalpaaDoor.Pur
end
section
namespace Go.Proofs.YtdgmkfbmeaalpaaDoor.E
open Go.RowKit Go.Proofs.YtdgmkfbmeaalpaaDoorW.PrintWords Go.Proofs.YtdgmkfbmeaalpaaDoorW.PrintLast Go.Proofs.YtdgmkfbmeaalpaaDoorW.PrintMore
attribute [local go_sem] max2_int min2_int max_two min_two max_three min_three max_four min_four
set_option linter.unusedVariables false
set_option linter.unusedSimpArgs false
attribute [local go_sem] str_leq_ str_gtr_ str_geq_
def spec_l91Sing.f (k : Nat) (s0_0 : List Int) (s0_1 : Int) : Option ((List (S25)) × Int × Bool × (List (S25)) × (List (S25)) × ByteArray × Int) := (spec_l91Psalm.f k s0_0 s0_1).bind fun bt172 => ((spec_l91Verse.f k s0_0 bt172.2.2.2.2.2).bind fun bt185 => (some (bt172.1, bt172.2.1, bt172.2.2.1, bt172.2.2.2.1, bt172.2.2.2.2.1, bt185.1, bt185.2)))
end Go.Proofs.YtdgmkfbmeaalpaaDoor.E
end
section
namespace Go.Proofs.YtdgmkfbmeaalpaaDoor.E
open Go.RowKit Go.Proofs.YtdgmkfbmeaalpaaDoorW.PrintWords Go.Proofs.YtdgmkfbmeaalpaaDoorW.PrintLast Go.Proofs.YtdgmkfbmeaalpaaDoorW.PrintMore
attribute [local go_sem] max2_int min2_int max_two min_two max_three min_three max_four min_four
set_option linter.unusedVariables false
set_option linter.unusedSimpArgs false
attribute [local go_sem] str_leq_ str_gtr_ str_geq_
def spec_DrawPsalmAccents.f (k : Nat) (l0 : List Int) : Option ((List (S25)) × Int × Bool × (List (S25)) × (List (S25)) × ByteArray) := (spec_l6Open.f l0).bind fun bt400 => ((spec_l91Sing.f k bt400.1 bt400.2).bind fun bt403 => (some (bt403.1, bt403.2.1, bt403.2.2.1, bt403.2.2.2.1, bt403.2.2.2.2.1, bt403.2.2.2.2.2.1)))
end Go.Proofs.YtdgmkfbmeaalpaaDoor.E
end
section
namespace Go.Proofs.YtdgmkfbmeaalpaaDoor.Pur
open Go.RowKit Go.Proofs.YtdgmkfbmeaalpaaDoorW.PrintWords Go.Proofs.YtdgmkfbmeaalpaaDoor.E
theorem some_loop {B : List Int} (hB : okB B) (n : Int) (hn : 0 ≤ n ∧ n ≤ 20) : ∀ (d : Nat) (i : Int) (acc : List S25) (p : Int), 0 ≤ i → i + d = n → (acc.length : Int) = i → 0 ≤ p → p ≤ 1000000 - 10 * d → EvP (fun k => spec_l91Some.l0 k n acc i B p) (fun r => (r.1.length : Int) = n ∧ 0 ≤ r.2 ∧ r.2 ≤ p + 2 * d) := by
  intro d
  induction d with
  | zero =>
    intro i acc p h0 hi ha hp hp'
    refine EvP.succ ?_
    simp only [spec_l91Some.l0]
    exact EvP.no (by omega) (EvP.ret ⟨by simp only []; omega, by simp only []; omega, by simp only []; omega⟩)
  | succ d ih =>
    intro i acc p h0 hi ha hp hp'
    refine EvP.succ ?_
    simp only [spec_l91Some.l0]
    refine EvP.yes (by omega) ?_
    refine EvP.bind (pick_ok hB p 6 (by omega) (by omega)) (fun r1 ⟨a1, a2, a3⟩ => ?_)
    have e1 : Hd (wrap64 (i + 1) = i + 1) := ⟨w64 (by omega) (by omega)⟩
    refine EvP.bind (P := fun _ => True) (EvP.con rfl trivial) (fun _ _ => ?_)
    refine EvP.ite (fun _ => ?_) (fun _ => ?_)
    · refine EvP.bind (pick_ok hB r1.2 2 (by omega) (by omega)) (fun r2 ⟨b1, b2, b3⟩ => ?_)
      refine EvP.yes (by omega) ?_
      rw [e1.out]
      refine (ih (i + 1) _ r2.2 (by omega) (by omega) (by simp; omega) (by omega) (by omega)).mono ?_
      rintro r ⟨c1, c2, c3⟩
      exact ⟨c1, c2, by omega⟩
    · refine EvP.yes (by omega) ?_
      rw [e1.out]
      refine (ih (i + 1) _ r1.2 (by omega) (by omega) (by simp; omega) (by omega) (by omega)).mono ?_
      rintro r ⟨c1, c2, c3⟩
      exact ⟨c1, c2, by omega⟩
theorem some_ok {B : List Int} (hB : okB B) (p n : Int) (hn : 0 ≤ n ∧ n ≤ 20) (hp : 0 ≤ p ∧ p ≤ 900000) : EvP (fun k => spec_l91Some.f k B p n) (fun r => (r.1.length : Int) = n ∧ 0 ≤ r.2 ∧ r.2 ≤ p + 2 * n) := by
  simp only [spec_l91Some.f]
  refine (some_loop hB n hn n.toNat 0 [] p (by omega) (by omega) rfl (by omega) (by omega)).mono ?_
  rintro r ⟨c1, c2, c3⟩
  exact ⟨c1, c2, by omega⟩
theorem draw_psalm {B : List Int} (hB : okB B) (p : Int) (hp : 0 ≤ p ∧ p ≤ 100000) : EvP (fun k => spec_l91Psalm.f k B p) (fun r => r.1.length ≤ 10 ∧ r.2.2.2.1.length ≤ 10 ∧ r.2.2.2.2.1.length ≤ 10 ∧ 0 ≤ r.2.2.2.2.2 ∧ r.2.2.2.2.2 ≤ p + 50) := by
  simp only [spec_l91Psalm.f]
  refine EvP.bind (pick_ok hB p 4 (by omega) (by omega)) (fun r1 ⟨a1, a2, a3⟩ => ?_)
  refine EvP.bind (some_ok hB r1.2 r1.1 (by omega) (by omega)) (fun r2 ⟨b1, b2, b3⟩ => ?_)
  refine EvP.bind (pick_ok hB r2.2 4 (by omega) (by omega)) (fun r3 ⟨c1, c2, c3⟩ => ?_)
  refine EvP.bind (pick_ok hB r3.2 3 (by omega) (by omega)) (fun r4 ⟨d1, d2, d3⟩ => ?_)
  have e4 : Hd (wrap64 (1 + r4.1) = 1 + r4.1) := ⟨w64 (by omega) (by omega)⟩
  rw [e4.out]
  refine EvP.bind (some_ok hB r4.2 (1 + r4.1) (by omega) (by omega)) (fun r5 ⟨f1, f2, f3⟩ => ?_)
  refine EvP.bind (pick_ok hB r5.2 4 (by omega) (by omega)) (fun r6 ⟨g1, g2, g3⟩ => ?_)
  have e6 : Hd (wrap64 (1 + r6.1) = 1 + r6.1) := ⟨w64 (by omega) (by omega)⟩
  rw [e6.out]
  refine EvP.bind (some_ok hB r6.2 (1 + r6.1) (by omega) (by omega)) (fun r7 ⟨h1, h2, h3⟩ => ?_)
  refine EvP.bind (pick_ok hB r7.2 40 (by omega) (by omega)) (fun r8 ⟨i1, i2, i3⟩ => ?_)
  refine EvP.ite (fun _ => EvP.ret ?_) (fun _ => EvP.ite (fun _ => EvP.ret ?_) (fun _ => EvP.ite (fun _ => ?_) (fun _ => EvP.ret ?_)))
  · exact ⟨by simp only []; omega, by simp only []; omega, by simp only []; omega, by simp only []; omega, by simp only []; omega⟩
  · exact ⟨by simp only []; omega, Nat.zero_le _, by simp only []; omega, by simp only []; omega, by simp only []; omega⟩
  · refine EvP.bind (some_ok hB r8.2 5 (by omega) (by omega)) (fun r9 ⟨j1, j2, j3⟩ => EvP.ret ?_)
    exact ⟨by simp only []; omega, by simp only []; omega, by simp only []; omega, by simp only []; omega, by simp only []; omega⟩
  · exact ⟨by simp only []; omega, by simp only []; omega, by simp only []; omega, by simp only []; omega, by simp only []; omega⟩
theorem verse_end {B : List Int} (hB : okB B) (t : ByteArray) (ht : t.size ≤ 1000) (p : Int) (hp : 0 ≤ p ∧ p ≤ 200000) : EvP (fun k => spec_l91Verse.l0 k t 2 B p) (fun r => r.1.size ≤ t.size + 12 ∧ 0 ≤ r.2 ∧ r.2 ≤ p + 2) := by
  refine EvP.succ ?_
  simp only [spec_l91Verse.l0]
  refine EvP.no (by omega) ?_
  refine EvP.bind (pick_ok hB p 24 (by omega) (by omega)) (fun r1 ⟨a1, a2, a3⟩ => ?_)
  refine EvP.ite (fun _ => ?_) (fun _ => EvP.ite (fun _ => ?_) (fun _ => EvP.ite (fun _ => ?_) (fun _ => EvP.ret ?_)))
  · refine EvP.bind (of_size hB r1.2 (by omega) _ (by decide) 2 (by intro t h; simp at h; rcases h with rfl | rfl | rfl <;> decide)) (fun r2 ⟨b1, _, b3⟩ => ?_)
    refine EvP.yes (by omega) (EvP.ret ⟨?_, by simp only []; omega, by simp only []; omega⟩)
    rw [ByteArray.size_append]
    omega
  · refine EvP.bind (of_size hB r1.2 (by omega) _ (by decide) 3 (by intro t h; simp at h; rcases h with rfl | rfl | rfl | rfl | rfl | rfl <;> decide)) (fun r2 ⟨b1, _, b3⟩ => ?_)
    exact EvP.ret ⟨by simp only []; omega, by simp only []; omega, by simp only []; omega⟩
  · refine EvP.yes (by omega) (EvP.ret ⟨?_, by simp only []; omega, by simp only []; omega⟩)
    rw [ByteArray.size_append]
    exact Nat.le_refl _
  · exact ⟨by simp only []; omega, by simp only []; omega, by simp only []; omega⟩
theorem verse_half {B : List Int} (hB : okB B) (x4 : Int) (n T : Nat) (P : Int) (Q : ByteArray × Int → Prop) (hn : n ≤ 100) (hT : T ≤ 900) (hP : P ≤ 200000) (hc : ∀ (t : ByteArray) (p : Int), t.size ≤ T → 0 ≤ p → p ≤ P → EvP (fun k => spec_l91Verse.l0 k (if x4 = 0 then t ++ (⟨#[124]⟩ : ByteArray) else t) (wrap64 (x4 + 1)) B p) Q) :
    ∀ (d i : Nat) (t : ByteArray) (p : Int), i + d = n → t.size + d ≤ T → 0 ≤ p → p + d ≤ P → EvP (fun k => spec_l91Verse.l1 k t x4 (n : Int) (i : Int) B p) Q := by
  intro d
  induction d with
  | zero =>
    intro i t p hi ht hp hp'
    refine EvP.succ ?_
    simp only [spec_l91Verse.l1]
    refine EvP.no (by omega) ?_
    have h := hc t p (by omega) hp (by omega)
    by_cases hx : x4 = 0
    · rw [if_pos hx] at h
      exact EvP.yes hx (EvP.yes (by omega) h)
    · rw [if_neg hx] at h
      exact EvP.no hx h
  | succ d ih =>
    intro i t p hi ht hp hp'
    refine EvP.succ ?_
    simp only [spec_l91Verse.l1]
    refine EvP.yes (by omega) ?_
    refine EvP.bind (of_size hB p (by omega) _ (by decide) 1 (by intro t h; simp at h; rcases h with rfl | rfl | rfl <;> decide)) (fun r2 ⟨b1, _, b3⟩ => ?_)
    refine EvP.yes (by omega) ?_
    have e1 : Hd (wrap64 ((i : Int) + 1) = ((i + 1 : Nat) : Int)) := ⟨w64 (by omega) (by omega)⟩
    rw [e1.out]
    exact ih (i + 1) _ _ (by omega) (by rw [ByteArray.size_append]; omega) (by omega) (by omega)
theorem draw_verse {B : List Int} (hB : okB B) (p : Int) (hp : 0 ≤ p ∧ p ≤ 100000) : EvP (fun k => spec_l91Verse.f k B p) (fun r => r.1.size ≤ 100 ∧ 0 ≤ r.2 ∧ r.2 ≤ p + 50) := by
  simp only [spec_l91Verse.f]
  have h2 : ∀ (t : ByteArray) (p' : Int), t.size ≤ 40 → 0 ≤ p' → p' ≤ p + 40 → EvP (fun k => spec_l91Verse.l0 k (if (1 : Int) = 0 then t ++ (⟨#[124]⟩ : ByteArray) else t) (wrap64 (1 + 1)) B p') (fun r => r.1.size ≤ 100 ∧ 0 ≤ r.2 ∧ r.2 ≤ p + 50) := by
    intro t p' ht h0 h1
    rw [if_neg (by decide), show wrap64 (1 + 1) = 2 from w64 (by omega) (by omega)]
    refine (verse_end hB t (by omega) p' (by omega)).mono ?_
    rintro r ⟨a, b, c⟩
    exact ⟨by omega, b, by omega⟩
  have h1 : ∀ (t : ByteArray) (p' : Int), t.size ≤ 20 → 0 ≤ p' → p' ≤ p + 20 → EvP (fun k => spec_l91Verse.l0 k t 1 B p') (fun r => r.1.size ≤ 100 ∧ 0 ≤ r.2 ∧ r.2 ≤ p + 50) := by
    intro t p' ht h0 h1
    refine EvP.succ ?_
    simp only [spec_l91Verse.l0]
    refine EvP.yes (by omega) ?_
    refine EvP.bind (pick_ok hB p' 8 (by omega) (by omega)) (fun r1 ⟨a1, a2, a3⟩ => ?_)
    have e4 : Hd (wrap64 (1 + r1.1) = ((1 + r1.1.toNat : Nat) : Int)) := ⟨by rw [w64 (by omega) (by omega)]; omega⟩
    rw [e4.out]
    exact verse_half hB 1 (1 + r1.1.toNat) 40 (p + 40) _ (by omega) (by omega) (by omega) h2 (1 + r1.1.toNat) 0 t r1.2 (by omega) (by omega) (by omega) (by omega)
  have h1' : ∀ (t : ByteArray) (p' : Int), t.size ≤ 19 → 0 ≤ p' → p' ≤ p + 20 → EvP (fun k => spec_l91Verse.l0 k (if (0 : Int) = 0 then t ++ (⟨#[124]⟩ : ByteArray) else t) (wrap64 (0 + 1)) B p') (fun r => r.1.size ≤ 100 ∧ 0 ≤ r.2 ∧ r.2 ≤ p + 50) := by
    intro t p' ht h0 h2
    rw [if_pos rfl, show wrap64 (0 + 1) = 1 from w64 (by omega) (by omega)]
    exact h1 _ p' (by rw [ByteArray.size_append]; show t.size + 1 ≤ 20; omega) h0 h2
  refine EvP.succ ?_
  simp only [spec_l91Verse.l0]
  refine EvP.yes (by omega) ?_
  refine EvP.bind (pick_ok hB p 8 (by omega) (by omega)) (fun r1 ⟨a1, a2, a3⟩ => ?_)
  have e4 : Hd (wrap64 (1 + r1.1) = ((1 + r1.1.toNat : Nat) : Int)) := ⟨by rw [w64 (by omega) (by omega)]; omega⟩
  rw [e4.out]
  exact verse_half hB 0 (1 + r1.1.toNat) 19 (p + 20) _ (by omega) (by omega) (by omega) h1' (1 + r1.1.toNat) 0 ⟨#[]⟩ r1.2 (by omega) (by show 0 + _ ≤ 19; omega) (by omega) (by omega)
theorem draw_psalms {B : List Int} (hB : okB B) (p : Int) (hp : 0 ≤ p ∧ p ≤ 10000) : EvP (fun k => spec_l91Psalms.f k B p) (fun r => r.1.length ≤ 3 ∧ (∀ y ∈ r.1, y.f0.length ≤ 10 ∧ y.f2.length ≤ 10 ∧ y.f3.length ≤ 10) ∧ 0 ≤ r.2 ∧ r.2 ≤ p + 200) := by
  simp only [spec_l91Psalms.f]
  refine EvP.bind (pick_ok hB p 4 (by omega) (by omega)) (fun r0 ⟨a1, a2, a3⟩ => ?_)
  have hl : ∀ (d i : Nat) (acc : List S27) (q : Int), ((i + d : Nat) : Int) = r0.1 → acc.length = i → (∀ y ∈ acc, y.f0.length ≤ 10 ∧ y.f2.length ≤ 10 ∧ y.f3.length ≤ 10) → 0 ≤ q → q + 50 * d ≤ 20000 → EvP (fun k => spec_l91Psalms.l0 k acc r0.1 (i : Int) B q) (fun r => r.1.length ≤ 3 ∧ (∀ y ∈ r.1, y.f0.length ≤ 10 ∧ y.f2.length ≤ 10 ∧ y.f3.length ≤ 10) ∧ 0 ≤ r.2 ∧ r.2 ≤ q + 50 * d) := by
    intro d
    induction d with
    | zero =>
      intro i acc q hi ha hy hq hq'
      refine EvP.succ ?_
      simp only [spec_l91Psalms.l0]
      exact EvP.no (by omega) (EvP.ret ⟨by simp only []; omega, hy, hq, by simp only []; omega⟩)
    | succ d ih =>
      intro i acc q hi ha hy hq hq'
      refine EvP.succ ?_
      simp only [spec_l91Psalms.l0]
      refine EvP.yes (by omega) ?_
      refine EvP.bind (draw_psalm hB q (by omega)) (fun r1 ⟨c1, c2, c3, c4, c5⟩ => ?_)
      refine EvP.yes (by omega) ?_
      have e1 : Hd (wrap64 ((i : Int) + 1) = ((i + 1 : Nat) : Int)) := ⟨w64 (by omega) (by omega)⟩
      rw [e1.out]
      refine (ih (i + 1) _ _ (by omega) (by simp; omega) ?_ c4 (by omega)).mono ?_
      · intro y h
        rcases List.mem_append.mp h with h | h
        · exact hy y h
        · obtain rfl := List.mem_singleton.mp h
          exact ⟨c1, c2, c3⟩
      · rintro r ⟨d1, d2, d3, d4⟩
        exact ⟨d1, d2, d3, by omega⟩
  refine (hl r0.1.toNat 0 [] r0.2 (by omega) rfl (fun y h => by cases h) (by omega) (by omega)).mono ?_
  rintro r ⟨d1, d2, d3, d4⟩
  exact ⟨d1, d2, d3, by omega⟩
end Go.Proofs.YtdgmkfbmeaalpaaDoor.Pur
end
section
namespace Go.Proofs.YtdgmkfbmeaalpaaDoor.E
open Go.RowKit Go.Proofs.YtdgmkfbmeaalpaaDoorW.PrintWords Go.Proofs.YtdgmkfbmeaalpaaDoorW.PrintLast Go.Proofs.YtdgmkfbmeaalpaaDoorW.PrintMore
attribute [local go_sem] max2_int min2_int max_two min_two max_three min_three max_four min_four
set_option linter.unusedVariables false
set_option linter.unusedSimpArgs false
attribute [local go_sem] str_leq_ str_gtr_ str_geq_
def spec_DrawPsalmBest.f (k : Nat) (l0 : List Int) : Option ((List (S27)) × ByteArray) := (spec_l6Open.f l0).bind fun bt762 => ((spec_l91Psalms.f k bt762.1 bt762.2).bind fun bt765 => ((spec_l91Verse.f k bt762.1 bt765.2).bind fun bt769 => (some (bt765.1, bt769.1))))
end Go.Proofs.YtdgmkfbmeaalpaaDoor.E
end
section
namespace Go.Proofs.YtdgmkfbmeaalpaaDoor.E
open Go.RowKit Go.Proofs.YtdgmkfbmeaalpaaDoorW.PrintWords Go.Proofs.YtdgmkfbmeaalpaaDoorW.PrintLast Go.Proofs.YtdgmkfbmeaalpaaDoorW.PrintMore
attribute [local go_sem] max2_int min2_int max_two min_two max_three min_three max_four min_four
set_option linter.unusedVariables false
set_option linter.unusedSimpArgs false
attribute [local go_sem] str_leq_ str_gtr_ str_geq_
mutual
def impl_PsalmBest.j0 : Nat → List (S27) → ByteArray → Bool → Option (Int × Bool)
 | 0, _, _, _ => none
 | k + 1, x0, x1, x18 => if x18 = true then (some (0, false)) else (impl_PsalmBest.l0 k x1 0 (-1) x0 (x0.length : Int) 0)
def impl_PsalmBest.l0 : Nat → ByteArray → Int → Int → List (S27) → Int → Int → Option (Int × Bool)
 | 0, _, _, _, _, _, _ => none
 | k + 1, x1, x6, x7, x19, x20, x21 => if x21 < x20 then (if 0 ≤ x21 then (if x21 < (x19.length : Int) then ((impl_PsalmAccents.f k ((rd_T27 x19 x21).f0) ((rd_T27 x19 x21).f1.f0) ((rd_T27 x19 x21).f1.f1) ((rd_T27 x19 x21).f2) ((rd_T27 x19 x21).f3) x1).bind fun t778 => (if t778 > x7 then (impl_PsalmBest.l0 k x1 x21 t778 x19 x20 (wrap64 (x21 + 1))) else (impl_PsalmBest.l0 k x1 x6 x7 x19 x20 (wrap64 (x21 + 1))))) else (none)) else (none)) else (some (x6, decide (x7 ≥ 0)))
end
def impl_PsalmBest.f (k : Nat) (l0 : List (S27)) (a1 : ByteArray) : Option (Int × Bool) := (impl_VerseValid.f a1).bind fun t774 => (if t774 = true then ((impl_allPsalmsValid.f k l0).bind fun t775 => (impl_PsalmBest.j0 k l0 a1 (!t775))) else (impl_PsalmBest.j0 k l0 a1 true))
end Go.Proofs.YtdgmkfbmeaalpaaDoor.E
end
section
namespace Go.Proofs.YtdgmkfbmeaalpaaDoor.E
open Go.RowKit Go.Proofs.YtdgmkfbmeaalpaaDoorW.PrintWords Go.Proofs.YtdgmkfbmeaalpaaDoorW.PrintLast Go.Proofs.YtdgmkfbmeaalpaaDoorW.PrintMore
attribute [local go_sem] max2_int min2_int max_two min_two max_three min_three max_four min_four
set_option linter.unusedVariables false
set_option linter.unusedSimpArgs false
attribute [local go_sem] str_leq_ str_gtr_ str_geq_
mutual
def spec_PsalmBest.j0 : Nat → List (S27) → ByteArray → Bool → Option (Int × Bool)
 | 0, _, _, _ => none
 | k + 1, x0, x1, x17 => if x17 = true then (some (0, false)) else (spec_PsalmBest.l0 k x0 x1 (-1) (-1) 0)
def spec_PsalmBest.l0 : Nat → List (S27) → ByteArray → Int → Int → Int → Option (Int × Bool)
 | 0, _, _, _, _, _ => none
 | k + 1, x0, x1, x6, x7, x8 => if x8 < (x0.length : Int) then (if 0 ≤ x8 then ((spec_PsalmAccents.f k ((rd_T27 x0 x8).f0) ((rd_T27 x0 x8).f1.f0) ((rd_T27 x0 x8).f1.f1) ((rd_T27 x0 x8).f2) ((rd_T27 x0 x8).f3) x1).bind fun t784 => (if t784 > x7 then (spec_PsalmBest.l0 k x0 x1 x8 t784 (wrap64 (x8 + 1))) else (spec_PsalmBest.l0 k x0 x1 x6 x7 (wrap64 (x8 + 1))))) else (none)) else (if x6 < 0 then (some (0, false)) else (some (x6, true)))
end
def spec_PsalmBest.f (k : Nat) (l0 : List (S27)) (a1 : ByteArray) : Option (Int × Bool) := (spec_l4All.f k l0).bind fun t781 => (if t781 = true then ((spec_VerseValid.f k a1).bind fun t782 => (spec_PsalmBest.j0 k l0 a1 (!t782))) else (spec_PsalmBest.j0 k l0 a1 true))
end Go.Proofs.YtdgmkfbmeaalpaaDoor.E
end
section
namespace Go.Proofs.YtdgmkfbmeaalpaaDoor.E
open Go.RowKit Go.Proofs.YtdgmkfbmeaalpaaDoorW.PrintWords Go.Proofs.YtdgmkfbmeaalpaaDoorW.PrintLast Go.Proofs.YtdgmkfbmeaalpaaDoorW.PrintMore
attribute [local go_sem] max2_int min2_int max_two min_two max_three min_three max_four min_four
set_option linter.unusedVariables false
set_option linter.unusedSimpArgs false
attribute [local go_sem] str_leq_ str_gtr_ str_geq_
mutual
def laws_FnPsalmBest.j0 : Nat → List (S27) → ByteArray → Int → Bool → Int → Bool → Bool → Option (Bool)
 | 0, _, _, _, _, _, _, _ => none
 | k + 1, x3, x4, x5, x6, x7, x8, x43 => if x43 = true then (if (x6 == x8) = true then (some (x5 == x7)) else (none)) else (if 0 ≤ x5 then (if x5 < (x3.length : Int) then ((impl_PsalmAccents.f k ((rd_T27 x3 x5).f0) ((rd_T27 x3 x5).f1.f0) ((rd_T27 x3 x5).f1.f1) ((rd_T27 x3 x5).f2) ((rd_T27 x3 x5).f3) x4).bind fun t794 => (laws_FnPsalmBest.l0 k x3 x4 x5 t794 0)) else (none)) else (none))
def laws_FnPsalmBest.l0 : Nat → List (S27) → ByteArray → Int → Int → Int → Option (Bool)
 | 0, _, _, _, _, _ => none
 | k + 1, x3, x4, x5, x9, x10 => if x10 < (x3.length : Int) then (if 0 ≤ x10 then ((impl_PsalmAccents.f k ((rd_T27 x3 x10).f0) ((rd_T27 x3 x10).f1.f0) ((rd_T27 x3 x10).f1.f1) ((rd_T27 x3 x10).f2) ((rd_T27 x3 x10).f3) x4).bind fun t796 => (if t796 > x9 then (none) else (if t796 = x9 then (if x10 < x5 then (none) else (laws_FnPsalmBest.l0 k x3 x4 x5 x9 (wrap64 (x10 + 1)))) else (laws_FnPsalmBest.l0 k x3 x4 x5 x9 (wrap64 (x10 + 1)))))) else (none)) else (if x9 ≥ 0 then (if 0 ≤ x5 then (if x5 < (x3.length : Int) then ((impl_PsalmFits.f k ((rd_T27 x3 x5).f0) ((rd_T27 x3 x5).f1.f0) ((rd_T27 x3 x5).f1.f1) ((rd_T27 x3 x5).f2) ((rd_T27 x3 x5).f3) x4).bind fun t798 => (some t798)) else (none)) else (none)) else (none))
end
def laws_FnPsalmBest.f (k : Nat) (l0 : List Int) : Option (Bool) := if (l0.length : Int) > 1048576 then (some true) else ((spec_DrawPsalmBest.f k l0).bind fun bt785 => ((impl_PsalmBest.f k bt785.1 bt785.2).bind fun bt789 => ((spec_PsalmBest.f k bt785.1 bt785.2).bind fun bt791 => (if (bt789.2 != bt791.2) = true then (laws_FnPsalmBest.j0 k bt785.1 bt785.2 bt789.1 bt789.2 bt791.1 bt791.2 true) else (if bt789.1 = bt791.1 then (laws_FnPsalmBest.j0 k bt785.1 bt785.2 bt789.1 bt789.2 bt791.1 bt791.2 (!bt789.2)) else (laws_FnPsalmBest.j0 k bt785.1 bt785.2 bt789.1 bt789.2 bt791.1 bt791.2 true))))))
def laws_FnPsalmBest.Pure : Prop := ∀ (l0 : List Int), l0.length ≤ maxLen → l0.length * 1 ≤ 140737488351232 → (∀ x ∈ l0, (Lit.int .u8 x).wf = true) → ∃ k, laws_FnPsalmBest.f k l0 = some true
end Go.Proofs.YtdgmkfbmeaalpaaDoor.E
end
section
namespace Go.Proofs.YtdgmkfbmeaalpaaDoor.Pur
open Go.RowKit Go.Proofs.YtdgmkfbmeaalpaaDoorW.PrintWords Go.Proofs.YtdgmkfbmeaalpaaDoorW.PrintMore Go.Proofs.YtdgmkfbmeaalpaaDoor.E
abbrev PL := List S27
def okP (y : S27) : Bool := okPs y.f0 y.f1.f0 y.f1.f1 y.f2 y.f3
def shortP (y : S27) : Prop := y.f0.length ≤ 1048576 ∧ y.f2.length ≤ 1048576 ∧ y.f3.length ≤ 1048576
theorem rdP_lt {l : PL} {i : Nat} (h : i < l.length) : rd_T27 l (i : Int) = l[i] := by
  unfold rd_T27
  rw [toNat_nat, List.getD_eq_getElem?_getD, List.getElem?_eq_getElem h]
  rfl
theorem impl_all_loop (l : PL) (hl : l.length ≤ 1048576) : ∀ d i : Nat, i + d = l.length → EvP (fun k => impl_allPsalmsValid.l0 k l (l.length : Int) (i : Int)) (· = (l.drop i).all okP) := by
  intro d
  induction d with
  | zero =>
    intro i hi
    refine EvP.succ ?_
    simp only [impl_allPsalmsValid.l0]
    refine EvP.no (by omega) (EvP.ret ?_)
    rw [List.drop_of_length_le (by omega)]
    rfl
  | succ d ih =>
    intro i hi
    have hlt : i < l.length := by omega
    refine EvP.succ ?_
    simp only [impl_allPsalmsValid.l0]
    refine EvP.yes (by omega) (EvP.yes (by omega) (EvP.yes (by omega) ?_))
    rw [rdP_lt hlt, List.drop_eq_getElem_cons hlt, List.all_cons]
    refine EvP.bind (impl_psalm _ _ _ _ _) (fun _ e => ?_)
    subst e
    refine EvP.ite (fun h => ?_) (fun h => EvP.ret ?_)
    · rw [w64 (by omega) (by omega), show (i : Int) + 1 = ((i + 1 : Nat) : Int) by omega, show okP l[i] = true from h, Bool.true_and]
      exact ih (i + 1) (by omega)
    · rw [show okP l[i] = false from Bool.eq_false_iff.mpr h, Bool.false_and]
theorem impl_all (l : PL) (hl : l.length ≤ 1048576) : EvP (fun k => impl_allPsalmsValid.f k l) (· = l.all okP) := impl_all_loop l hl l.length 0 (by omega)
theorem spec_all_loop (l : PL) (hl : l.length ≤ 1048576) (hs : ∀ y ∈ l, shortP y) : ∀ d i : Nat, i + d = l.length → EvP (fun k => spec_l4All.l0 k l (i : Int)) (· = (l.drop i).all okP) := by
  intro d
  induction d with
  | zero =>
    intro i hi
    refine EvP.succ ?_
    simp only [spec_l4All.l0]
    refine EvP.no (by omega) (EvP.ret ?_)
    rw [List.drop_of_length_le (by omega)]
    rfl
  | succ d ih =>
    intro i hi
    have hlt : i < l.length := by omega
    obtain ⟨h1, h2, h3⟩ := hs _ (List.getElem_mem hlt)
    refine EvP.succ ?_
    simp only [spec_l4All.l0]
    refine EvP.yes (by omega) (EvP.yes (by omega) ?_)
    rw [rdP_lt hlt, List.drop_eq_getElem_cons hlt, List.all_cons]
    refine EvP.bind (spec_psalm _ _ _ _ _ (by omega) (by omega) (by omega)) (fun _ e => ?_)
    subst e
    refine EvP.ite (fun h => ?_) (fun h => EvP.ret ?_)
    · rw [w64 (by omega) (by omega), show (i : Int) + 1 = ((i + 1 : Nat) : Int) by omega, show okP l[i] = true from h, Bool.true_and]
      exact ih (i + 1) (by omega)
    · rw [show okP l[i] = false from Bool.eq_false_iff.mpr h, Bool.false_and]
theorem spec_all (l : PL) (hl : l.length ≤ 1048576) (hs : ∀ y ∈ l, shortP y) : EvP (fun k => spec_l4All.f k l) (· = l.all okP) := spec_all_loop l hl hs l.length 0 (by omega)
def accAt (l : PL) (s : ByteArray) (i : Nat) : Int := accR (rd_T27 l (i : Int)).f2 (rd_T27 l (i : Int)).f3 (fitP (rd_T27 l (i : Int)).f0 (rd_T27 l (i : Int)).f1.f0 (rd_T27 l (i : Int)).f1.f1 (rd_T27 l (i : Int)).f2 (rd_T27 l (i : Int)).f3 s)
def bestF (A : Nat → Int) : Nat → Int × Int
  | 0 => (0, -1)
  | n + 1 => if A n > (bestF A n).2 then ((n : Int), A n) else bestF A n
def bestR (l : PL) (s : ByteArray) : Int × Bool := if (verse s).isSome = true ∧ l.all okP = true then ((bestF (accAt l s) l.length).1, decide ((bestF (accAt l s) l.length).2 ≥ 0)) else (0, false)
def negOf (p : Int × Int) : Int := if p.2 < 0 then -1 else p.1
end Go.Proofs.YtdgmkfbmeaalpaaDoor.Pur
end
section
namespace Go.Proofs.YtdgmkfbmeaalpaaDoor.E
open Go.RowKit Go.Proofs.YtdgmkfbmeaalpaaDoorW.PrintWords Go.Proofs.YtdgmkfbmeaalpaaDoorW.PrintLast Go.Proofs.YtdgmkfbmeaalpaaDoorW.PrintMore
attribute [local go_sem] max2_int min2_int max_two min_two max_three min_three max_four min_four
set_option linter.unusedVariables false
set_option linter.unusedSimpArgs false
attribute [local go_sem high] eqA25
attribute [local go_sem] str_leq_ str_gtr_ str_geq_
def laws_sameTones.l0 : Nat → List (S25) → List (S25) → Int → Option (Bool)
 | 0, _, _, _ => none
 | k + 1, x0, x1, x5 => if x5 < (x0.length : Int) then (if 0 ≤ x5 then (if x5 < (x1.length : Int) then (if (!(((rd_T25 x0 x5).f0) == ((rd_T25 x1 x5).f0)) || (!(((rd_T25 x0 x5).f1) == ((rd_T25 x1 x5).f1)))) = true then (some false) else (laws_sameTones.l0 k x0 x1 (wrap64 (x5 + 1)))) else (none)) else (none)) else (some true)
def laws_sameTones.f (k : Nat) (l0 : List (S25)) (l1 : List (S25)) : Option (Bool) := if (l0.length : Int) = (l1.length : Int) then (laws_sameTones.l0 k l0 l1 0) else (some false)
end Go.Proofs.YtdgmkfbmeaalpaaDoor.E
end
section
namespace Go.Proofs.YtdgmkfbmeaalpaaDoor.Pur
open Go.RowKit Go.Proofs.YtdgmkfbmeaalpaaDoorW.PrintWords Go.Proofs.YtdgmkfbmeaalpaaDoor.E
instance decT : DecidableEq S25 := fun a b => if h : a.f0 = b.f0 ∧ a.f1 = b.f1 then .isTrue (by
    cases a
    cases b
    obtain ⟨h1, h2⟩ := h
    simp only [] at h1 h2
    rw [h1, h2]) else .isFalse (fun e => h (by rw [e]; exact ⟨rfl, rfl⟩))
theorem neq_t {a b : S25} : (!(a.f0 == b.f0) || (!(a.f1 == b.f1))) = true ↔ a ≠ b := by
  obtain ⟨a0, a1⟩ := a
  obtain ⟨b0, b1⟩ := b
  simp only [Bool.or_eq_true, Bool.not_eq_true', beq_eq_false_iff_ne, ne_eq, S25.mk.injEq]
  constructor
  · rintro (h | h) ⟨e1, e2⟩
    · exact h e1
    · exact h e2
  · intro h
    by_cases e : a0 = b0
    · exact .inr (fun e2 => h ⟨e, e2⟩)
    · exact .inl e
theorem eq_step {a b : TL} {i : Nat} (ha : i < a.length) (hb : i < b.length) : decide (a.drop i = b.drop i) = (decide (a[i] = b[i]) && decide (a.drop (i + 1) = b.drop (i + 1))) := by
  rw [List.drop_eq_getElem_cons ha, List.drop_eq_getElem_cons hb]
  simp only [List.cons.injEq, Bool.decide_and]
theorem len_ne {a b : TL} (h : ¬ (a.length : Int) = (b.length : Int)) : decide (a = b) = false := decide_eq_false (fun e => h (by rw [e]))
theorem impl_eqT_loop (a b : TL) (h : a.length = b.length) (hl : a.length ≤ 1000000000) : ∀ d i : Nat, i + d = a.length → EvP (fun k => impl_equalTones.l0 k b a (a.length : Int) (i : Int)) (· = decide (a.drop i = b.drop i)) := by
  intro d
  induction d with
  | zero =>
    intro i hi
    refine EvP.succ ?_
    simp only [impl_equalTones.l0]
    refine EvP.no (by omega) (EvP.ret ?_)
    rw [List.drop_of_length_le (by omega), List.drop_of_length_le (by omega)]
    rfl
  | succ d ih =>
    intro i hi
    have ha : i < a.length := by omega
    have hb : i < b.length := by omega
    refine EvP.succ ?_
    simp only [impl_equalTones.l0]
    refine EvP.yes (by omega) (EvP.yes (by omega) (EvP.yes (by omega) (EvP.yes (by omega) (?_))))
    rw [rdT_lt ha, rdT_lt hb, eq_step ha hb]
    refine EvP.ite (fun g => EvP.ret ?_) (fun g => ?_)
    · rw [decide_eq_false (neq_t.mp g)]
      rfl
    · have e : a[i] = b[i] := Classical.byContradiction (fun hn => g (neq_t.mpr hn))
      rw [decide_eq_true e, Bool.true_and, w64 (by omega) (by omega), show (i : Int) + 1 = ((i + 1 : Nat) : Int) by omega]
      exact ih (i + 1) (by omega)
theorem impl_eqT (a b : TL) (hl : a.length ≤ 1000000000) : EvP (fun k => impl_equalTones.f k a b) (· = decide (a = b)) := by
  simp only [impl_equalTones.f]
  refine EvP.ite (fun h => ?_) (fun h => EvP.ret (len_ne h).symm)
  exact impl_eqT_loop a b (by omega) hl a.length 0 (by omega)
theorem spec_eqT_loop (a b : TL) (h : a.length = b.length) (hl : a.length ≤ 1000000000) : ∀ d i : Nat, i + d = a.length → EvP (fun k => spec_l4Equal.l0 k a b (i : Int)) (· = decide (a.drop i = b.drop i)) := by
  intro d
  induction d with
  | zero =>
    intro i hi
    refine EvP.succ ?_
    simp only [spec_l4Equal.l0]
    refine EvP.no (by omega) (EvP.ret ?_)
    rw [List.drop_of_length_le (by omega), List.drop_of_length_le (by omega)]
    rfl
  | succ d ih =>
    intro i hi
    have ha : i < a.length := by omega
    have hb : i < b.length := by omega
    refine EvP.succ ?_
    simp only [spec_l4Equal.l0]
    refine EvP.yes (by omega) (EvP.yes (by omega) (EvP.yes (by omega) (?_)))
    rw [rdT_lt ha, rdT_lt hb, eq_step ha hb]
    refine EvP.ite (fun g => EvP.ret ?_) (fun g => ?_)
    · rw [decide_eq_false (neq_t.mp g)]
      rfl
    · have e : a[i] = b[i] := Classical.byContradiction (fun hn => g (neq_t.mpr hn))
      rw [decide_eq_true e, Bool.true_and, w64 (by omega) (by omega), show (i : Int) + 1 = ((i + 1 : Nat) : Int) by omega]
      exact ih (i + 1) (by omega)
theorem spec_eqT (a b : TL) (hl : a.length ≤ 1000000000) : EvP (fun k => spec_l4Equal.f k a b) (· = decide (a = b)) := by
  simp only [spec_l4Equal.f]
  refine EvP.ite (fun h => ?_) (fun h => EvP.ret (len_ne h).symm)
  exact spec_eqT_loop a b (by omega) hl a.length 0 (by omega)
end Go.Proofs.YtdgmkfbmeaalpaaDoor.Pur
end
section
namespace Go.Proofs.YtdgmkfbmeaalpaaDoor.Pur
open Go.RowKit Go.Proofs.YtdgmkfbmeaalpaaDoorW.PrintWords Go.Proofs.YtdgmkfbmeaalpaaDoorW.PrintMore Go.Proofs.YtdgmkfbmeaalpaaDoor.E
def singAt (l : PL) (s : ByteArray) (i : Nat) : TL × Bool := singR (rd_T27 l (i : Int)).f0 (rd_T27 l (i : Int)).f1.f0 (rd_T27 l (i : Int)).f1.f1 (rd_T27 l (i : Int)).f2 (rd_T27 l (i : Int)).f3 (fitP (rd_T27 l (i : Int)).f0 (rd_T27 l (i : Int)).f1.f0 (rd_T27 l (i : Int)).f1.f1 (rd_T27 l (i : Int)).f2 (rd_T27 l (i : Int)).f3 s)
theorem singR_len {ps pm pe : TL} {x : Int} {b : Bool} {s : ByteArray} : (singR ps x b pm pe (fitP ps x b pm pe s)).1.length ≤ 20 := by
  rcases hf : fitP ps x b pm pe s with _ | ⟨u, v⟩
  · exact Nat.zero_le _
  · obtain ⟨h, hv, h1, h2⟩ := fit_some hf
    have hl := (verse_some hv).1
    simp only [singR]
    rw [sing_len h1 h2]
    exact hl
theorem singAt_len (l : PL) (s : ByteArray) (i : Nat) : (singAt l s i).1.length ≤ 20 := singR_len
def hitN (l : PL) (s : ByteArray) (m : TL) (i : Nat) : Nat := if (singAt l s i).2 = true ∧ (singAt l s i).1 = m then 1 else 0
theorem hitN_le (l : PL) (s : ByteArray) (m : TL) (i : Nat) : hitN l s m i ≤ 1 := by unfold hitN; split <;> omega
def readR (l : PL) (s : ByteArray) (m : TL) : Int := if (verse s).isSome = true ∧ okM m = true ∧ l.all okP = true then (sumN (hitN l s m) l.length : Int) else -1
theorem impl_read_loop (l : PL) (s : ByteArray) (m : TL) (hl : l.length ≤ 1048576) (hs : s.size ≤ 100000000) : ∀ d i : Nat, i + d = l.length → EvP (fun k => impl_PsalmRead.l0 k s m (sumN (hitN l s m) i : Int) l (l.length : Int) (i : Int)) (· = (sumN (hitN l s m) l.length : Int)) := by
  intro d
  induction d with
  | zero =>
    intro i hi
    obtain rfl : i = l.length := by omega
    refine EvP.succ ?_
    simp only [impl_PsalmRead.l0]
    exact EvP.no (by omega) (EvP.ret rfl)
  | succ d ih =>
    intro i hi
    have hle := sumN_le (f := hitN l s m) i (fun j _ => hitN_le l s m j)
    have h := ih (i + 1) (by omega)
    rw [sumN] at h
    refine EvP.succ ?_
    simp only [impl_PsalmRead.l0]
    refine EvP.yes (by omega) (EvP.yes (by omega) (EvP.yes (by omega) ?_))
    refine EvP.bind (P := (· = singAt l s i)) (impl_sing _ _ _ _ _ s hs) (fun _ e => ?_)
    subst e
    have e1 : Hd (wrap64 ((i : Int) + 1) = ((i + 1 : Nat) : Int)) := ⟨w64 (by omega) (by omega)⟩
    have e2 : Hd (wrap64 ((sumN (hitN l s m) i : Int) + 1) = ((sumN (hitN l s m) i + 1 : Nat) : Int)) := ⟨w64 (by omega) (by omega)⟩
    rw [e1.out, e2.out]
    refine EvP.ite (fun g => ?_) (fun g => ?_)
    · refine EvP.bind (impl_eqT _ m (by have := singAt_len l s i; omega)) (fun _ e => ?_)
      subst e
      refine EvP.ite (fun g2 => ?_) (fun g2 => ?_)
      · rw [show hitN l s m i = 1 from if_pos ⟨g, of_decide_eq_true g2⟩] at h
        exact h
      · rw [show hitN l s m i = 0 from if_neg (fun e => g2 (decide_eq_true e.2))] at h
        exact h
    · rw [show hitN l s m i = 0 from if_neg (fun e => g e.1)] at h
      exact h
theorem impl_read (l : PL) (s : ByteArray) (m : TL) (hl : l.length ≤ 1048576) (hs : s.size ≤ 100000000) : EvP (fun k => impl_PsalmRead.f k l s m) (· = readR l s m) := by
  simp only [impl_PsalmRead.f, readR]
  refine EvP.bind (EvP.con (impl_valid_v s hs) (P := (· = (verse s).isSome)) rfl) (fun _ e => ?_)
  subst e
  refine EvP.ite (fun h => ?_) (fun h => ?_)
  · refine EvP.bind (impl_melody m) (fun _ e => ?_)
    subst e
    refine EvP.ite (fun h2 => ?_) (fun h2 => ?_)
    · refine EvP.bind (impl_all l hl) (fun _ e => ?_)
      subst e
      refine EvP.succ ?_
      simp only [impl_PsalmRead.j0]
      by_cases g : l.all okP = true
      · rw [if_pos ⟨h, h2, g⟩]
        refine EvP.no (by rw [g]; decide) ?_
        exact impl_read_loop l s m hl hs l.length 0 (by omega)
      · rw [if_neg (fun e => g e.2.2)]
        exact EvP.yes (by rw [Bool.eq_false_iff.mpr g]; rfl) (EvP.ret rfl)
    · refine EvP.succ ?_
      simp only [impl_PsalmRead.j0]
      rw [if_neg (fun e => h2 e.2.1)]
      exact EvP.yes (by trivial) (EvP.ret rfl)
  · refine EvP.succ ?_
    simp only [impl_PsalmRead.j0]
    rw [if_neg (fun e => h e.1)]
    exact EvP.yes (by trivial) (EvP.ret rfl)
theorem spec_read_loop (l : PL) (s : ByteArray) (m : TL) (hl : l.length ≤ 1048576) (hs : s.size ≤ 100000000) (hy : ∀ y ∈ l, shortP y) : ∀ d i : Nat, i + d = l.length → EvP (fun k => spec_PsalmRead.l0 k l s m (sumN (hitN l s m) i : Int) (i : Int)) (· = (sumN (hitN l s m) l.length : Int)) := by
  intro d
  induction d with
  | zero =>
    intro i hi
    obtain rfl : i = l.length := by omega
    refine EvP.succ ?_
    simp only [spec_PsalmRead.l0]
    exact EvP.no (by omega) (EvP.ret rfl)
  | succ d ih =>
    intro i hi
    have hle := sumN_le (f := hitN l s m) i (fun j _ => hitN_le l s m j)
    have h := ih (i + 1) (by omega)
    rw [sumN] at h
    have hsh := hy _ (List.getElem_mem (show i < l.length by omega))
    rw [← rdP_lt (show i < l.length by omega)] at hsh
    obtain ⟨y1, y2, y3⟩ := hsh
    refine EvP.succ ?_
    simp only [spec_PsalmRead.l0]
    refine EvP.yes (by omega) (EvP.yes (by omega) ?_)
    refine EvP.bind (P := (· = singAt l s i)) (spec_sing _ _ _ _ _ s hs (by omega) (by omega) (by omega)) (fun _ e => ?_)
    subst e
    have e1 : Hd (wrap64 ((i : Int) + 1) = ((i + 1 : Nat) : Int)) := ⟨w64 (by omega) (by omega)⟩
    have e2 : Hd (wrap64 ((sumN (hitN l s m) i : Int) + 1) = ((sumN (hitN l s m) i + 1 : Nat) : Int)) := ⟨w64 (by omega) (by omega)⟩
    rw [e1.out, e2.out]
    refine EvP.ite (fun g => ?_) (fun g => ?_)
    · refine EvP.bind (spec_eqT _ m (by have := singAt_len l s i; omega)) (fun _ e => ?_)
      subst e
      refine EvP.ite (fun g2 => ?_) (fun g2 => ?_)
      · rw [show hitN l s m i = 1 from if_pos ⟨g, of_decide_eq_true g2⟩] at h
        exact h
      · rw [show hitN l s m i = 0 from if_neg (fun e => g2 (decide_eq_true e.2))] at h
        exact h
    · rw [show hitN l s m i = 0 from if_neg (fun e => g e.1)] at h
      exact h
theorem spec_read (l : PL) (s : ByteArray) (m : TL) (hl : l.length ≤ 1048576) (hs : s.size ≤ 100000000) (hy : ∀ y ∈ l, shortP y) (hm : m.length < 9223372036854775807) : EvP (fun k => spec_PsalmRead.f k l s m) (· = readR l s m) := by
  simp only [spec_PsalmRead.f, readR]
  refine EvP.bind (spec_all l hl hy) (fun _ e => ?_)
  subst e
  refine EvP.ite (fun h => ?_) (fun h => ?_)
  · refine EvP.bind (spec_valid_v s hs) (fun _ e => ?_)
    subst e
    refine EvP.ite (fun h2 => ?_) (fun h2 => ?_)
    · refine EvP.bind (spec_melody m hm) (fun _ e => ?_)
      subst e
      refine EvP.succ ?_
      simp only [spec_PsalmRead.j0]
      by_cases g : okM m = true
      · rw [if_pos ⟨h2, g, h⟩]
        refine EvP.no (by rw [g]; decide) ?_
        exact spec_read_loop l s m hl hs hy l.length 0 (by omega)
      · rw [if_neg (fun e => g e.2.1)]
        exact EvP.yes (by rw [Bool.eq_false_iff.mpr g]; rfl) (EvP.ret rfl)
    · refine EvP.succ ?_
      simp only [spec_PsalmRead.j0]
      rw [if_neg (fun e => h2 e.1)]
      exact EvP.yes (by trivial) (EvP.ret rfl)
  · refine EvP.succ ?_
    simp only [spec_PsalmRead.j0]
    rw [if_neg (fun e => h e.2.2)]
    exact EvP.yes (by trivial) (EvP.ret rfl)
end Go.Proofs.YtdgmkfbmeaalpaaDoor.Pur
end
section
namespace Go.Proofs.YtdgmkfbmeaalpaaDoor.Pur
open Go.RowKit Go.Proofs.YtdgmkfbmeaalpaaDoorW.PrintWords Go.Proofs.YtdgmkfbmeaalpaaDoorW.PrintMore Go.Proofs.YtdgmkfbmeaalpaaDoor.E
theorem step_in {v : Int} : 1 ≤ mx 1 (mn 15 v) ∧ mx 1 (mn 15 v) ≤ 15 := by unfold mx mn; omega
theorem melody_loop {B : List Int} (hB : okB B) (n : Int) (hn : 0 ≤ n ∧ n ≤ 200) : ∀ (d : Nat) (i : Int) (acc : List S25) (s p : Int), 0 ≤ i → i + d = n → (acc.length : Int) = i → 1 ≤ s → s ≤ 15 → 0 ≤ p → p ≤ 1000000 - 10 * d →
    EvP (fun k => spec_l91Melody.l0 k acc n s i B p) (fun r => (r.1.length : Int) = n ∧ 0 ≤ r.2 ∧ r.2 ≤ p + 2 * d + 2) := by
  intro d
  induction d with
  | zero =>
    intro i acc s p hi hd ha hs0 hs1 hp0 hp1
    refine EvP.succ ?_
    simp only [spec_l91Melody.l0]
    refine EvP.no (by omega) ?_
    refine EvP.ite (fun hpos => ?_) (fun _ => EvP.ret ⟨by dsimp only; omega, hp0, by dsimp only; omega⟩)
    refine EvP.bind (pick_ok hB p 50 (by omega) (by omega)) (fun r hr => ?_)
    refine EvP.ite (fun _ => ?_) (fun _ => EvP.ite (fun _ => ?_) (fun _ => EvP.ret ⟨by dsimp only; omega, by dsimp only; omega, by dsimp only; omega⟩))
    · refine EvP.bind (P := (· = [(-1), 21, 20])) (EvP.con rfl rfl) (fun _ e => ?_)
      subst e
      refine EvP.bind (pick_ok hB r.2 3 (by omega) (by omega)) (fun q hq => ?_)
      have h3 : (([(-1), 21, 20] : List Int).length : Int) = 3 := rfl
      exact EvP.yes hq.1 (EvP.yes (by omega) (EvP.yes (by omega) (EvP.ret ⟨by simp; omega, by dsimp only; omega, by dsimp only; omega⟩)))
    · rw [w64 (by omega) (by omega)]
      exact EvP.yes (by omega) (EvP.yes (by omega) (EvP.ret ⟨by simp; omega, by dsimp only; omega, by dsimp only; omega⟩))
  | succ d ih =>
    intro i acc s p hi hd ha hs0 hs1 hp0 hp1
    refine EvP.succ ?_
    simp only [spec_l91Melody.l0]
    refine EvP.yes (by omega) ?_
    refine EvP.bind (P := (· = Int.tmod s 7)) (EvP.con rfl rfl) (fun _ e => ?_)
    subst e
    have ei : Hd (wrap64 (i + 1) = i + 1) := ⟨w64 (by omega) (by omega)⟩
    refine EvP.ite (fun _ => ?_) (fun _ => ?_)
    · refine EvP.bind (pick_ok hB p 3 (by omega) (by omega)) (fun r hr => ?_)
      refine EvP.yes (by omega) ?_
      refine EvP.bind (pick_ok hB r.2 5 (by omega) (by omega)) (fun q hq => ?_)
      rw [ei.out]
      have sn := step_in (v := wrap64 ((wrap64 (s + q.1)) - 2))
      refine (ih (i + 1) _ _ q.2 (by omega) (by omega) (by simp; omega) sn.1 sn.2 (by omega) (by omega)).mono (fun r' h => ⟨h.1, h.2.1, by omega⟩)
    · refine EvP.yes (by omega) ?_
      refine EvP.bind (pick_ok hB p 5 (by omega) (by omega)) (fun q hq => ?_)
      rw [ei.out]
      have sn := step_in (v := wrap64 ((wrap64 (s + q.1)) - 2))
      refine (ih (i + 1) _ _ q.2 (by omega) (by omega) (by simp; omega) sn.1 sn.2 (by omega) (by omega)).mono (fun r' h => ⟨h.1, h.2.1, by omega⟩)
theorem melody_ok {B : List Int} (hB : okB B) (p most : Int) (hp : 0 ≤ p ∧ p ≤ 100000) (hm : 0 ≤ most ∧ most ≤ 100) :
    EvP (fun k => spec_l91Melody.f k B p most) (fun r => (r.1.length : Int) ≤ most ∧ 0 ≤ r.2 ∧ r.2 ≤ p + 2 * most + 4) := by
  unfold spec_l91Melody.f
  rw [w64 (by omega) (by omega)]
  refine EvP.bind (pick_ok hB p (most + 1) (by omega) (by omega)) (fun r hr => ?_)
  refine EvP.bind (pick_ok hB r.2 5 (by omega) (by omega)) (fun q hq => ?_)
  rw [w64 (by omega) (by omega)]
  obtain ⟨d, hd⟩ := Int.eq_ofNat_of_zero_le hr.1
  refine (melody_loop hB r.1 (by omega) d 0 [] _ q.2 (by omega) (by omega) rfl (by omega) (by omega) (by omega) (by omega)).mono (fun r' h => ⟨by omega, h.2.1, by omega⟩)
end Go.Proofs.YtdgmkfbmeaalpaaDoor.Pur
end
section
namespace Go.Proofs.YtdgmkfbmeaalpaaDoor.Pur
open Go.RowKit Go.Proofs.YtdgmkfbmeaalpaaDoorW.PrintWords Go.Proofs.YtdgmkfbmeaalpaaDoorW.PrintMore Go.Proofs.YtdgmkfbmeaalpaaDoor.E
theorem draw_read (l : List Int) (h : ∀ x ∈ l, (Lit.int .u8 x).wf = true) : EvP (fun k => spec_DrawPsalmRead.f k l) (fun r => r.1.length ≤ 3 ∧ (∀ y ∈ r.1, y.f0.length ≤ 10 ∧ y.f2.length ≤ 10 ∧ y.f3.length ≤ 10) ∧ r.2.1.size ≤ 100 ∧ r.2.2.length ≤ 100) := by
  simp only [spec_DrawPsalmRead.f]
  refine EvP.bind (open_code l h) (fun r0 ⟨hB, e0⟩ => ?_)
  refine EvP.bind (draw_psalms hB r0.2 (by omega)) (fun r1 ⟨a1, a2, a3, a4⟩ => ?_)
  refine EvP.bind (draw_verse hB r1.2 (by omega)) (fun r2 ⟨b1, b2, b3⟩ => ?_)
  have hmel : ∀ p : Int, 0 ≤ p → p ≤ 20000 → EvP (fun k => (spec_l91Melody.f k r0.1 p 8).bind fun bt => some (r1.1, r2.1, bt.1)) (fun r => r.1.length ≤ 3 ∧ (∀ y ∈ r.1, y.f0.length ≤ 10 ∧ y.f2.length ≤ 10 ∧ y.f3.length ≤ 10) ∧ r.2.1.size ≤ 100 ∧ r.2.2.length ≤ 100) := by
    intro p hp hp'
    refine EvP.bind (melody_ok hB p 8 (by omega) (by omega)) (fun q ⟨c1, _, _⟩ => EvP.ret ?_)
    exact ⟨a1, a2, b1, by simp only []; omega⟩
  have hj : ∀ (z : Bool) (p : Int), (z = true → 1 ≤ r1.1.length) → 0 ≤ p → p ≤ 10000 → EvP (fun k => spec_DrawPsalmRead.j0 k r1.1 r2.1 z r0.1 p) (fun r => r.1.length ≤ 3 ∧ (∀ y ∈ r.1, y.f0.length ≤ 10 ∧ y.f2.length ≤ 10 ∧ y.f3.length ≤ 10) ∧ r.2.1.size ≤ 100 ∧ r.2.2.length ≤ 100) := by
    intro z p hz hp hp'
    refine EvP.succ ?_
    simp only [spec_DrawPsalmRead.j0]
    refine EvP.ite (fun g => ?_) (fun g => hmel p hp (by omega))
    have hl := hz g
    refine EvP.bind (pick_ok hB p (r1.1.length : Int) (by omega) (by omega)) (fun q ⟨c1, c2, c3⟩ => ?_)
    refine EvP.yes c1 (EvP.yes c2 ?_)
    obtain ⟨i, ei⟩ := Int.eq_ofNat_of_zero_le c1
    rw [ei]
    have hm := a2 _ (List.getElem_mem (show i < r1.1.length by omega))
    rw [← rdP_lt (show i < r1.1.length by omega)] at hm
    obtain ⟨y1, y2, y3⟩ := hm
    refine EvP.bind (P := (· = singAt r1.1 r2.1 i)) (spec_sing _ _ _ _ _ _ (by omega) (by omega) (by omega) (by omega)) (fun _ e => ?_)
    subst e
    refine EvP.ite (fun _ => EvP.ret ?_) (fun _ => hmel _ (by omega) (by omega))
    have := singAt_len r1.1 r2.1 i
    exact ⟨a1, a2, b1, by simp only []; omega⟩
  refine EvP.ite (fun g => ?_) (fun _ => hj false r2.2 (by simp) b2 (by omega))
  refine EvP.bind (pick_ok hB r2.2 4 (by omega) (by omega)) (fun q ⟨c1, c2, c3⟩ => ?_)
  exact hj _ _ (fun _ => by omega) (by omega) (by omega)
theorem sung_ok {ps pm pe : TL} {x : Int} {b : Bool} {s u v : ByteArray} (hf : fitP ps x b pm pe s = some (u, v)) : okM (singOf ps x b pm pe u.size v.size) = true := by
  obtain ⟨h, hv, h1, h2⟩ := fit_some hf
  have hl := (verse_some hv).1
  obtain ⟨_, _, _, _, _, m1, m2, m3, m4⟩ := okPs_lens h
  have hlen := sing_len (x := x) (b := b) h1 h2
  simp only [okM, Bool.and_eq_true, decide_eq_true_eq] at m1 m3 m4 ⊢
  refine ⟨?_, by omega⟩
  have hr : ∀ n : Nat, (List.replicate n (⟨x, b⟩ : S25)).all okT = true := by
    intro n
    rw [List.all_eq_true]
    intro y hy
    rw [(List.mem_replicate.mp hy).2]
    exact m2
  unfold singOf
  simp only [List.all_append, m1.1, m3.1, m4.1, hr, Bool.and_self]
theorem singAt_size {l : PL} {s : ByteArray} {u v : ByteArray} (hv : verse s = some (u, v)) {i : Nat} (h : (singAt l s i).2 = true) : (singAt l s i).1.length = u.size + v.size := by
  unfold singAt at h ⊢
  rcases hf : fitP (rd_T27 l (i : Int)).f0 (rd_T27 l (i : Int)).f1.f0 (rd_T27 l (i : Int)).f1.f1 (rd_T27 l (i : Int)).f2 (rd_T27 l (i : Int)).f3 s with _ | ⟨u2, v2⟩
  · rw [hf] at h
    cases h
  · obtain ⟨_, hv2, h1, h2⟩ := fit_some hf
    rw [hv] at hv2
    simp only [Option.some.injEq, Prod.mk.injEq] at hv2
    obtain ⟨rfl, rfl⟩ := hv2
    simp only [singR]
    exact sing_len h1 h2
theorem sumN_pos {f : Nat → Nat} : ∀ n : Nat, 0 < sumN f n → ∃ i, i < n ∧ 0 < f i
  | 0, h => absurd h (by simp [sumN])
  | n + 1, h => by
    rw [sumN] at h
    by_cases g : 0 < f n
    · exact ⟨n, by omega, g⟩
    · obtain ⟨i, hi, h2⟩ := sumN_pos (f := f) n (by omega)
      exact ⟨i, by omega, h2⟩
theorem sumN_ge {f : Nat → Nat} : ∀ (n i : Nat), i < n → f i ≤ sumN f n
  | 0, i, h => absurd h (by omega)
  | n + 1, i, h => by
    rw [sumN]
    by_cases e : i = n
    · subst e; omega
    · have := sumN_ge (f := f) n i (by omega)
      omega
theorem law_read_end (more : List Int) (l : PL) (s : ByteArray) (m : TL) (hl : l.length ≤ 3) (hs : s.size ≤ 100) (hr : ¬ readR l s m < 0) : EvP (fun k => laws_FnPsalmRead.j2 k more l s (readR l s m) false) (· = true) := by
  unfold readR at hr ⊢
  split at hr
  · rename_i g
    rw [if_pos g]
    obtain ⟨g1, g2, g3⟩ := g
    refine EvP.succ ?_
    simp only [laws_FnPsalmRead.j2]
    refine EvP.no (by simp) ?_
    refine EvP.ite (fun g0 => EvP.ret ?_) (fun g0 => ?_)
    · rw [show l.length = 0 by omega]
      rfl
    · have hpos : (0 : Int) < (l.length : Int) := by omega
      have q1 := Int.emod_nonneg (more.length : Int) (show (l.length : Int) ≠ 0 by omega)
      have q2 := Int.emod_lt_of_pos (more.length : Int) hpos
      refine EvP.yes q1 (EvP.yes q2 ?_)
      obtain ⟨i, ei⟩ := Int.eq_ofNat_of_zero_le q1
      rw [ei] at q2 ⊢
      have hle := sumN_le (f := hitN l s m) l.length (fun j _ => hitN_le l s m j)
      refine EvP.bind (P := (· = singAt l s i)) (impl_sing _ _ _ _ _ _ (by omega)) (fun _ e => ?_)
      subst e
      refine EvP.yes (by omega) (EvP.ite (fun h2 => ?_) (fun _ => EvP.ret rfl))
      refine EvP.bind (impl_read l s _ (by omega) (by omega)) (fun _ e => EvP.ret ?_)
      subst e
      have hok : okM (singAt l s i).1 = true := by
        unfold singAt at h2 ⊢
        rcases hf : fitP (rd_T27 l (i : Int)).f0 (rd_T27 l (i : Int)).f1.f0 (rd_T27 l (i : Int)).f1.f1 (rd_T27 l (i : Int)).f2 (rd_T27 l (i : Int)).f3 s with _ | ⟨u2, v2⟩
        · rw [hf] at h2
          cases h2
        · simp only [singR]
          exact sung_ok hf
      unfold readR
      rw [if_pos ⟨g1, hok, g3⟩]
      refine decide_eq_true ?_
      have h1 : hitN l s (singAt l s i).1 i = 1 := if_pos ⟨h2, rfl⟩
      have := sumN_ge (f := hitN l s (singAt l s i).1) l.length i (by omega)
      omega
  · exact absurd hr (by omega)
theorem law_read (l0 l1 : List Int) (_ : (l0.length : Int) ≤ 9223372036854775807) (hw : ∀ x ∈ l0, (Lit.int .u8 x).wf = true) (_ : (l1.length : Int) ≤ 9223372036854775807) (_ : ∀ x ∈ l1, (Lit.int .u8 x).wf = true) : ∃ k, laws_FnPsalmRead.f k l0 l1 = some true := by
  have skip : EvP (fun k => laws_FnPsalmRead.j0 k l0 l1 true) (· = true) := by
    refine EvP.succ ?_
    simp only [laws_FnPsalmRead.j0]
    exact EvP.yes (by trivial) (EvP.ret rfl)
  refine EvP.rounds ?_
  simp only [laws_FnPsalmRead.f]
  refine EvP.ite (fun _ => skip) (fun _ => ?_)
  by_cases hm : (l1.length : Int) > 1048576
  · rw [decide_eq_true hm]
    exact skip
  · rw [decide_eq_false hm]
    refine EvP.succ ?_
    simp only [laws_FnPsalmRead.j0]
    refine EvP.no (by simp) ?_
    refine EvP.bind (draw_read l0 hw) (fun r ⟨a1, a2, a3, a4⟩ => ?_)
    refine EvP.bind (impl_read _ _ _ (by omega) (by omega)) (fun _ e => ?_)
    subst e
    refine EvP.bind (spec_read _ _ _ (by omega) (by omega) (fun y hy => by obtain ⟨h1, h2, h3⟩ := a2 y hy; exact ⟨by omega, by omega, by omega⟩) (by omega)) (fun _ e => ?_)
    subst e
    refine EvP.yes rfl (EvP.succ ?_)
    simp only [laws_FnPsalmRead.j1]
    by_cases hr : readR r.1 r.2.1 r.2.2 < 0
    · rw [decide_eq_true hr]
      exact EvP.yes (by trivial) (EvP.ret (by simp))
    · rw [decide_eq_false hr]
      refine EvP.no (by simp) ?_
      have hend := law_read_end l1 r.1 r.2.1 r.2.2 a1 a3 hr
      refine EvP.ite (fun hp => EvP.ite (fun h24 => ?_) (fun _ => hend)) (fun _ => hend)
      have hp' := hp
      unfold readR at hp'
      split at hp'
      · rename_i g
        obtain ⟨g1, g2, g3⟩ := g
        obtain ⟨⟨u, v⟩, hv⟩ := Option.isSome_iff_exists.mp g1
        obtain ⟨i, hi, hpi⟩ := sumN_pos _ (show 0 < sumN (hitN r.1 r.2.1 r.2.2) r.1.length by omega)
        have hhit : (singAt r.1 r.2.1 i).2 = true ∧ (singAt r.1 r.2.1 i).1 = r.2.2 := by
          unfold hitN at hpi
          split at hpi
          · assumption
          · omega
        have hn := singAt_size hv hhit.1
        rw [hhit.2] at hn
        obtain ⟨_, hu1, _⟩ := verse_some hv
        refine EvP.bind (EvP.con rfl (P := (· = ([] : TL))) rfl) (fun _ e => ?_)
        subst e
        refine EvP.yes (by rw [List.length_nil]; omega) ?_
        refine EvP.bind (EvP.con rfl (P := (· = r.2.2)) rfl) (fun _ e => ?_)
        subst e
        refine EvP.yes (by omega) ?_
        refine EvP.bind (EvP.con rfl (P := (· = [rd_T25 r.2.2 0])) rfl) (fun _ e => ?_)
        subst e
        refine EvP.yes (by rw [List.length_singleton]; omega) ?_
        refine EvP.bind (impl_read r.1 r.2.1 (r.2.2 ++ [rd_T25 r.2.2 0]) (by omega) (by omega)) (fun _ e => ?_)
        subst e
        have hok : okM (r.2.2 ++ [rd_T25 r.2.2 0]) = true := by
          have h0 : 0 < r.2.2.length := by omega
          simp only [okM, Bool.and_eq_true, decide_eq_true_eq] at g2 ⊢
          refine ⟨?_, by rw [List.length_append, List.length_singleton]; omega⟩
          rw [List.all_append, g2.1, Bool.true_and, show (0 : Int) = ((0 : Nat) : Int) from rfl, rdT_lt h0]
          simp only [List.all_cons, List.all_nil, Bool.and_true]
          exact List.all_eq_true.mp g2.1 _ (List.getElem_mem h0)
        have hz : readR r.1 r.2.1 (r.2.2 ++ [rd_T25 r.2.2 0]) = 0 := by
          unfold readR
          rw [if_pos ⟨g1, hok, g3⟩, sumN_zero]
          · rfl
          · intro j hj
            unfold hitN
            refine if_neg (fun e => ?_)
            have h1 := singAt_size hv e.1
            rw [e.2, List.length_append, List.length_singleton] at h1
            omega
        rw [hz]
        exact hend
      · omega
end Go.Proofs.YtdgmkfbmeaalpaaDoor.Pur
end
section
namespace Go.Proofs.YtdgmkfbmeaalpaaDoor.Head
set_option maxRecDepth 100000
theorem and_t {a b : Bool} (h : a = true) (k : b = true) : (a && b) = true := by rw [h, k]; rfl
theorem mayEnter_of {P : Program} {l : List String} {W rest : List (List Char)} (h : behindMainWord (wordsSigns P.initOrder.toList) = W) (hc : ∃ c r, W = c :: r ∧ (c == "gc".toList || c == "spec".toList) = false ∧ (c == "carried".toList) = false) (hs : stripLifts liftWords W = (l, "cut".toList :: rest))
    (hl : (l.contains "finals" || !P.laysLater) = true) (hb : (l.contains "reflectrows" || !P.bearsReflect) = true) (hr : (l.contains "reflectrows" || !l.contains "leanrows") = true) (hd : P.doorFits l = true) : P.mayEnter = true := by
  obtain ⟨c, r, rfl, h1, h2⟩ := hc
  unfold Program.mayEnter
  rw [h]
  dsimp only
  rw [hs, hl, hb, hr, hd, h1, h2]
  simp
theorem headLifts_of {P : Program} {l : List String} {W rest : List (List Char)} (h : behindMainWord (wordsSigns P.initOrder.toList) = W) (hs : stripLifts liftWords W = (l, "cut".toList :: rest)) : P.headLifts = l := by
  unfold Program.headLifts
  rw [h]
  dsimp only
  rw [hs]
  simp
theorem liftsFinal_of {P : Program} {l : List String} {W rest : List (List Char)} (h : behindMainWord (wordsSigns P.initOrder.toList) = W) (hc : ∃ c r, W = c :: r ∧ (c == "gc".toList || c == "spec".toList) = false ∧ (c == "carried".toList) = false) (hs : stripLifts liftWords W = (l, "cut".toList :: rest)) : P.liftsFinal = l.contains "finals" := by
  unfold Program.liftsFinal
  rw [headLifts_of h hs, h]
  obtain ⟨c, r, rfl, h1, h2⟩ := hc
  have h3 : ((c :: r).head? == some "carried".toList) = false := by
    rw [beq_eq_false_iff_ne] at h2 ⊢
    exact fun e => h2 (Option.some.inj e)
  dsimp only
  rw [h3, Bool.false_and, Bool.false_or]
theorem make_of {P : Program} {rest : List (List Char)} (h : behindMainWord (wordsSigns P.initOrder.toList) = "cut".toList :: rest) : P.make = some .cut := by
  unfold Program.make
  rw [h]
  dsimp only
  rw [if_neg (by decide), if_pos (by simp)]
theorem mainIs_of {P : Program} {s : List Char} {rest : List (List Char)} (h : wordsSigns P.initOrder.toList = "harness".toList :: s :: rest) (hs : isSumSigns s = true) : P.mainIs = some (true, s) := by
  unfold Program.mainIs
  rw [h]
  dsimp only
  rw [hs]
  simp
def io : List Nat := [104, 97, 114, 110, 101, 115, 115, 32, 57, 53, 99, 56, 51, 49, 56, 101, 49, 51, 57, 50, 101, 98, 50, 97, 53, 100, 98, 55, 98, 56, 98, 55, 97, 57, 57, 100, 50, 56, 50, 99, 53, 54, 50, 53, 56, 101, 55, 102, 101, 54, 49, 101, 48, 100, 97, 56, 101, 52, 50, 57, 101, 54, 100, 53, 100, 51, 48, 52, 101, 52, 101, 101, 32, 99, 117, 116, 32, 97, 116, 32, 108, 111, 111, 112, 46, 101, 120, 97, 109, 112, 108, 101, 47, 110, 101, 117, 109, 101, 115, 47, 108, 97, 119, 115, 46, 70, 110, 80, 115, 97, 108, 109, 70, 105, 116, 115, 32, 108, 111, 111, 112, 46, 101, 120, 97, 109, 112, 108, 101, 47, 110, 101, 117, 109, 101, 115, 47, 108, 97, 119, 115, 46, 70, 110, 69, 120, 97, 99, 116, 80, 115, 97, 108, 109, 84, 101, 110, 111, 114, 115, 32, 108, 111, 111, 112, 46, 101, 120, 97, 109, 112, 108, 101, 47, 110, 101, 117, 109, 101, 115, 47, 108, 97, 119, 115, 46, 70, 110, 80, 115, 97, 108, 109, 65, 99, 99, 101, 110, 116, 115, 32, 108, 111, 111, 112, 46, 101, 120, 97, 109, 112, 108, 101, 47, 110, 101, 117, 109, 101, 115, 47, 108, 97, 119, 115, 46, 70, 110, 69, 120, 97, 99, 116, 80, 115, 97, 108, 109, 65, 99, 99, 101, 110, 116, 115, 32, 108, 111, 111, 112, 46, 101, 120, 97, 109, 112, 108, 101, 47, 110, 101, 117, 109, 101, 115, 47, 108, 97, 119, 115, 46, 70, 110, 80, 115, 97, 108, 109, 77, 111, 114, 101, 32, 108, 111, 111, 112, 46, 101, 120, 97, 109, 112, 108, 101, 47, 110, 101, 117, 109, 101, 115, 47, 108, 97, 119, 115, 46, 70, 110, 80, 115, 97, 108, 109, 32, 108, 111, 111, 112, 46, 101, 120, 97, 109, 112, 108, 101, 47, 110, 101, 117, 109, 101, 115, 47, 108, 97, 119, 115, 46, 70, 110, 69, 120, 97, 99, 116, 80, 115, 97, 108, 109, 83, 105, 110, 103, 32, 108, 111, 111, 112, 46, 101, 120, 97, 109, 112, 108, 101, 47, 110, 101, 117, 109, 101, 115, 47, 108, 97, 119, 115, 46, 70, 110, 80, 115, 97, 108, 109, 66, 101, 115, 116, 32, 108, 111, 111, 112, 46, 101, 120, 97, 109, 112, 108, 101, 47, 110, 101, 117, 109, 101, 115, 47, 108, 97, 119, 115, 46, 70, 110, 80, 115, 97, 108, 109, 82, 101, 97, 100, 32, 108, 111, 111, 112, 46, 101, 120, 97, 109, 112, 108, 101, 47, 110, 101, 117, 109, 101, 115, 47, 108, 97, 119, 115, 46, 70, 110, 69, 120, 97, 99, 116, 80, 115, 97, 108, 109, 82, 101, 97, 100, 32, 108, 111, 111, 112, 46, 101, 120, 97, 109, 112, 108, 101, 47, 110, 101, 117, 109, 101, 115, 47, 108, 97, 119, 115, 46, 70, 110, 69, 120, 97, 99, 116, 80, 115, 97, 108, 109, 66, 101, 115, 116, 32, 108, 111, 111, 112, 46, 101, 120, 97, 109, 112, 108, 101, 47, 110, 101, 117, 109, 101, 115, 47, 108, 97, 119, 115, 46, 70, 110, 80, 115, 97, 108, 109, 77, 111, 118, 101]
def ws : List (List Nat) := [[104, 97, 114, 110, 101, 115, 115], [57, 53, 99, 56, 51, 49, 56, 101, 49, 51, 57, 50, 101, 98, 50, 97, 53, 100, 98, 55, 98, 56, 98, 55, 97, 57, 57, 100, 50, 56, 50, 99, 53, 54, 50, 53, 56, 101, 55, 102, 101, 54, 49, 101, 48, 100, 97, 56, 101, 52, 50, 57, 101, 54, 100, 53, 100, 51, 48, 52, 101, 52, 101, 101], [99, 117, 116], [97, 116], [108, 111, 111, 112, 46, 101, 120, 97, 109, 112, 108, 101, 47, 110, 101, 117, 109, 101, 115, 47, 108, 97, 119, 115, 46, 70, 110, 80, 115, 97, 108, 109, 70, 105, 116, 115], [108, 111, 111, 112, 46, 101, 120, 97, 109, 112, 108, 101, 47, 110, 101, 117, 109, 101, 115, 47, 108, 97, 119, 115, 46, 70, 110, 69, 120, 97, 99, 116, 80, 115, 97, 108, 109, 84, 101, 110, 111, 114, 115], [108, 111, 111, 112, 46, 101, 120, 97, 109, 112, 108, 101, 47, 110, 101, 117, 109, 101, 115, 47, 108, 97, 119, 115, 46, 70, 110, 80, 115, 97, 108, 109, 65, 99, 99, 101, 110, 116, 115], [108, 111, 111, 112, 46, 101, 120, 97, 109, 112, 108, 101, 47, 110, 101, 117, 109, 101, 115, 47, 108, 97, 119, 115, 46, 70, 110, 69, 120, 97, 99, 116, 80, 115, 97, 108, 109, 65, 99, 99, 101, 110, 116, 115], [108, 111, 111, 112, 46, 101, 120, 97, 109, 112, 108, 101, 47, 110, 101, 117, 109, 101, 115, 47, 108, 97, 119, 115, 46, 70, 110, 80, 115, 97, 108, 109, 77, 111, 114, 101], [108, 111, 111, 112, 46, 101, 120, 97, 109, 112, 108, 101, 47, 110, 101, 117, 109, 101, 115, 47, 108, 97, 119, 115, 46, 70, 110, 80, 115, 97, 108, 109], [108, 111, 111, 112, 46, 101, 120, 97, 109, 112, 108, 101, 47, 110, 101, 117, 109, 101, 115, 47, 108, 97, 119, 115, 46, 70, 110, 69, 120, 97, 99, 116, 80, 115, 97, 108, 109, 83, 105, 110, 103], [108, 111, 111, 112, 46, 101, 120, 97, 109, 112, 108, 101, 47, 110, 101, 117, 109, 101, 115, 47, 108, 97, 119, 115, 46, 70, 110, 80, 115, 97, 108, 109, 66, 101, 115, 116], [108, 111, 111, 112, 46, 101, 120, 97, 109, 112, 108, 101, 47, 110, 101, 117, 109, 101, 115, 47, 108, 97, 119, 115, 46, 70, 110, 80, 115, 97, 108, 109, 82, 101, 97, 100], [108, 111, 111, 112, 46, 101, 120, 97, 109, 112, 108, 101, 47, 110, 101, 117, 109, 101, 115, 47, 108, 97, 119, 115, 46, 70, 110, 69, 120, 97, 99, 116, 80, 115, 97, 108, 109, 82, 101, 97, 100], [108, 111, 111, 112, 46, 101, 120, 97, 109, 112, 108, 101, 47, 110, 101, 117, 109, 101, 115, 47, 108, 97, 119, 115, 46, 70, 110, 69, 120, 97, 99, 116, 80, 115, 97, 108, 109, 66, 101, 115, 116], [108, 111, 111, 112, 46, 101, 120, 97, 109, 112, 108, 101, 47, 110, 101, 117, 109, 101, 115, 47, 108, 97, 119, 115, 46, 70, 110, 80, 115, 97, 108, 109, 77, 111, 118, 101]]
def ch (w : List Nat) : List Char := w.map Char.ofNat
theorem io_is : Tryd.prog.initOrder = String.ofList (ch io) := by kernel_rfl
theorem io_ws : wordsSigns (ch io) = ws.map ch := by kernel_rfl
theorem io_all : wordsSigns Tryd.prog.initOrder.toList = ws.map ch := by rw [io_is, String.toList_ofList, io_ws]
theorem be : behindMainWord (ws.map ch) = (ws.drop 2).map ch := by kernel_rfl
theorem io_be : behindMainWord (wordsSigns Tryd.prog.initOrder.toList) = (ws.drop 2).map ch := by rw [io_all, be]
theorem first : ∃ c r, (ws.drop 2).map ch = c :: r ∧ (c == "gc".toList || c == "spec".toList) = false ∧ (c == "carried".toList) = false := ⟨ch (ws.getD 2 []), (ws.drop 3).map ch, by kernel_rfl, by kernel_rfl, by kernel_rfl⟩
theorem st : stripLifts liftWords ((ws.drop 2).map ch) = ([], "cut".toList :: ((ws.drop 3).map ch)) := by kernel_rfl
theorem ll : ([].contains "finals" || !Tryd.prog.laysLater) = true := by kernel_rfl
theorem br : ([].contains "reflectrows" || !Tryd.prog.bearsReflect) = true := by kernel_rfl
theorem rr : ([].contains "reflectrows" || ![].contains "leanrows") = true := by kernel_rfl
theorem df : Tryd.prog.doorFits [] = true := by kernel_rfl
theorem mayE : Tryd.prog.mayEnter = true := mayEnter_of io_be first st ll br rr df
theorem finE : Tryd.prog.liftsFinal = [].contains "finals" := liftsFinal_of io_be first st
theorem mainE : Tryd.prog.mainIs = some (true, ch [57, 53, 99, 56, 51, 49, 56, 101, 49, 51, 57, 50, 101, 98, 50, 97, 53, 100, 98, 55, 98, 56, 98, 55, 97, 57, 57, 100, 50, 56, 50, 99, 53, 54, 50, 53, 56, 101, 55, 102, 101, 54, 49, 101, 48, 100, 97, 56, 101, 52, 50, 57, 101, 54, 100, 53, 100, 51, 48, 52, 101, 52, 101, 101]) := mainIs_of (rest := (ws.drop 2).map ch) (io_all.trans (by kernel_rfl)) (by kernel_rfl)
theorem makeE : Tryd.prog.make = some .cut := make_of (io_be.trans (by kernel_rfl : (ws.drop 2).map ch = "cut".toList :: ((ws.drop 3).map ch)))
end Go.Proofs.YtdgmkfbmeaalpaaDoor.Head
end
section
namespace Go.Proofs.YtdgmkfbmeaalpaaDoor.Pur
open Go.RowKit Go.ChangeShapes Go.Deep Go.Proofs.YtdgmkfbmeaalpaaDoorW.PrintWords Go.Proofs.YtdgmkfbmeaalpaaDoor.E
theorem open_rowP {P : Program} {H : Type} {enc : TypeId × Value → H} {W : World} {α : Type} [Inhabited α] {d : Kd α} {p : α → Prop} {t e : TypeId} {fuel : Nat} {cs : List Value} {x : DataW H × List MemPlace} (ht : P.underlying t = some (.slice e)) (hc : P.cellsOf e = d.sz)
    (o : ∀ (fuel : Nat) (cs : List Value) (x : DataW H × List MemPlace), DataW.trod enc P W 0 (fun _ => true) true fuel e cs = some x → ∃ y, d.K W y cs ∧ p y)
    (h : DataW.trod enc P W 0 (fun _ => true) true fuel t cs = some x) : ∃ (A : Option Addr) (c : Nat) (l : List α), cs = [.slice A l.length c] ∧ l.length ≤ c ∧ (l.length : Int) ≤ 9223372036854775807 ∧ d.C W A l.length l ∧ ∀ y ∈ l, p y := by
  rcases open_slice ht h with ⟨rfl, _⟩ | ⟨a, len, cap, m, n, D, Pl, rfl, _, hl, hm, hmm, _, hx⟩
  · exact ⟨none, 0, [], rfl, Nat.le_refl _, by simp, ⟨rfl, by simp, fun h => absurd h (by simp)⟩, fun y hy => by cases hy⟩
  · have hlm : len ≤ m := by rw [hmm]; simp; omega
    unfold maxLen at hm
    obtain ⟨Y, hY⟩ := choose_lt (α := α) (n := len) (p := fun i y => ∃ cs', W.cells? 0 (a.add (i * P.cellsOf e)) (P.cellsOf e) = some cs' ∧ d.K W y cs' ∧ p y) (fun i hi => by
      obtain ⟨cs', h1, h2⟩ := hx i (by omega)
      obtain ⟨y, hy, hp⟩ := o _ _ _ h2
      exact ⟨y, cs', h1, hy, hp⟩)
    have hlen : ((List.range len).map Y).length = len := by simp
    refine ⟨some a, cap, (List.range len).map Y, by rw [hlen], by rw [hlen]; exact hl, by rw [hlen]; omega, ⟨rfl, by rw [hlen]; omega, fun _ => ⟨a, rfl, fun j q hj => ?_⟩⟩, fun y hy => ?_⟩
    · obtain ⟨hj1, hj2⟩ := List.getElem?_eq_some_iff.1 hj
      rw [hlen] at hj1
      simp only [List.getElem_map, List.getElem_range] at hj2
      subst hj2
      obtain ⟨cs', h1, h2, _⟩ := hY j hj1
      obtain ⟨_, g1, g2⟩ := World.cells?_some h1
      refine ⟨cs', by rw [g1, hc], h2, fun i u hu => ?_⟩
      have := g2 i (by rw [← g1]; exact (List.getElem?_eq_some_iff.1 hu).1)
      rw [Go.Deep.add_add, hc, hu] at this
      exact this
    · obtain ⟨j, hj, rfl⟩ := List.mem_map.mp hy
      obtain ⟨_, _, _, hp⟩ := hY j (List.mem_range.mp hj)
      exact hp
theorem open_intsR {P : Program} {H : Type} {enc : TypeId × Value → H} {W : World} {k : IntKind} {t e : TypeId} {fuel : Nat} {cs : List Value} {x : DataW H × List MemPlace} (ht : P.underlying t = some (.slice e)) (he : P.underlying e = some (.int k)) (hc : P.cellsOf e = 1) (h : DataW.trod enc P W 0 (fun _ => true) true fuel t cs = some x) :
    ∃ (A : Option Addr) (c : Nat) (l : List Int), cs = [.slice A l.length c] ∧ l.length ≤ c ∧ (l.length : Int) ≤ 9223372036854775807 ∧ (Kd.int k).C W A l.length l ∧ ∀ y ∈ l, (Lit.int k y).wf = true :=
  open_rowP ht hc (fun fuel cs x h => by
    obtain ⟨s, rfl, _, hs⟩ := DataW.trod_int he h
    exact ⟨s, rfl, hs⟩) h
end Go.Proofs.YtdgmkfbmeaalpaaDoor.Pur
end
section
namespace Go.Proofs.YtdgmkfbmeaalpaaDoor.Pur
open Go
variable {H : Type} {enc : TypeId × Value → H}
theorem handed_shaped_and {a : Assume} {C : Checked} {os : Os} {f : FuncId} {fn : Func} {s : ChangeSpec} {conds : List PathCond} {apart fresh handsOn again : Bool} {X : World → Array Value → Prop}
    (hX : ∀ (w w' : World) (args : Array Value), w.heap = w'.heap → X w args → X w' args)
    (own : ownKnob C.prog.godebug = none) (started : os.Started) (noInit : C.prog.inits.idxOf? f = none) (hfn : C.prog.funcs[f]? = some fn)
    (witness : ∃ (w : World) (tape : Tape) (i : Input), w.os = os ∧ (w.forCall tape i).Shaped C.prog ∧ i.vars = [] ∧ Input.okWide C.prog (w.forCall tape i) .any w.heap.size f i ∧
      ((s.pre enc C.prog fn conds apart (w.forCall tape i).memory i.args ∧ X (w.forCall tape i).memory i.args) ∧ sizedMet enc C.prog fn (OpenSpec.ofChange s) apart (w.forCall tape i).memory i.args) ∧ a.holds C.prog (lone (Frame.enter C.prog f i.args .normal) [] (w.forCall tape i)))
    (contract : ∀ (W : World) (base : Nat) (args : Array Value) (ds gs : List (DataW H)) (before : List MemPlace),
      (∀ (j : Nat) t v, fn.params[j]? = some t → args[j]? = some v → Value.okWide C.prog W .any base t v) →
      DataW.Whole enc C.prog fn.params.toList s.vars apart W args.toList ds gs before →
      conds.all (PathCond.test C.prog ⟨fn.params.toList, ds, s.plain.varTypes C.prog, gs⟩) = true →
      (DataW.weightsEach C.prog (fn.params.toList ++ s.plain.varTypes C.prog) (ds ++ gs)).all (· ≤ reachBytes) = true → X W args → W.ShapedOpen C.prog →
      a.holds C.prog (lone (Frame.enter C.prog f args .normal) [] W) →
      Calls C.prog f args W fun e W' => ∃ v, e = .returned v ∧ s.post enc C.prog fn apart fresh handsOn again W args v W') :
    ReturnsInHanded a C os f .any (fun w args => (s.pre enc C.prog fn conds apart w args ∧ X w args) ∧ sizedMet enc C.prog fn (OpenSpec.ofChange s) apart w args) (s.post enc C.prog fn apart fresh handsOn again) := by
  refine returnsInHanded_of_calls own started noInit witness ?_
  intro w tape i _ hsh _ hok hpre hholds
  obtain ⟨_, _, _, fn', hfn', _, _, _, _, hval⟩ := hok
  have e : fn' = fn := Option.some.inj (hfn'.symm.trans hfn)
  subst e
  obtain ⟨⟨⟨ds, gs, before, hw, hc⟩, hx⟩, hz⟩ := hpre
  have hw' := DataW.Whole.of_heap (w' := w.forCall tape i) (by rfl) hw
  refine (contract (w.forCall tape i) w.heap.size i.args ds gs before hval hw' hc (hz.weights hw) (hX _ _ _ (by rfl) hx) hsh hholds).mono fun e W' ⟨v, he, hp⟩ => ?_
  subst he
  exact ChangeSpec.post_blind hp
end Go.Proofs.YtdgmkfbmeaalpaaDoor.Pur
end
section
namespace Go.Proofs.YtdgmkfbmeaalpaaDoor.Pur
open Go.Proofs.YtdgmkfbmeaalpaaDoor.E
theorem gok0 {W : World} (h : W.ShapedOpen Tryd.prog) : GOk [0] W := by
  intro n hn
  obtain rfl := List.mem_singleton.mp hn
  exact Tryd.laysCut.s1_3 W h
end Go.Proofs.YtdgmkfbmeaalpaaDoor.Pur
end
section
namespace Go.Proofs.YtdgmkfbmeaalpaaDoor.fnPsalmRead
open Go.ChangeShapes Go.WideShapes Go.ChangeAt Go.RowKit
open Go.ChangeMaps (open_string shut_string)
set_option linter.unusedVariables false
theorem own : ownKnob Tryd.prog.godebug = none := by kernel_rfl
theorem laidOut : laidOutB Tryd.prog = true := by kernel_rfl
set_option maxRecDepth 100000 in
theorem lifted (os : Os) (started : os.Started) (H : Type) (enc : TypeId × Value → H) :
    ReturnsInHanded {} Tryd.checked os 11 .any (fun w args => (Rows.fnPsalmReadSpec.pre enc Tryd.prog Tryd.f11 Rows.fnPsalmReadRow.domain false w args ∧ laidMetH Tryd.prog Rows.fnPsalmReadRow.laid w) ∧ sizedMet enc Tryd.prog Tryd.f11 (OpenSpec.ofChange Rows.fnPsalmReadSpec) false w args) (Rows.fnPsalmReadSpec.post enc Tryd.prog Tryd.f11 false true false false) := by
  refine Pur.handed_shaped_and (C := Tryd.checked) (X := fun w _ => laidMetH Tryd.prog Rows.fnPsalmReadRow.laid w) (fun _ _ _ hh h => h.of_heap hh) own started (by kernel_rfl) Tryd.func11
    (ChangeSpec.witness_shaped (enc := enc) (C := Tryd.checked) (os := os) (X := fun w _ => laidMetH Tryd.prog Rows.fnPsalmReadRow.laid w) false (World.laidAll Tryd.prog os Rows.fnPsalmReadRow.laid) #[.slice none 0 0, .slice none 0 0] 8 (World.laidAll_os _ _ _) (World.shaped_of_ZipB (by kernel_rfl) (by kernel_rfl)) (by kernel_rfl) (by kernel_rfl) (by kernel_rfl) (by rw [MakeChecks.laidMetH_plain _ _ _ (by kernel_rfl)]; exact laidMet_laidAll _ (by kernel_rfl) (by kernel_rfl))) ?_
  intro W base args ds gs before hval0 hW hcnd hsz0 hL hSh _
  have hsz : (DataW.weightsEach Tryd.prog (Tryd.f11.params.toList ++ Rows.fnPsalmReadSpec.plain.varTypes Tryd.prog) (ds ++ gs)).all (· ≤ reachBytes) = true := hsz0
  have hval : ∀ (j : Nat) t v, Tryd.f11.params[j]? = some t → args[j]? = some v → Value.okWide Tryd.prog W .any base t v := hval0
  have hW' := hW
  obtain ⟨p, q, hA0, hV, rfl, hfz, hnd⟩ := hW
  have hA : DataW.TrodAll enc Tryd.prog W 0 (fun _ => true) true Tryd.f11.params.toList args.toList ds p := hA0
  rw [Tryd.params11] at hA hval hsz
  obtain ⟨v0, vs0, d0, ds0, p0, q0, hargs, rfl, rfl, h0, r0⟩ := trodAll_cons hA
  obtain ⟨v1, vs1, d1, ds1, p1, q1, rfl, rfl, rfl, h1, r1⟩ := trodAll_cons r0
  obtain ⟨rfl, rfl, rfl⟩ := trodAll_nil r1
  obtain rfl : args = #[v0, v1] := by cases args; simp_all
  obtain ⟨rfl, rfl⟩ := trodVars_none hV
  have k0 := h0
  have lt0 : ∀ x ∈ p0, x.block < W.heap.size := by obtain ⟨m, hm⟩ := k0; exact DataW.trod_lt m _ _ _ hm
  obtain ⟨a0, len0, cap0, rfl⟩ := okWide_slice Tryd.underlying22 (hval 0 22 v0 rfl rfl)
  obtain ⟨fuel0, hf0⟩ := h0
  obtain ⟨A0, c0, l0, hcs0, hle0, hm0, hC0, hx0⟩ := Pur.open_intsR Tryd.underlying22 Tryd.underlying5 (by kernel_rfl) hf0
  simp [Value.cells] at hcs0
  obtain ⟨rfl, rfl, rfl⟩ := hcs0
  have k1 := h1
  have lt1 : ∀ x ∈ p1, x.block < W.heap.size := by obtain ⟨m, hm⟩ := k1; exact DataW.trod_lt m _ _ _ hm
  obtain ⟨a1, len1, cap1, rfl⟩ := okWide_slice Tryd.underlying22 (hval 1 22 v1 rfl rfl)
  obtain ⟨fuel1, hf1⟩ := h1
  obtain ⟨A1, c1, l1, hcs1, hle1, hm1, hC1, hx1⟩ := Pur.open_intsR Tryd.underlying22 Tryd.underlying5 (by kernel_rfl) hf1
  simp [Value.cells] at hcs1
  obtain ⟨rfl, rfl, rfl⟩ := hcs1
  clear hA0 hval0 hsz0 hsz
  obtain ⟨k, hk⟩ := Pur.law_read l0 l1 hm0 hx0 hm1 hx1
  refine (E.laws_FnPsalmRead.calls k _ _ l0 _ _ l1 true W hC0 hle0 hC1 hle1 (Pur.gok0 hSh) hk).mono fun e W' ⟨he, bel⟩ => ?_
  subst he
  exact ⟨_, rfl, _, _, _, [], _, [], hW', trodAll_mk1 (shut_bool Tryd.underlying4 _), (trodAll_cons_mk (Below.trod laidOut (by kernel_rfl) (of_decide_eq_true (by kernel_rfl)) k0 bel lt0) (trodAll_cons_mk (Below.trod laidOut (by kernel_rfl) (of_decide_eq_true (by kernel_rfl)) k1 bel lt1) trodAll_mk0)), rfl, bel.frame _, fun h => by cases h⟩
set_option maxRecDepth 100000 in
theorem closed : joinedFacts Tryd.prog 11 Tryd.f11 Rows.fnPsalmReadSpec Rows.fnPsalmReadRow = true := by
  have hf : (Rows.fnPsalmReadRow.lifted == Tryd.prog.liftsFinal) = true := by rw [Head.finE]; kernel_rfl
  have hm : (Tryd.prog.make == some Rows.fnPsalmReadRow.make) = true := by rw [Head.makeE]; kernel_rfl
  unfold joinedFacts
  repeat' (with_reducible refine Head.and_t ?_ ?_)
  all_goals first | with_reducible exact Head.mayE | with_reducible exact hf | with_reducible exact hm | (as_aux_lemma => kernel_rfl)
theorem over : Rows.fnPsalmReadRow.holds Tryd.pinned (OpenSpec.ofChange Rows.fnPsalmReadSpec) :=
  OpenClaim.holds_of_wide 11 Tryd.f11 rfl rfl rfl rfl rfl rfl rfl ⟨rfl, rfl, rfl, rfl, rfl⟩ rfl rfl rfl rfl rfl (by kernel_rfl) Tryd.func11 closed
    (of_decide_eq_true (by kernel_rfl)) (by unfold Func.isWrapper; first | (rw [if_pos (by decide +kernel)]; kernel_rfl) | (rw [if_neg (by decide +kernel)]; exact ⟨rfl, rfl⟩))
    (fun os started H enc _ => lifted os started H enc)
theorem card_ : Rows.FnPsalmReadCardSaid :=
  Claim7.holds_tied_plain_at .later [] [.data, .pinned] true (true, "95c8318e1392eb2a5db7b8b7a99d282c56258e7fe61e0da8e429e6d5d304e4ee") false
    over (fun _ h => by cases h) (by as_aux_lemma => kernel_rfl) (fun _ h => by cases h) fnPsalmRead_row_tie rfl ⟨rfl, rfl⟩ (Head.mainE.trans (by as_aux_lemma => kernel_rfl)) rfl
    (fun f fn hf hfn => by
      obtain rfl : f = 11 := Option.some.inj ((show Tryd.prog.funcNamed "loop.example/neumes/laws.FnPsalmRead" = some 11 by kernel_rfl).symm.trans hf) |>.symm
      obtain rfl : fn = Tryd.f11 := (Option.some.inj (Tryd.func11.symm.trans hfn)).symm
      exact ⟨by kernel_rfl, fun j t ht => by
        rw [Tryd.params11] at ht
        have hm : t ∈ [22, 22] := by simpa using Array.mem_of_getElem? ht
        have hall : ([22, 22].all fun u => !Tryd.prog.wantsStandIn u) = true := by kernel_rfl
        exact (show Tryd.prog.wantsStandIn t = false by simpa using List.all_eq_true.1 hall t hm)⟩)
    (by kernel_rfl)
theorem proved : Rows.FnPsalmReadCardSaid := card_
#print axioms proved
end Go.Proofs.YtdgmkfbmeaalpaaDoor.fnPsalmRead
namespace Go.Proofs.YtdgmkfbmeaalpaaDoor
theorem fnPsalmRead_holds : Rows.FnPsalmReadCardSaid := fnPsalmRead.proved
end Go.Proofs.YtdgmkfbmeaalpaaDoor
end
