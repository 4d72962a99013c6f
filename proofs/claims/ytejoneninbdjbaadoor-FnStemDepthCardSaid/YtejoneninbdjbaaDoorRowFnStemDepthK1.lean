/- Texts of this claim, joined by a program of this session's (wip/tools/pack.py). -/
import Derived.Test.YtejoneninbdjbaaDoorRowFnStemDepthK0
section
namespace Go.Proofs.YtejoneninbdjbaaDoor.E
open Go.RowKit Go.Proofs.YtejoneninbdjbaaDoorW.PrintWords Go.Proofs.YtejoneninbdjbaaDoorW.PrintLast Go.Proofs.YtejoneninbdjbaaDoorW.PrintMore
attribute [local go_sem] max2_int min2_int max_two min_two max_three min_three max_four min_four
set_option linter.unusedVariables false
set_option linter.unusedSimpArgs false
attribute [local go_sem] str_leq_ str_gtr_ str_geq_
def spec_l91At.j0 : Nat → Int → Bool → List Int → Int → Option (Int × Int)
 | 0, _, _, _, _ => none
 | k + 1, x1, x11, x1000, x1001 => if x11 = true then ((some (([(-1), x1] : List Int) : List Int)).bind fun y280 => ((spec_l6Rd_pick.f k x1000 x1001 2).bind fun bt283 => (if 0 ≤ bt283.1 then (if bt283.1 < (y280.length : Int) then (some (rd y280 bt283.1, bt283.2)) else (none)) else (none)))) else ((spec_l6Rd_pick.f k x1000 x1001 x1).bind fun bt286 => (some (bt286.1, bt286.2)))
def spec_l91At.f (k : Nat) (s0_0 : List Int) (s0_1 : Int) (a1 : Int) : Option (Int × Int) := if a1 = 0 then (spec_l91At.j0 k a1 true s0_0 s0_1) else ((spec_l6Rd_pick.f k s0_0 s0_1 20).bind fun bt278 => (spec_l91At.j0 k a1 (bt278.1 == 0) s0_0 bt278.2))
set_option maxHeartbeats 8000000 in
set_option maxRecDepth 100000 in
theorem spec_l91At.calls (k : Nat) (g : Nat) (s0_0 : List Int) (s0_1 : Int) (a1 : Int) (r1 : Int) (r2 : Int) (w0 w : World) (hI : IsS79 w0 w g s0_0 s0_1) (hB : Below w0.heap.size w0 w) (h : spec_l91At.f k s0_0 s0_1 a1 = some (r1, r2)) :
  Calls Tryd.prog 67 #[.pointer (some ⟨g, 0, none⟩), .int .i64 a1] w fun e w' => e = .returned (.int .i64 r1) ∧ IsS79 w0 w' g s0_0 r2 ∧ Below w0.heap.size w0 w' ∧ KeepBut w w' g none := by
 have HI0 := Aside0.mk hI
 have HK := Aside0.mk (KeepBut.refl w g none)
 have HL := Aside0.mk hB.size
 clear hI
 have HW0 := Aside0.mk hB.size
 have HB := Aside0.mk hB
 clear hB
 have H : (if a1 = 0 then (spec_l91At.j0 k a1 true s0_0 s0_1) else ((spec_l6Rd_pick.f k s0_0 s0_1 20).bind fun bt278 => (spec_l91At.j0 k a1 (bt278.1 == 0) s0_0 bt278.2))) = some (r1, r2) := h
 clear h
 have HC3 := Aside0.mk H
 clear H
 go_enter Tryd.func67, Tryd.ntmps67
 go_upto_region 1 with (fail)
 go_cut [11] (fun v11 wc => ∃ (kq : Nat) (x11_2 : Bool) (x1001_2 : Int), v11 = .bool x11_2 ∧ Aside0 (spec_l91At.j0 kq a1 x11_2 s0_0 x1001_2 = some (r1, r2)) ∧ Aside0 (kq ≤ k) ∧ Aside0 (IsS79 w0 wc g s0_0 x1001_2) ∧ Aside0 (KeepBut w wc g none) ∧ Aside0 (Below w0.heap.size w0 wc))
 case first =>
  have H := HC3.out
  clear HC3
  by_cases c4 : a1 = 0
  ·rw [if_pos c4] at H
   have c4b0 : (a1 == 0) = true := beq_iff_eq.mpr c4
   have c4b1 : (a1 != 0) = false := bne_eq_false_iff_eq.mpr c4
   clear c4
   (first | rw [c4b0] | (simp only [i64_w, i32_w]; rw [c4b0]) | skip)
   have H' := Aside0.mk H
   clear H
   go_wp2
   go_meet
   case rel => exact ⟨_, (true), (s0_1), (by first | rfl | (simp; done) | (simp [*]; done)), H', ⟨by first | omega | exact Nat.le_refl _⟩, ⟨by repeat (first | (with_reducible first | exact HI0.out | apply IsS79.alloc | apply IsS79.drewN | apply IsS79.drew | apply IsS79.set_1) | exact HI0.out)⟩, ⟨by repeat (first | (with_reducible first | exact HK.out | apply KeepBut.set_ | apply keep_drewN | apply keep_drew | apply keep_alloc) | exact HK.out)⟩, ⟨by repeat (first | (with_reducible first | exact HB.out | apply below_alloc | apply pw_below_drewN | apply below_drew1 | refine below_set ?_ (IsS79.ge HI0.out)) | exact HB.out)⟩⟩
  rw [if_neg c4] at H
  have c4b0 : (a1 == 0) = false := beq_eq_false_iff_ne.mpr c4
  have c4b1 : (a1 != 0) = true := bne_iff_ne.mpr c4
  (first | rw [c4b0] | (simp only [i64_w, i32_w]; rw [c4b0]) | skip)
  replace H := Option.bind_eq_some_iff.mp H
  obtain ⟨⟨t278, t279⟩, A50, H⟩ := H
  replace H : (spec_l91At.j0 k a1 (t278 == 0) s0_0 t279) = some (r1, r2) := H
  have A5 := Aside0.mk A50
  clear A50
  have H' := Aside0.mk H
  clear H
  go_wp2_with (first | (go_at_call 81; (with_reducible refine (spec_l6Rd_pick.calls k g s0_0 s0_1 20 t278 t279 w0 _ ?side1 ?side2 A5.out).mono ?_); (case side1 => repeat (first | (with_reducible first | exact HI0.out | apply IsS79.alloc | apply IsS79.drewN | apply IsS79.drew | apply IsS79.set_1) | exact HI0.out)); (case side2 => repeat (first | (with_reducible first | exact HB.out | apply below_alloc | apply pw_below_drewN | apply below_drew1 | refine below_set ?_ (IsS79.ge HI0.out)) | exact HB.out)); rintro e w6 ⟨rfl, hi, hb, hk⟩; have n0_ := Aside0.mk (KeepBut.trans (by repeat (first | (with_reducible first | exact HK.out | apply KeepBut.set_ | apply keep_drewN | apply keep_drew | apply keep_alloc) | exact HK.out)) hk (.inl rfl)); have n1_ := Aside0.mk (hb); have n2_ := Aside0.mk (hi); clear HK; clear HB; clear HI0; have HK := n0_; have HB := n1_; have HI0 := n2_; clear n0_ n1_ n2_; (try clear hb); (try clear hb2); (try clear hk); (try clear hi)))
  go_meet
  case rel => exact ⟨_, ((t278 == 0)), (t279), (by first | rfl | (simp; done) | (simp [*]; done)), H', ⟨by first | omega | exact Nat.le_refl _⟩, ⟨by repeat (first | (with_reducible first | exact HI0.out | apply IsS79.alloc | apply IsS79.drewN | apply IsS79.drew | apply IsS79.set_1) | exact HI0.out)⟩, ⟨by repeat (first | (with_reducible first | exact HK.out | apply KeepBut.set_ | apply keep_drewN | apply keep_drew | apply keep_alloc) | exact HK.out)⟩, ⟨by repeat (first | (with_reducible first | exact HB.out | apply below_alloc | apply pw_below_drewN | apply below_drew1 | refine below_set ?_ (IsS79.ge HI0.out)) | exact HB.out)⟩⟩
 case rest =>
  clear HC3
  try clear p2
  try clear c4
  try clear c4b0
  try clear c4b1
  try clear c6
  obtain ⟨kq, x11_2, x1001_2, rfl, HA, HJ2, HI0, HK, HB⟩ := hcut
  cases kq with
  | zero => exact absurd HA.out (by simp [spec_l91At.j0])
  | succ kj2 =>
   have H := HA.out
   clear HA
   simp only [spec_l91At.j0] at H
   by_cases c7 : x11_2 = true
   rotate_left
   ·replace c7 := Bool.eq_false_iff.mpr c7
    subst c7
    have H1 : ((spec_l6Rd_pick.f kj2 s0_0 x1001_2 a1).bind fun bt286 => (some (bt286.1, bt286.2))) = some (r1, r2) := by rw [if_neg (show ¬ (false = true) by decide)] at H; exact H
    clear H
    have H := H1
    clear H1
    replace H := Option.bind_eq_some_iff.mp H
    obtain ⟨⟨t286, t287⟩, A150, H⟩ := H
    replace H : (some (t286, t287)) = some (r1, r2) := H
    have A15 := Aside0.mk A150
    clear A150
    simp only [Option.some.injEq, Prod.mk.injEq] at H
    obtain ⟨rfl, rfl⟩ := H
    go_wp2_with (first | ((with_reducible refine gate_callee (f := 81) rfl ?_); refine goesL_ (some 20) rfl rfl Tryd.func81 (by kernel_rfl) rfl #[.pointer (some ⟨g, 0, none⟩), .int .i64 a1] rfl (by (try simp only [List.map_toArray, List.map_cons, List.map_nil]); first | done | rfl | (simp only [List.length_drop, List.length_take]; rfl)) ?_; (with_reducible refine (spec_l6Rd_pick.calls kj2 g s0_0 x1001_2 a1 t286 t287 w0 _ ?side1 ?side2 A15.out).mono ?_); (case side1 => repeat (first | (with_reducible first | exact HI0.out | apply IsS79.alloc | apply IsS79.drewN | apply IsS79.drew | apply IsS79.set_1) | exact HI0.out)); (case side2 => repeat (first | (with_reducible first | exact HB.out | apply below_alloc | apply pw_below_drewN | apply below_drew1 | refine below_set ?_ (IsS79.ge HI0.out)) | exact HB.out)); rintro e w16 ⟨rfl, hi, hb, hk⟩; refine ⟨_, rfl, ?_⟩; have n0_ := Aside0.mk (KeepBut.trans (by repeat (first | (with_reducible first | exact HK.out | apply KeepBut.set_ | apply keep_drewN | apply keep_drew | apply keep_alloc) | exact HK.out)) hk (.inl rfl)); have n1_ := Aside0.mk (hb); have n2_ := Aside0.mk (hi); clear HK; clear HB; clear HI0; have HK := n0_; have HB := n1_; have HI0 := n2_; clear n0_ n1_ n2_; (try clear hb); (try clear hb2); (try clear hk); (try clear hi)))
    go_ret
    exact ⟨by first | rfl | (simp [errW_none, errW_some] <;> rfl) | (simp [*, errW_none, errW_some] <;> rfl), by repeat (first | (with_reducible first | exact HI0.out | apply IsS79.alloc | apply IsS79.drewN | apply IsS79.drew | apply IsS79.set_1) | exact HI0.out), by repeat (first | (with_reducible first | exact HB.out | apply below_alloc | apply pw_below_drewN | apply below_drew1 | refine below_set ?_ (IsS79.ge HI0.out)) | exact HB.out), by repeat (first | (with_reducible first | exact HK.out | apply KeepBut.set_ | apply keep_drewN | apply keep_drew | apply keep_alloc) | exact HK.out)⟩
   subst c7
   have H1 : ((some (([(-1), a1] : List Int) : List Int)).bind fun y280 => ((spec_l6Rd_pick.f kj2 s0_0 x1001_2 2).bind fun bt283 => (if 0 ≤ bt283.1 then (if bt283.1 < (y280.length : Int) then (some (rd y280 bt283.1, bt283.2)) else (none)) else (none)))) = some (r1, r2) := by rw [if_pos rfl] at H; exact H
   clear H
   have H := H1
   clear H1
   obtain ⟨y280, hy280⟩ : ∃ y_ : List Int, y_ = (([(-1), a1] : List Int)) := ⟨_, rfl⟩
   replace H : ((spec_l6Rd_pick.f kj2 s0_0 x1001_2 2).bind fun bt283 => (if 0 ≤ bt283.1 then (if bt283.1 < (y280.length : Int) then (some (rd y280 bt283.1, bt283.2)) else (none)) else (none))) = some (r1, r2) := by first | (rw [hy280]; with_reducible exact H) | (have H2_ := (Option.bind_some _ _).symm.trans H; rw [hy280]; with_reducible exact H2_) | (have H2_ := (Option.bind_some _ _).symm.trans H; with_reducible exact H2_) | with_reducible exact H | (rw [hy280]; exact H) | exact H
   have Ny280 := Aside0.mk hy280
   clear hy280
   replace H := Option.bind_eq_some_iff.mp H
   obtain ⟨⟨t283, t284⟩, A80, H⟩ := H
   replace H : (if 0 ≤ t283 then (if t283 < (y280.length : Int) then (some (rd y280 t283, t284)) else (none)) else (none)) = some (r1, r2) := H
   have A8 := Aside0.mk A80
   clear A80
   by_cases c9 : 0 ≤ t283
   rotate_left
   ·rw [if_neg c9] at H
    exact absurd H (by simp)
   rw [if_pos c9] at H
   have c9b0 : decide (0 ≤ t283) = true := decide_eq_true c9
   clear c9
   by_cases c10 : t283 < (y280.length : Int)
   rotate_left
   ·rw [if_neg c10] at H
    exact absurd H (by simp)
   rw [if_pos c10] at H
   have c10b0 : decide (t283 < (y280.length : Int)) = true := decide_eq_true c10
   clear c10
   simp only [Option.some.injEq, Prod.mk.injEq] at H
   obtain ⟨rfl, rfl⟩ := H
   go_wp2_with (first | ((with_reducible refine gate_dst (N := 13) rfl ?_); refine Kd.R_lit (Kd.int .i64) _ 3 ?hg (N := 13) ?hd (xs := ([(-1), a1] : List Int)) (inner := [.int .i64 (-1), .int .i64 a1]) (ok := fun _ => True) (okp := fun _ => True) ?hr ?hp (fun _ hk => hk) trivial (Below.refl _ _) (Nat.le_refl _) (by simp) ?_; (case hd => rfl); (case hg => rfl); (case hr => first | (go_simp; done) | (go_simp; rfl)); (case hp => exact (Reps.one (show Kd.M (Kd.int .i64) _ _ _ (-1) [.int .i64 (-1)] from rfl) (Reps.one (show Kd.M (Kd.int .i64) _ _ _ a1 [.int .i64 a1] from rfl) (Reps.none _ _)))); intro v281 w11 ho12 hb hg_ hnew_; clear hg_ hnew_; (first | rw [← Ny280.out] at ho12 | (simp only [Int.reduceToNat] at ho12; rw [← Ny280.out] at ho12)); have n0_ := Aside0.mk (Kd.R_lower ho12 (keep_size (w := w) (g := g) (row := none) (by repeat (first | (with_reducible first | exact HK.out | apply KeepBut.set_ | apply keep_drewN | apply keep_drew | apply keep_alloc) | exact HK.out)))); have n1_ := Aside0.mk (IsS79.below (by repeat (first | (with_reducible first | exact HI0.out | apply IsS79.alloc | apply IsS79.drewN | apply IsS79.drew | apply IsS79.set_1) | exact HI0.out)) hb); have n2_ := Aside0.mk (KeepBut.trans (by repeat (first | (with_reducible first | exact HK.out | apply KeepBut.set_ | apply keep_drewN | apply keep_drew | apply keep_alloc) | exact HK.out)) (KeepBut.of_below hb g none) (.inl rfl)); have n3_ := Aside0.mk (below_step (by repeat (first | (with_reducible first | exact HB.out | apply below_alloc | apply pw_below_drewN | apply below_drew1 | refine below_set ?_ (IsS79.ge HI0.out)) | exact HB.out)) hb); clear HI0; clear HK; clear HB; have HO282 := n0_; have HI0 := n1_; have HK := n2_; have HB := n3_; clear n0_ n1_ n2_ n3_; clear hb ho12) | ((with_reducible refine gate_callee (f := 81) rfl ?_); refine goesL_ (some 15) rfl rfl Tryd.func81 (by kernel_rfl) rfl #[.pointer (some ⟨g, 0, none⟩), .int .i64 2] rfl (by (try simp only [List.map_toArray, List.map_cons, List.map_nil]); first | done | rfl | (simp only [List.length_drop, List.length_take]; rfl)) ?_; (with_reducible refine (spec_l6Rd_pick.calls kj2 g s0_0 x1001_2 2 t283 t284 w0 _ ?side1 ?side2 A8.out).mono ?_); (case side1 => repeat (first | (with_reducible first | exact HI0.out | apply IsS79.alloc | apply IsS79.drewN | apply IsS79.drew | apply IsS79.set_1) | exact HI0.out)); (case side2 => repeat (first | (with_reducible first | exact HB.out | apply below_alloc | apply pw_below_drewN | apply below_drew1 | refine below_set ?_ (IsS79.ge HI0.out)) | exact HB.out)); rintro e w13 ⟨rfl, hi, hb, hk⟩; refine ⟨_, rfl, ?_⟩; have n0_ := Aside0.mk (Kd.R_mono (Kd.R_keep (IsS79.apart (show IsS79 w0 _ g s0_0 x1001_2 from by repeat (first | (with_reducible first | exact HI0.out | apply IsS79.alloc | apply IsS79.drewN | apply IsS79.drew | apply IsS79.set_1) | exact HI0.out)) (by (with_reducible repeat (first | apply Kd.R_alloc | apply Kd.R_drewN | apply Kd.R_drew)); exact HO282.out) (by decide)) hk (fun _ h => h.2)) (fun _ h => h.1)); have n1_ := Aside0.mk (KeepBut.trans (by repeat (first | (with_reducible first | exact HK.out | apply KeepBut.set_ | apply keep_drewN | apply keep_drew | apply keep_alloc) | exact HK.out)) hk (.inl rfl)); have n2_ := Aside0.mk (hb); have n3_ := Aside0.mk (hi); clear HO282; clear HK; clear HB; clear HI0; have HO282 := n0_; have HK := n1_; have HB := n2_; have HI0 := n3_; clear n0_ n1_ n2_ n3_; (try clear hb); (try clear hb2); (try clear hk); (try clear hi); obtain ⟨Ao14, co14, eo14⟩ := Kd.R_slice HO282.out; subst eo14; have p285 : 0 ≤ (t283 : Int) := of_decide_eq_true (by first | (with_reducible assumption) | assumption); have q285 : t283 < (y280.length : Int) := of_decide_eq_true (by first | (with_reducible assumption) | assumption); obtain ⟨ad285, e285, hx285_0⟩ := Kd.at_int (Kd.R_reads' HO282.out).2.2 t283 p285 q285; cases e285; replace p285 := eq_true p285; replace q285 := eq_true q285))
   go_ret
   exact ⟨by first | rfl | (simp [errW_none, errW_some] <;> rfl) | (simp [*, errW_none, errW_some] <;> rfl), by repeat (first | (with_reducible first | exact HI0.out | apply IsS79.alloc | apply IsS79.drewN | apply IsS79.drew | apply IsS79.set_1) | exact HI0.out), by repeat (first | (with_reducible first | exact HB.out | apply below_alloc | apply pw_below_drewN | apply below_drew1 | refine below_set ?_ (IsS79.ge HI0.out)) | exact HB.out), by repeat (first | (with_reducible first | exact HK.out | apply KeepBut.set_ | apply keep_drewN | apply keep_drew | apply keep_alloc) | exact HK.out)⟩
end Go.Proofs.YtejoneninbdjbaaDoor.E
end
section
namespace Go.Proofs.YtejoneninbdjbaaDoor.E
open Go.RowKit Go.Proofs.YtejoneninbdjbaaDoorW.PrintWords Go.Proofs.YtejoneninbdjbaaDoorW.PrintLast Go.Proofs.YtejoneninbdjbaaDoorW.PrintMore
attribute [local go_sem] max2_int min2_int max_two min_two max_three min_three max_four min_four
set_option linter.unusedVariables false
set_option linter.unusedSimpArgs false
attribute [local go_sem] str_leq_ str_gtr_ str_geq_
def spec_l6Rd_of.f (k : Nat) (s0_0 : List Int) (s0_1 : Int) (l1 : List ByteArray) : Option (ByteArray × Int) := (spec_l6Rd_pick.f k s0_0 s0_1 (l1.length : Int)).bind fun bt229 => (if 0 ≤ bt229.1 then (if bt229.1 < (l1.length : Int) then (some (rdOf ByteArray.empty l1 bt229.1, bt229.2)) else (none)) else (none))
set_option maxHeartbeats 8000000 in
set_option maxRecDepth 100000 in
theorem spec_l6Rd_of.calls (k : Nat) (g : Nat) (s0_0 : List Int) (s0_1 : Int) (A1 : Option Addr) (c1 : Nat) (l1 : List ByteArray) (r1 : ByteArray) (r2 : Int) (w0 w : World) (hI : IsS79 w0 w g s0_0 s0_1) (hB : Below w0.heap.size w0 w) (hr1 : Kd.C Kd.string w A1 l1.length l1) (hc1 : l1.length ≤ c1) (hf1 : ∀ ad, A1 = some ad → 0 < l1.length → ad.block ≠ g) (h : spec_l6Rd_of.f k s0_0 s0_1 l1 = some (r1, r2)) :
  Calls Tryd.prog 82 #[.pointer (some ⟨g, 0, none⟩), .slice A1 l1.length c1] w fun e w' => e = .returned (.string r1) ∧ IsS79 w0 w' g s0_0 r2 ∧ Below w0.heap.size w0 w' ∧ KeepBut w w' g none := by
 have HR1 := Aside0.mk hr1
 have HC1 := Aside0.mk hc1
 clear hr1 hc1
 have HI0 := Aside0.mk hI
 have HK := Aside0.mk (KeepBut.refl w g none)
 have HL := Aside0.mk hB.size
 clear hI
 have HW0 := Aside0.mk hB.size
 have HB := Aside0.mk hB
 clear hB
 have H : ((spec_l6Rd_pick.f k s0_0 s0_1 (l1.length : Int)).bind fun bt229 => (if 0 ≤ bt229.1 then (if bt229.1 < (l1.length : Int) then (some (rdOf ByteArray.empty l1 bt229.1, bt229.2)) else (none)) else (none))) = some (r1, r2) := h
 clear h
 replace H := Option.bind_eq_some_iff.mp H
 obtain ⟨⟨t229, t230⟩, A30, H⟩ := H
 replace H : (if 0 ≤ t229 then (if t229 < (l1.length : Int) then (some (rdOf ByteArray.empty l1 t229, t230)) else (none)) else (none)) = some (r1, r2) := H
 have A3 := Aside0.mk A30
 clear A30
 by_cases c4 : 0 ≤ t229
 rotate_left
 ·rw [if_neg c4] at H
  exact absurd H (by simp)
 rw [if_pos c4] at H
 have c4b0 : decide (0 ≤ t229) = true := decide_eq_true c4
 clear c4
 by_cases c5 : t229 < (l1.length : Int)
 rotate_left
 ·rw [if_neg c5] at H
  exact absurd H (by simp)
 rw [if_pos c5] at H
 have c5b0 : decide (t229 < (l1.length : Int)) = true := decide_eq_true c5
 clear c5
 simp only [Option.some.injEq, Prod.mk.injEq] at H
 obtain ⟨rfl, rfl⟩ := H
 go_enter Tryd.func82, Tryd.ntmps82
 go_wp2_with (first | ((with_reducible refine gate_callee (f := 81) rfl ?_); refine goesL_ (some 9) rfl rfl Tryd.func81 (by kernel_rfl) rfl #[.pointer (some ⟨g, 0, none⟩), .int .i64 (l1.length : Int)] rfl (by (try simp only [List.map_toArray, List.map_cons, List.map_nil]); first | done | rfl | (simp only [List.length_drop, List.length_take]; rfl)) ?_; (with_reducible refine (spec_l6Rd_pick.calls k g s0_0 s0_1 (l1.length : Int) t229 t230 w0 _ ?side1 ?side2 A3.out).mono ?_); (case side1 => repeat (first | (with_reducible first | exact HI0.out | apply IsS79.alloc | apply IsS79.drewN | apply IsS79.drew | apply IsS79.set_1) | exact HI0.out)); (case side2 => repeat (first | (with_reducible first | exact HB.out | apply below_alloc | apply pw_below_drewN | apply below_drew1 | refine below_set ?_ (IsS79.ge HI0.out)) | exact HB.out)); rintro e w6 ⟨rfl, hi, hb, hk⟩; refine ⟨_, rfl, ?_⟩; have n0_ := Aside0.mk (KeepBut.trans (by repeat (first | (with_reducible first | exact HK.out | apply KeepBut.set_ | apply keep_drewN | apply keep_drew | apply keep_alloc) | exact HK.out)) hk (.inl rfl)); have n1_ := Aside0.mk (hb); have n2_ := Aside0.mk (hi); clear HK; clear HB; clear HI0; have HK := n0_; have HB := n1_; have HI0 := n2_; clear n0_ n1_ n2_; (try clear hb); (try clear hb2); (try clear hk); (try clear hi); have p231 : 0 ≤ (t229 : Int) := of_decide_eq_true (by first | (with_reducible assumption) | assumption); have q231 : t229 < (l1.length : Int) := of_decide_eq_true (by first | (with_reducible assumption) | assumption); obtain ⟨ad231, e231, hx231_0⟩ := Kd.at_string HR1.out t229 p231 q231; cases e231; replace hx231_0 := keep_cell HK.out hx231_0 (by first | (rw [add_block]; exact hf1 _ rfl (by omega)) | exact hf1 _ rfl (by omega) | exact hf1 ad231 rfl (by omega)); replace p231 := eq_true p231; replace q231 := eq_true q231))
 go_ret
 exact ⟨by first | rfl | (simp [errW_none, errW_some] <;> rfl) | (simp [*, errW_none, errW_some] <;> rfl), by repeat (first | (with_reducible first | exact HI0.out | apply IsS79.alloc | apply IsS79.drewN | apply IsS79.drew | apply IsS79.set_1) | exact HI0.out), by repeat (first | (with_reducible first | exact HB.out | apply below_alloc | apply pw_below_drewN | apply below_drew1 | refine below_set ?_ (IsS79.ge HI0.out)) | exact HB.out), by repeat (first | (with_reducible first | exact HK.out | apply KeepBut.set_ | apply keep_drewN | apply keep_drew | apply keep_alloc) | exact HK.out)⟩
end Go.Proofs.YtejoneninbdjbaaDoor.E
end
section
namespace Go.Proofs.YtejoneninbdjbaaDoor.E
open Go.RowKit Go.Proofs.YtejoneninbdjbaaDoorW.PrintWords Go.Proofs.YtejoneninbdjbaaDoorW.PrintLast Go.Proofs.YtejoneninbdjbaaDoorW.PrintMore
attribute [local go_sem] max2_int min2_int max_two min_two max_three min_three max_four min_four
set_option linter.unusedVariables false
set_option linter.unusedSimpArgs false
attribute [local go_sem] str_leq_ str_gtr_ str_geq_
mutual
def spec_l92Books.l0 : Nat → Bool → List ByteArray → Int → Int → Int → List Int → Int → Option (List ByteArray × Int)
 | 0, _, _, _, _, _, _, _ => none
 | k + 1, x1, x5, x6, x7, x8, x1000, x1001 => if x8 < x6 then (spec_l92Books.l1 k x1 x5 x6 x7 x8 (⟨#[]⟩ : ByteArray) 0 x1000 x1001) else ((spec_l6Rd_pick.f k x1000 x1001 40).bind fun bt269 => (if bt269.1 = 0 then (if 0 < (x5.length : Int) then (if (rdOf ByteArray.empty x5 0).size + 1 ≤ 9223372036854775807 then (some ((x5.set (0 : Int).toNat ((rdOf ByteArray.empty x5 0) ++ (⟨#[97]⟩ : ByteArray))), bt269.2)) else (none)) else (none)) else (if bt269.1 = 1 then (if 0 ≤ (wrap64 (x6 - 1)) then (if (wrap64 (x6 - 1)) < (x5.length : Int) then (if 1 ≤ ((rdOf ByteArray.empty x5 (wrap64 (x6 - 1))).size : Int) then (if 1 + ((rdOf ByteArray.empty x5 (wrap64 (x6 - 1))).extract 1 (rdOf ByteArray.empty x5 (wrap64 (x6 - 1))).size).size ≤ 9223372036854775807 then (some ((x5.set ((wrap64 (x6 - 1)) : Int).toNat ((⟨#[101]⟩ : ByteArray) ++ ((rdOf ByteArray.empty x5 (wrap64 (x6 - 1))).extract 1 (rdOf ByteArray.empty x5 (wrap64 (x6 - 1))).size))), bt269.2)) else (none)) else (none)) else (none)) else (none)) else (if bt269.1 = 2 then (some ((([] : List ByteArray)), bt269.2)) else (some (x5, bt269.2))))))
def spec_l92Books.l1 : Nat → Bool → List ByteArray → Int → Int → Int → ByteArray → Int → List Int → Int → Option (List ByteArray × Int)
 | 0, _, _, _, _, _, _, _, _, _ => none
 | k + 1, x1, x5, x6, x7, x8, x9, x10, x1000, x1001 => if x10 < x7 then (if x8 > 0 then ((spec_l6Rd_pick.f k x1000 x1001 3).bind fun bt250 => (if bt250.1 > 0 then (if 0 ≤ (wrap64 (x8 - 1)) then (if (wrap64 (x8 - 1)) < (x5.length : Int) then (if 0 ≤ x10 then (if x10 < ((rdOf ByteArray.empty x5 (wrap64 (x8 - 1))).size : Int) then (if (bt (rdOf ByteArray.empty x5 (wrap64 (x8 - 1))) x10) = 63 then ((spec_l6Rd_of.f k x1000 bt250.2 (([(⟨#[97]⟩ : ByteArray), (⟨#[98]⟩ : ByteArray), (⟨#[99]⟩ : ByteArray), (⟨#[97]⟩ : ByteArray), (⟨#[100]⟩ : ByteArray)] : List ByteArray))).bind fun bt256 => (if x9.size + bt256.1.size ≤ 9223372036854775807 then (spec_l92Books.l1 k x1 x5 x6 x7 x8 (x9 ++ bt256.1) (wrap64 (x10 + 1)) x1000 bt256.2) else (none))) else (if x10 ≤ (wrap64 (x10 + 1)) then (if (wrap64 (x10 + 1)) ≤ ((rdOf ByteArray.empty x5 (wrap64 (x8 - 1))).size : Int) then (if x9.size + ((rdOf ByteArray.empty x5 (wrap64 (x8 - 1))).extract (x10 : Int).toNat ((wrap64 (x10 + 1)) : Int).toNat).size ≤ 9223372036854775807 then (spec_l92Books.l1 k x1 x5 x6 x7 x8 (x9 ++ ((rdOf ByteArray.empty x5 (wrap64 (x8 - 1))).extract (x10 : Int).toNat ((wrap64 (x10 + 1)) : Int).toNat)) (wrap64 (x10 + 1)) x1000 bt250.2) else (none)) else (none)) else (none))) else (none)) else (none)) else (none)) else (none)) else ((spec_l6Rd_of.f k x1000 bt250.2 (([(⟨#[97]⟩ : ByteArray), (⟨#[98]⟩ : ByteArray), (⟨#[99]⟩ : ByteArray), (⟨#[97]⟩ : ByteArray), (⟨#[100]⟩ : ByteArray)] : List ByteArray))).bind fun bt262 => (if x9.size + bt262.1.size ≤ 9223372036854775807 then (spec_l92Books.l1 k x1 x5 x6 x7 x8 (x9 ++ bt262.1) (wrap64 (x10 + 1)) x1000 bt262.2) else (none))))) else ((spec_l6Rd_of.f k x1000 x1001 (([(⟨#[97]⟩ : ByteArray), (⟨#[98]⟩ : ByteArray), (⟨#[99]⟩ : ByteArray), (⟨#[97]⟩ : ByteArray), (⟨#[100]⟩ : ByteArray)] : List ByteArray))).bind fun bt267 => (if x9.size + bt267.1.size ≤ 9223372036854775807 then (spec_l92Books.l1 k x1 x5 x6 x7 x8 (x9 ++ bt267.1) (wrap64 (x10 + 1)) x1000 bt267.2) else (none)))) else (if x1 = true then ((spec_l6Rd_pick.f k x1000 x1001 3).bind fun bt239 => (if bt239.1 = 0 then (if 0 ≤ x7 then (if x7 ≤ 4 then (if x5.length < 8796093022208 then (spec_l92Books.l0 k x1 (x5 ++ [(⟨#[63, 63, 63, 63]⟩ : ByteArray).extract 0 (x7 : Int).toNat]) x6 x7 (wrap64 (x8 + 1)) x1000 bt239.2) else (none)) else (none)) else (none)) else (if x5.length < 8796093022208 then (spec_l92Books.l0 k x1 (x5 ++ [x9]) x6 x7 (wrap64 (x8 + 1)) x1000 bt239.2) else (none)))) else (if x5.length < 8796093022208 then (spec_l92Books.l0 k x1 (x5 ++ [x9]) x6 x7 (wrap64 (x8 + 1)) x1000 x1001) else (none)))
end
def spec_l92Books.f (k : Nat) (s0_0 : List Int) (s0_1 : Int) (a1 : Bool) : Option (List ByteArray × Int) := (spec_l6Rd_pick.f k s0_0 s0_1 5).bind fun bt235 => ((spec_l6Rd_pick.f k s0_0 bt235.2 4).bind fun bt237 => (spec_l92Books.l0 k a1 (([] : List ByteArray)) (wrap64 (1 + bt235.1)) (wrap64 (1 + bt237.1)) 0 s0_0 bt237.2))
set_option maxHeartbeats 8000000 in
set_option maxRecDepth 100000 in
theorem spec_l92Books.calls (k : Nat) (g : Nat) (s0_0 : List Int) (s0_1 : Int) (a1 : Bool) (r1 : List ByteArray) (r2 : Int) (w0 w : World) (hI : IsS79 w0 w g s0_0 s0_1) (hB : Below w0.heap.size w0 w) (h : spec_l92Books.f k s0_0 s0_1 a1 = some (r1, r2)) :
  Calls Tryd.prog 66 #[.pointer (some ⟨g, 0, none⟩), .bool a1] w fun e w' => ∃ v0_ : Value, e = .returned (v0_) ∧ Kd.R Kd.string 9 w' w.heap.size (fun _ => True) v0_ r1 ∧ IsS79 w0 w' g s0_0 r2 ∧ Below w0.heap.size w0 w' ∧ KeepBut w w' g none := by
 have HI0 := Aside0.mk hI
 have HK := Aside0.mk (KeepBut.refl w g none)
 have HL := Aside0.mk hB.size
 clear hI
 have HW0 := Aside0.mk hB.size
 have HB := Aside0.mk hB
 clear hB
 have H : ((spec_l6Rd_pick.f k s0_0 s0_1 5).bind fun bt235 => ((spec_l6Rd_pick.f k s0_0 bt235.2 4).bind fun bt237 => (spec_l92Books.l0 k a1 (([] : List ByteArray)) (wrap64 (1 + bt235.1)) (wrap64 (1 + bt237.1)) 0 s0_0 bt237.2))) = some (r1, r2) := h
 clear h
 obtain ⟨y232, hy232⟩ : ∃ y_ : List ByteArray, y_ = (([] : List ByteArray)) := ⟨_, rfl⟩
 replace H : ((spec_l6Rd_pick.f k s0_0 s0_1 5).bind fun bt235 => ((spec_l6Rd_pick.f k s0_0 bt235.2 4).bind fun bt237 => (spec_l92Books.l0 k a1 y232 (wrap64 (1 + bt235.1)) (wrap64 (1 + bt237.1)) 0 s0_0 bt237.2))) = some (r1, r2) := by first | (rw [hy232]; with_reducible exact H) | (have H2_ := (Option.bind_some _ _).symm.trans H; rw [hy232]; with_reducible exact H2_) | (have H2_ := (Option.bind_some _ _).symm.trans H; with_reducible exact H2_) | with_reducible exact H | (rw [hy232]; exact H) | exact H
 have Ny232 := Aside0.mk hy232
 clear hy232
 replace H := Option.bind_eq_some_iff.mp H
 obtain ⟨⟨t235, t236⟩, A30, H⟩ := H
 replace H : ((spec_l6Rd_pick.f k s0_0 t236 4).bind fun bt237 => (spec_l92Books.l0 k a1 y232 (wrap64 (1 + t235)) (wrap64 (1 + bt237.1)) 0 s0_0 bt237.2)) = some (r1, r2) := H
 have A3 := Aside0.mk A30
 clear A30
 replace H := Option.bind_eq_some_iff.mp H
 obtain ⟨⟨t237, t238⟩, A40, H⟩ := H
 replace H : (spec_l92Books.l0 k a1 y232 (wrap64 (1 + t235)) (wrap64 (1 + t237)) 0 s0_0 t238) = some (r1, r2) := H
 have A4 := Aside0.mk A40
 clear A40
 have H' := Aside0.mk H
 clear H
 go_enter Tryd.func66, Tryd.ntmps66
 go_wp2_with (first | ((with_reducible refine gate_dst (N := 11) rfl ?_); refine Kd.R_lit Kd.string _ 9 ?hg (N := 11) ?hd (xs := ([] : List ByteArray)) (inner := []) (ok := fun _ => True) (okp := fun _ => True) ?hr ?hp (fun _ hk => hk) trivial (Below.refl _ _) (Nat.le_refl _) (by simp) ?_; (case hd => rfl); (case hg => rfl); (case hr => first | (go_simp; done) | (go_simp; rfl)); (case hp => exact (Reps.none _ _)); intro v233 w5 ho6 hb hg_ hnew_; clear hg_ hnew_; (first | rw [← Ny232.out] at ho6 | (simp only [Int.reduceToNat] at ho6; rw [← Ny232.out] at ho6)); have n0_ := Aside0.mk (Kd.R_lower ho6 (keep_size (w := w) (g := g) (row := none) (by repeat (first | (with_reducible first | exact HK.out | apply KeepBut.set_ | apply keep_drewN | apply keep_drew | apply keep_alloc) | exact HK.out)))); have n1_ := Aside0.mk (IsS79.below (by repeat (first | (with_reducible first | exact HI0.out | apply IsS79.alloc | apply IsS79.drewN | apply IsS79.drew | apply IsS79.set_1) | exact HI0.out)) hb); have n2_ := Aside0.mk (KeepBut.trans (by repeat (first | (with_reducible first | exact HK.out | apply KeepBut.set_ | apply keep_drewN | apply keep_drew | apply keep_alloc) | exact HK.out)) (KeepBut.of_below hb g none) (.inl rfl)); have n3_ := Aside0.mk (below_step (by repeat (first | (with_reducible first | exact HB.out | apply below_alloc | apply pw_below_drewN | apply below_drew1 | refine below_set ?_ (IsS79.ge HI0.out)) | exact HB.out)) hb); clear HI0; clear HK; clear HB; have HO234 := n0_; have HI0 := n1_; have HK := n2_; have HB := n3_; clear n0_ n1_ n2_ n3_; clear hb ho6) | ((with_reducible refine gate_callee (f := 81) rfl ?_); refine goesL_ (some 13) rfl rfl Tryd.func81 (by kernel_rfl) rfl #[.pointer (some ⟨g, 0, none⟩), .int .i64 5] rfl (by (try simp only [List.map_toArray, List.map_cons, List.map_nil]); first | done | rfl | (simp only [List.length_drop, List.length_take]; rfl)) ?_; (with_reducible refine (spec_l6Rd_pick.calls k g s0_0 s0_1 5 t235 t236 w0 _ ?side1 ?side2 A3.out).mono ?_); (case side1 => repeat (first | (with_reducible first | exact HI0.out | apply IsS79.alloc | apply IsS79.drewN | apply IsS79.drew | apply IsS79.set_1) | exact HI0.out)); (case side2 => repeat (first | (with_reducible first | exact HB.out | apply below_alloc | apply pw_below_drewN | apply below_drew1 | refine below_set ?_ (IsS79.ge HI0.out)) | exact HB.out)); rintro e w7 ⟨rfl, hi, hb, hk⟩; refine ⟨_, rfl, ?_⟩; have n0_ := Aside0.mk (Kd.R_mono (Kd.R_keep (IsS79.apart (show IsS79 w0 _ g s0_0 s0_1 from by repeat (first | (with_reducible first | exact HI0.out | apply IsS79.alloc | apply IsS79.drewN | apply IsS79.drew | apply IsS79.set_1) | exact HI0.out)) (by (with_reducible repeat (first | apply Kd.R_alloc | apply Kd.R_drewN | apply Kd.R_drew)); exact HO234.out) (by decide)) hk (fun _ h => h.2)) (fun _ h => h.1)); have n1_ := Aside0.mk (KeepBut.trans (by repeat (first | (with_reducible first | exact HK.out | apply KeepBut.set_ | apply keep_drewN | apply keep_drew | apply keep_alloc) | exact HK.out)) hk (.inl rfl)); have n2_ := Aside0.mk (hb); have n3_ := Aside0.mk (hi); clear HO234; clear HK; clear HB; clear HI0; have HO234 := n0_; have HK := n1_; have HB := n2_; have HI0 := n3_; clear n0_ n1_ n2_ n3_; (try clear hb); (try clear hb2); (try clear hk); (try clear hi)) | ((with_reducible refine gate_callee (f := 81) rfl ?_); refine goesL_ (some 16) rfl rfl Tryd.func81 (by kernel_rfl) rfl #[.pointer (some ⟨g, 0, none⟩), .int .i64 4] rfl (by (try simp only [List.map_toArray, List.map_cons, List.map_nil]); first | done | rfl | (simp only [List.length_drop, List.length_take]; rfl)) ?_; (with_reducible refine (spec_l6Rd_pick.calls k g s0_0 t236 4 t237 t238 w0 _ ?side1 ?side2 A4.out).mono ?_); (case side1 => repeat (first | (with_reducible first | exact HI0.out | apply IsS79.alloc | apply IsS79.drewN | apply IsS79.drew | apply IsS79.set_1) | exact HI0.out)); (case side2 => repeat (first | (with_reducible first | exact HB.out | apply below_alloc | apply pw_below_drewN | apply below_drew1 | refine below_set ?_ (IsS79.ge HI0.out)) | exact HB.out)); rintro e w8 ⟨rfl, hi, hb, hk⟩; refine ⟨_, rfl, ?_⟩; have n0_ := Aside0.mk (Kd.R_mono (Kd.R_keep (IsS79.apart (show IsS79 w0 _ g s0_0 t236 from by repeat (first | (with_reducible first | exact HI0.out | apply IsS79.alloc | apply IsS79.drewN | apply IsS79.drew | apply IsS79.set_1) | exact HI0.out)) (by (with_reducible repeat (first | apply Kd.R_alloc | apply Kd.R_drewN | apply Kd.R_drew)); exact HO234.out) (by decide)) hk (fun _ h => h.2)) (fun _ h => h.1)); have n1_ := Aside0.mk (KeepBut.trans (by repeat (first | (with_reducible first | exact HK.out | apply KeepBut.set_ | apply keep_drewN | apply keep_drew | apply keep_alloc) | exact HK.out)) hk (.inl rfl)); have n2_ := Aside0.mk (hb); have n3_ := Aside0.mk (hi); clear HO234; clear HK; clear HB; clear HI0; have HO234 := n0_; have HK := n1_; have HB := n2_; have HI0 := n3_; clear n0_ n1_ n2_ n3_; (try clear hb); (try clear hb2); (try clear hk); (try clear hi)))
 go_loopg [5, 8] k (fun kq v5 v8 w' => ∃ (x5_1 : List ByteArray) (x8_1 : Int) (x1001_1 : Int), v8 = .int .i64 x8_1 ∧ Aside0 (spec_l92Books.l0 kq a1 x5_1 (wrap64 (1 + t235)) (wrap64 (1 + t237)) x8_1 s0_0 x1001_1 = some (r1, r2)) ∧ Aside0 (kq ≤ k) ∧ Aside0 (Kd.R Kd.string 9 w' w.heap.size (fun _ => True) v5 x5_1) ∧ Aside0 (IsS79 w0 w' g s0_0 x1001_1) ∧ Aside0 (KeepBut w w' g none) ∧ Aside0 (Below w0.heap.size w0 w'))
 case atStart => exact ⟨(y232), (0), (t238), (by first | rfl | (simp; done) | (simp [*]; done)), H', ⟨Nat.le_refl _⟩, ⟨by (with_reducible repeat (first | apply Kd.R_alloc | apply Kd.R_drewN | apply Kd.R_drew)); exact HO234.out⟩, ⟨by repeat (first | (with_reducible first | exact HI0.out | apply IsS79.alloc | apply IsS79.drewN | apply IsS79.drew | apply IsS79.set_1) | exact HI0.out)⟩, ⟨by repeat (first | (with_reducible first | exact HK.out | apply KeepBut.set_ | apply keep_drewN | apply keep_drew | apply keep_alloc) | exact HK.out)⟩, ⟨by repeat (first | (with_reducible first | exact HB.out | apply below_alloc | apply pw_below_drewN | apply below_drew1 | refine below_set ?_ (IsS79.ge HI0.out)) | exact HB.out)⟩⟩
 case round =>
  clear H'
  try clear p2
  try clear c6
  try clear p6
  try clear c8
  obtain ⟨x5_1, x8_1, x1001_1, rfl, HA, HK1, HO_5, HI0, HK, HB⟩ := hrel
  cases gk with
  | zero => exact absurd HA.out (by simp [spec_l92Books.l0])
  | succ k1 =>
   have H := HA.out
   clear HA
   simp only [spec_l92Books.l0] at H
   by_cases c9 : x8_1 < (wrap64 (1 + t235))
   rotate_left
   ·rw [if_neg c9] at H
    have c9b0 : decide (x8_1 < (wrap64 (1 + t235))) = false := decide_eq_false c9
    clear c9
    replace H := Option.bind_eq_some_iff.mp H
    obtain ⟨⟨t269, t270⟩, A620, H⟩ := H
    replace H : (if t269 = 0 then (if 0 < (x5_1.length : Int) then (if (rdOf ByteArray.empty x5_1 0).size + 1 ≤ 9223372036854775807 then (some ((x5_1.set (0 : Int).toNat ((rdOf ByteArray.empty x5_1 0) ++ (⟨#[97]⟩ : ByteArray))), t270)) else (none)) else (none)) else (if t269 = 1 then (if 0 ≤ (wrap64 ((wrap64 (1 + t235)) - 1)) then (if (wrap64 ((wrap64 (1 + t235)) - 1)) < (x5_1.length : Int) then (if 1 ≤ ((rdOf ByteArray.empty x5_1 (wrap64 ((wrap64 (1 + t235)) - 1))).size : Int) then (if 1 + ((rdOf ByteArray.empty x5_1 (wrap64 ((wrap64 (1 + t235)) - 1))).extract 1 (rdOf ByteArray.empty x5_1 (wrap64 ((wrap64 (1 + t235)) - 1))).size).size ≤ 9223372036854775807 then (some ((x5_1.set ((wrap64 ((wrap64 (1 + t235)) - 1)) : Int).toNat ((⟨#[101]⟩ : ByteArray) ++ ((rdOf ByteArray.empty x5_1 (wrap64 ((wrap64 (1 + t235)) - 1))).extract 1 (rdOf ByteArray.empty x5_1 (wrap64 ((wrap64 (1 + t235)) - 1))).size))), t270)) else (none)) else (none)) else (none)) else (none)) else (if t269 = 2 then (some ((([] : List ByteArray)), t270)) else (some (x5_1, t270))))) = some (r1, r2) := H
    have A62 := Aside0.mk A620
    clear A620
    by_cases c63 : t269 = 0
    ·rw [if_pos c63] at H
     have c63b0 : (t269 == 0) = true := beq_iff_eq.mpr c63
     have c63b1 : (t269 != 0) = false := bne_eq_false_iff_eq.mpr c63
     clear c63
     by_cases c64 : 0 < (x5_1.length : Int)
     rotate_left
     ·rw [if_neg c64] at H
      exact absurd H (by simp)
     rw [if_pos c64] at H
     have c64b0 : decide (0 < (x5_1.length : Int)) = true := decide_eq_true c64
     have c64b1 : decide (0 < x5_1.length) = true := decide_eq_true (by omega)
     clear c64
     by_cases c65 : (rdOf ByteArray.empty x5_1 0).size + 1 ≤ 9223372036854775807
     rotate_left
     ·rw [if_neg c65] at H
      exact absurd H (by simp)
     rw [if_pos c65] at H
     have c65b0 := eq_true c65
     have c65b1 : decide ((rdOf ByteArray.empty x5_1 0).size + 1 ≤ 9223372036854775807) = true := decide_eq_true c65
     try have c65b2 : (9223372036854775807 < (rdOf ByteArray.empty x5_1 0).size + 1) = False := eq_false (Nat.not_lt.2 c65)
     obtain ⟨y272, hy272⟩ : ∃ y_ : List ByteArray, y_ = (x5_1.set (0 : Int).toNat ((rdOf ByteArray.empty x5_1 0) ++ (⟨#[97]⟩ : ByteArray))) := ⟨_, rfl⟩
     replace H : (some (y272, t270)) = some (r1, r2) := by first | (rw [hy272]; with_reducible exact H) | (have H2_ := (Option.bind_some _ _).symm.trans H; rw [hy272]; with_reducible exact H2_) | (have H2_ := (Option.bind_some _ _).symm.trans H; with_reducible exact H2_) | with_reducible exact H | (rw [hy272]; exact H) | exact H
     have Ny272 := Aside0.mk hy272
     clear hy272
     simp only [Option.some.injEq, Prod.mk.injEq] at H
     obtain ⟨rfl, rfl⟩ := H
     go_wp2_with (first | ((with_reducible refine gate_callee (f := 81) rfl ?_); refine goesL_ (some 74) rfl rfl Tryd.func81 (by kernel_rfl) rfl #[.pointer (some ⟨g, 0, none⟩), .int .i64 40] rfl (by (try simp only [List.map_toArray, List.map_cons, List.map_nil]); first | done | rfl | (simp only [List.length_drop, List.length_take]; rfl)) ?_; (with_reducible refine (spec_l6Rd_pick.calls k1 g s0_0 x1001_1 40 t269 t270 w0 _ ?side1 ?side2 A62.out).mono ?_); (case side1 => repeat (first | (with_reducible first | exact HI0.out | apply IsS79.alloc | apply IsS79.drewN | apply IsS79.drew | apply IsS79.set_1) | exact HI0.out)); (case side2 => repeat (first | (with_reducible first | exact HB.out | apply below_alloc | apply pw_below_drewN | apply below_drew1 | refine below_set ?_ (IsS79.ge HI0.out)) | exact HB.out)); rintro e w67 ⟨rfl, hi, hb, hk⟩; refine ⟨_, rfl, ?_⟩; have n0_ := Aside0.mk (Kd.R_mono (Kd.R_keep (IsS79.apart (show IsS79 w0 _ g s0_0 x1001_1 from by repeat (first | (with_reducible first | exact HI0.out | apply IsS79.alloc | apply IsS79.drewN | apply IsS79.drew | apply IsS79.set_1) | exact HI0.out)) (by (with_reducible repeat (first | apply Kd.R_alloc | apply Kd.R_drewN | apply Kd.R_drew)); exact HO_5.out) (by decide)) hk (fun _ h => h.2)) (fun _ h => h.1)); have n1_ := Aside0.mk (KeepBut.trans (by repeat (first | (with_reducible first | exact HK.out | apply KeepBut.set_ | apply keep_drewN | apply keep_drew | apply keep_alloc) | exact HK.out)) hk (.inl rfl)); have n2_ := Aside0.mk (hb); have n3_ := Aside0.mk (hi); clear HO_5; clear HK; clear HB; clear HI0; have HO_5 := n0_; have HK := n1_; have HB := n2_; have HI0 := n3_; clear n0_ n1_ n2_ n3_; (try clear hb); (try clear hb2); (try clear hk); (try clear hi); obtain ⟨Ao68, co68, eo68⟩ := Kd.R_slice HO_5.out; subst eo68; have p271 : 0 ≤ (0 : Int) := (by omega); have q271 : 0 < (x5_1.length : Int) := of_decide_eq_true (by first | (with_reducible assumption) | assumption); obtain ⟨ad271, e271, hx271_0⟩ := Kd.at_string (Kd.R_reads' HO_5.out).2.2 0 p271 q271; cases e271; have qi271 : (0 < x5_1.length) = True := eq_true (by omega); (try rw [show ((0 : Int)).toNat = 0 from rfl] at hx271_0); (try rw [Addr.add_zero'] at hx271_0); replace p271 := eq_true p271; replace q271 := eq_true q271; have p66 : 0 ≤ (0 : Int) := (by omega); have q66 : (0 : Int) < ((x5_1.length : Int) : Int) := of_decide_eq_true (by first | (with_reducible assumption) | assumption); have qi66 : (0 < x5_1.length) = True := eq_true (by omega); obtain ⟨go66, co66, eo66, gb66, gl66, cl66, HG66⟩ := Kd.R_form HO_5.out (by omega); (first | cases eo66 | (injection eo66 with ea_ en_ ec_; (first | subst ea_ | (injection ea_ with ea_; subst ea_)); subst ec_; clear en_)); have GB66 := Aside0.mk gb66; have GG66 := Aside0.mk HG66; clear gb66 gl66 HG66; (first | simp only [add_plain] at hx271_0 | skip); obtain ⟨hx66_0, hf66_0⟩ := Kd.R_celln (⟨#[]⟩ : ByteArray) HO_5.out (0 : Int) p66 q66; (try rw [show ((0 : Int)).toNat = 0 from rfl] at hx66_0); (try simp only [Nat.reduceMul, Nat.zero_mul, Nat.zero_add, Nat.reduceAdd] at hx66_0); (try rw [show ((0 : Int)).toNat = 0 from rfl] at hf66_0); (try simp only [Nat.reduceMul, Nat.zero_mul, Nat.zero_add, Nat.reduceAdd] at hf66_0); replace p66 := eq_true p66; replace q66 := eq_true q66; obtain ⟨hy69_, hz69_⟩ := Kd.R_celln (⟨#[]⟩ : ByteArray) HO_5.out (0 : Int) (by omega) (of_decide_eq_true (by first | (with_reducible assumption) | assumption)); (try simp only [Int.reduceToNat, Int.toNat_zero, Int.toNat_ofNat, Nat.reduceMul, Nat.zero_mul, Nat.zero_add] at hy69_ hz69_); (try rw [show ((0 : Int)).toNat = 0 from rfl] at hy69_); (try rw [show ((0 : Int)).toNat = 0 from rfl] at hz69_); have HP69 := Kd.R_putg HO_5.out (0 : Int) ((rdOf ByteArray.empty x5_1 0) ++ (⟨#[97]⟩ : ByteArray))) | ((with_reducible refine gate_store (t := 9) (p := 82) rfl ?_); refine store_event (t := 9) (p := 82) (v := ?vo_w70) (w1 := (w67.setCell ⟨go66, (0 : Int).toNat, none⟩ (.string ((rdOf ByteArray.empty x5_1 0) ++ (⟨#[97]⟩ : ByteArray))))) ?hg ?ho ?hn ?hr ?_; (case ho => rfl); (case hg => rfl); (case hn => rfl); (case hr => first | (go_simp; done) | (go_simp; rfl)); intro w70 hw; have hg : w67.grownBy w70 (some go66) := (by rw [hw]; exact HP69.2); have hp_ : Kd.R Kd.string 9 w70 w.heap.size (fun _ => True) (.slice (some ⟨go66, 0, none⟩) x5_1.length co68) y272 := (by rw [hw, Ny272.out]; exact HP69.1); clear HP69; have n0_ := Aside0.mk (hp_); have n1_ := Aside0.mk (IsS79.grown (by repeat (first | (with_reducible first | exact HI0.out | apply IsS79.alloc | apply IsS79.drewN | apply IsS79.drew | apply IsS79.set_1) | exact HI0.out)) hg (IsS79.own_ne HI0.out HO_5.out (by decide))); have n2_ := Aside0.mk ((by rw [hw]; exact below_set (HB.out) (Nat.le_trans HL.out GB66.out) : Below w0.heap.size w0 w70)); have n3_ := Aside0.mk (KeepBut.trans (by repeat (first | (with_reducible first | exact HK.out | apply KeepBut.set_ | apply keep_drewN | apply keep_drew | apply keep_alloc) | exact HK.out)) (KeepBut.of_grown hg g) (Kd.R_base2 HO_5.out)); clear HO_5; clear HI0; clear HB; clear HK; have HO_5 := n0_; have HI0 := n1_; have HB := n2_; have HK := n3_; clear n0_ n1_ n2_ n3_; clear hg hw hp_))
     go_ret
     exact ⟨_, by first | rfl | (simp [errW_none, errW_some] <;> rfl) | (simp [*, errW_none, errW_some] <;> rfl), by (with_reducible repeat (first | apply Kd.R_alloc | apply Kd.R_drewN | apply Kd.R_drew)); exact HO_5.out, by repeat (first | (with_reducible first | exact HI0.out | apply IsS79.alloc | apply IsS79.drewN | apply IsS79.drew | apply IsS79.set_1) | exact HI0.out), by repeat (first | (with_reducible first | exact HB.out | apply below_alloc | apply pw_below_drewN | apply below_drew1 | refine below_set ?_ (IsS79.ge HI0.out)) | exact HB.out), by repeat (first | (with_reducible first | exact HK.out | apply KeepBut.set_ | apply keep_drewN | apply keep_drew | apply keep_alloc) | exact HK.out)⟩
    rw [if_neg c63] at H
    have c63b0 : (t269 == 0) = false := beq_eq_false_iff_ne.mpr c63
    have c63b1 : (t269 != 0) = true := bne_iff_ne.mpr c63
    by_cases c71 : t269 = 1
    rotate_left
    ·rw [if_neg c71] at H
     have c71b0 : (t269 == 1) = false := beq_eq_false_iff_ne.mpr c71
     have c71b1 : (t269 != 1) = true := bne_iff_ne.mpr c71
     by_cases c82 : t269 = 2
     rotate_left
     ·rw [if_neg c82] at H
      have c82b0 : (t269 == 2) = false := beq_eq_false_iff_ne.mpr c82
      have c82b1 : (t269 != 2) = true := bne_iff_ne.mpr c82
      simp only [Option.some.injEq, Prod.mk.injEq] at H
      obtain ⟨rfl, rfl⟩ := H
      go_wp2_with (first | ((with_reducible refine gate_callee (f := 81) rfl ?_); refine goesL_ (some 74) rfl rfl Tryd.func81 (by kernel_rfl) rfl #[.pointer (some ⟨g, 0, none⟩), .int .i64 40] rfl (by (try simp only [List.map_toArray, List.map_cons, List.map_nil]); first | done | rfl | (simp only [List.length_drop, List.length_take]; rfl)) ?_; (with_reducible refine (spec_l6Rd_pick.calls k1 g s0_0 x1001_1 40 t269 t270 w0 _ ?side1 ?side2 A62.out).mono ?_); (case side1 => repeat (first | (with_reducible first | exact HI0.out | apply IsS79.alloc | apply IsS79.drewN | apply IsS79.drew | apply IsS79.set_1) | exact HI0.out)); (case side2 => repeat (first | (with_reducible first | exact HB.out | apply below_alloc | apply pw_below_drewN | apply below_drew1 | refine below_set ?_ (IsS79.ge HI0.out)) | exact HB.out)); rintro e w86 ⟨rfl, hi, hb, hk⟩; refine ⟨_, rfl, ?_⟩; have n0_ := Aside0.mk (Kd.R_mono (Kd.R_keep (IsS79.apart (show IsS79 w0 _ g s0_0 x1001_1 from by repeat (first | (with_reducible first | exact HI0.out | apply IsS79.alloc | apply IsS79.drewN | apply IsS79.drew | apply IsS79.set_1) | exact HI0.out)) (by (with_reducible repeat (first | apply Kd.R_alloc | apply Kd.R_drewN | apply Kd.R_drew)); exact HO_5.out) (by decide)) hk (fun _ h => h.2)) (fun _ h => h.1)); have n1_ := Aside0.mk (KeepBut.trans (by repeat (first | (with_reducible first | exact HK.out | apply KeepBut.set_ | apply keep_drewN | apply keep_drew | apply keep_alloc) | exact HK.out)) hk (.inl rfl)); have n2_ := Aside0.mk (hb); have n3_ := Aside0.mk (hi); clear HO_5; clear HK; clear HB; clear HI0; have HO_5 := n0_; have HK := n1_; have HB := n2_; have HI0 := n3_; clear n0_ n1_ n2_ n3_; (try clear hb); (try clear hb2); (try clear hk); (try clear hi)))
      go_ret
      exact ⟨_, by first | rfl | (simp [errW_none, errW_some] <;> rfl) | (simp [*, errW_none, errW_some] <;> rfl), by (with_reducible repeat (first | apply Kd.R_alloc | apply Kd.R_drewN | apply Kd.R_drew)); exact HO_5.out, by repeat (first | (with_reducible first | exact HI0.out | apply IsS79.alloc | apply IsS79.drewN | apply IsS79.drew | apply IsS79.set_1) | exact HI0.out), by repeat (first | (with_reducible first | exact HB.out | apply below_alloc | apply pw_below_drewN | apply below_drew1 | refine below_set ?_ (IsS79.ge HI0.out)) | exact HB.out), by repeat (first | (with_reducible first | exact HK.out | apply KeepBut.set_ | apply keep_drewN | apply keep_drew | apply keep_alloc) | exact HK.out)⟩
     rw [if_pos c82] at H
     have c82b0 : (t269 == 2) = true := beq_iff_eq.mpr c82
     have c82b1 : (t269 != 2) = false := bne_eq_false_iff_eq.mpr c82
     clear c82
     obtain ⟨y275, hy275⟩ : ∃ y_ : List ByteArray, y_ = (([] : List ByteArray)) := ⟨_, rfl⟩
     replace H : (some (y275, t270)) = some (r1, r2) := by first | (rw [hy275]; with_reducible exact H) | (have H2_ := (Option.bind_some _ _).symm.trans H; rw [hy275]; with_reducible exact H2_) | (have H2_ := (Option.bind_some _ _).symm.trans H; with_reducible exact H2_) | with_reducible exact H | (rw [hy275]; exact H) | exact H
     have Ny275 := Aside0.mk hy275
     clear hy275
     simp only [Option.some.injEq, Prod.mk.injEq] at H
     obtain ⟨rfl, rfl⟩ := H
     go_wp2_with (first | ((with_reducible refine gate_callee (f := 81) rfl ?_); refine goesL_ (some 74) rfl rfl Tryd.func81 (by kernel_rfl) rfl #[.pointer (some ⟨g, 0, none⟩), .int .i64 40] rfl (by (try simp only [List.map_toArray, List.map_cons, List.map_nil]); first | done | rfl | (simp only [List.length_drop, List.length_take]; rfl)) ?_; (with_reducible refine (spec_l6Rd_pick.calls k1 g s0_0 x1001_1 40 t269 t270 w0 _ ?side1 ?side2 A62.out).mono ?_); (case side1 => repeat (first | (with_reducible first | exact HI0.out | apply IsS79.alloc | apply IsS79.drewN | apply IsS79.drew | apply IsS79.set_1) | exact HI0.out)); (case side2 => repeat (first | (with_reducible first | exact HB.out | apply below_alloc | apply pw_below_drewN | apply below_drew1 | refine below_set ?_ (IsS79.ge HI0.out)) | exact HB.out)); rintro e w83 ⟨rfl, hi, hb, hk⟩; refine ⟨_, rfl, ?_⟩; have n0_ := Aside0.mk (Kd.R_mono (Kd.R_keep (IsS79.apart (show IsS79 w0 _ g s0_0 x1001_1 from by repeat (first | (with_reducible first | exact HI0.out | apply IsS79.alloc | apply IsS79.drewN | apply IsS79.drew | apply IsS79.set_1) | exact HI0.out)) (by (with_reducible repeat (first | apply Kd.R_alloc | apply Kd.R_drewN | apply Kd.R_drew)); exact HO_5.out) (by decide)) hk (fun _ h => h.2)) (fun _ h => h.1)); have n1_ := Aside0.mk (KeepBut.trans (by repeat (first | (with_reducible first | exact HK.out | apply KeepBut.set_ | apply keep_drewN | apply keep_drew | apply keep_alloc) | exact HK.out)) hk (.inl rfl)); have n2_ := Aside0.mk (hb); have n3_ := Aside0.mk (hi); clear HO_5; clear HK; clear HB; clear HI0; have HO_5 := n0_; have HK := n1_; have HB := n2_; have HI0 := n3_; clear n0_ n1_ n2_ n3_; (try clear hb); (try clear hb2); (try clear hk); (try clear hi)) | ((with_reducible refine gate_dst (N := 98) rfl ?_); refine Kd.R_lit Kd.string _ 9 ?hg (N := 98) ?hd (xs := ([] : List ByteArray)) (inner := []) (ok := fun _ => True) (okp := fun _ => True) ?hr ?hp (fun _ hk => hk) trivial (Below.refl _ _) (Nat.le_refl _) (by simp) ?_; (case hd => rfl); (case hg => rfl); (case hr => first | (go_simp; done) | (go_simp; rfl)); (case hp => exact (Reps.none _ _)); intro v276 w84 ho85 hb hg_ hnew_; clear hg_ hnew_; (first | rw [← Ny275.out] at ho85 | (simp only [Int.reduceToNat] at ho85; rw [← Ny275.out] at ho85)); have n0_ := Aside0.mk (Kd.R_elder' (by (with_reducible repeat (first | apply Kd.R_alloc | apply Kd.R_drewN | apply Kd.R_drew)); exact HO_5.out) (Kd.R_base ho85) hb); have n1_ := Aside0.mk (Kd.R_lower (Kd.R_new' ho85 (Kd.R_lt (by (with_reducible repeat (first | apply Kd.R_alloc | apply Kd.R_drewN | apply Kd.R_drew)); exact HO_5.out))) (keep_size (w := w) (g := g) (row := none) (by repeat (first | (with_reducible first | exact HK.out | apply KeepBut.set_ | apply keep_drewN | apply keep_drew | apply keep_alloc) | exact HK.out)))); have n2_ := Aside0.mk (IsS79.below (by repeat (first | (with_reducible first | exact HI0.out | apply IsS79.alloc | apply IsS79.drewN | apply IsS79.drew | apply IsS79.set_1) | exact HI0.out)) hb); have n3_ := Aside0.mk (KeepBut.trans (by repeat (first | (with_reducible first | exact HK.out | apply KeepBut.set_ | apply keep_drewN | apply keep_drew | apply keep_alloc) | exact HK.out)) (KeepBut.of_below hb g none) (.inl rfl)); have n4_ := Aside0.mk (below_step (by repeat (first | (with_reducible first | exact HB.out | apply below_alloc | apply pw_below_drewN | apply below_drew1 | refine below_set ?_ (IsS79.ge HI0.out)) | exact HB.out)) hb); clear HO_5; clear HI0; clear HK; clear HB; have HO_5 := n0_; have HO277 := n1_; have HI0 := n2_; have HK := n3_; have HB := n4_; clear n0_ n1_ n2_ n3_ n4_; clear hb ho85))
     go_ret
     exact ⟨_, by first | rfl | (simp [errW_none, errW_some] <;> rfl) | (simp [*, errW_none, errW_some] <;> rfl), by (with_reducible repeat (first | apply Kd.R_alloc | apply Kd.R_drewN | apply Kd.R_drew)); exact Kd.R_mono HO277.out (fun _ hk => trivial), by repeat (first | (with_reducible first | exact HI0.out | apply IsS79.alloc | apply IsS79.drewN | apply IsS79.drew | apply IsS79.set_1) | exact HI0.out), by repeat (first | (with_reducible first | exact HB.out | apply below_alloc | apply pw_below_drewN | apply below_drew1 | refine below_set ?_ (IsS79.ge HI0.out)) | exact HB.out), by repeat (first | (with_reducible first | exact HK.out | apply KeepBut.set_ | apply keep_drewN | apply keep_drew | apply keep_alloc) | exact HK.out)⟩
    rw [if_pos c71] at H
    have c71b0 : (t269 == 1) = true := beq_iff_eq.mpr c71
    have c71b1 : (t269 != 1) = false := bne_eq_false_iff_eq.mpr c71
    clear c71
    obtain ⟨ji72, hji72⟩ : ∃ j_ : Int, (wrap64 ((wrap64 (1 + t235)) - 1)) = j_ := ⟨_, rfl⟩
    replace H : (if 0 ≤ (ji72) then (if (ji72) < (x5_1.length : Int) then (if 1 ≤ ((rdOf ByteArray.empty x5_1 (ji72)).size : Int) then (if 1 + ((rdOf ByteArray.empty x5_1 (ji72)).extract 1 (rdOf ByteArray.empty x5_1 (ji72)).size).size ≤ 9223372036854775807 then (some ((x5_1.set ((ji72) : Int).toNat ((⟨#[101]⟩ : ByteArray) ++ ((rdOf ByteArray.empty x5_1 (ji72)).extract 1 (rdOf ByteArray.empty x5_1 (ji72)).size))), t270)) else (none)) else (none)) else (none)) else (none)) = some (r1, r2) := by first | (rw [hji72] at H; exact H) | (simp only [hji72] at H ⊢; exact H)
    (try rw [hji72] at A62)
    have hji72w : (IntKind.i64.wrap ((wrap64 (1 + t235)) - 1)) = ji72 := (i64_w _).trans hji72
    by_cases c73 : 0 ≤ (ji72)
    rotate_left
    ·rw [if_neg c73] at H
     exact absurd H (by simp)
    rw [if_pos c73] at H
    have c73b0 : decide (0 ≤ (ji72)) = true := decide_eq_true c73
    clear c73
    by_cases c74 : (ji72) < (x5_1.length : Int)
    rotate_left
    ·rw [if_neg c74] at H
     exact absurd H (by simp)
    rw [if_pos c74] at H
    have c74b0 : decide ((ji72) < (x5_1.length : Int)) = true := decide_eq_true c74
    clear c74
    by_cases c75 : 1 ≤ ((rdOf ByteArray.empty x5_1 (ji72)).size : Int)
    rotate_left
    ·rw [if_neg c75] at H
     exact absurd H (by simp)
    rw [if_pos c75] at H
    have c75b0 := eq_true c75
    have c75b1 : decide (1 ≤ ((rdOf ByteArray.empty x5_1 (ji72)).size : Int)) = true := decide_eq_true c75
    clear c75
    by_cases c76 : 1 + ((rdOf ByteArray.empty x5_1 (ji72)).extract 1 (rdOf ByteArray.empty x5_1 (ji72)).size).size ≤ 9223372036854775807
    rotate_left
    ·rw [if_neg c76] at H
     exact absurd H (by simp)
    rw [if_pos c76] at H
    have c76b0 := eq_true c76
    have c76b1 : decide (1 + ((rdOf ByteArray.empty x5_1 (ji72)).extract 1 (rdOf ByteArray.empty x5_1 (ji72)).size).size ≤ 9223372036854775807) = true := decide_eq_true c76
    try have c76b2 : (9223372036854775807 < 1 + ((rdOf ByteArray.empty x5_1 (ji72)).extract 1 (rdOf ByteArray.empty x5_1 (ji72)).size).size) = False := eq_false (Nat.not_lt.2 c76)
    try have c76b2c := c76b2
    (try simp only [ByteArray.size_extract, Nat.min_self] at c76b2c)
    obtain ⟨y274, hy274⟩ : ∃ y_ : List ByteArray, y_ = (x5_1.set ((ji72) : Int).toNat ((⟨#[101]⟩ : ByteArray) ++ ((rdOf ByteArray.empty x5_1 (ji72)).extract 1 (rdOf ByteArray.empty x5_1 (ji72)).size))) := ⟨_, rfl⟩
    replace H : (some (y274, t270)) = some (r1, r2) := by first | (rw [hy274]; with_reducible exact H) | (have H2_ := (Option.bind_some _ _).symm.trans H; rw [hy274]; with_reducible exact H2_) | (have H2_ := (Option.bind_some _ _).symm.trans H; with_reducible exact H2_) | with_reducible exact H | (rw [hy274]; exact H) | exact H
    have Ny274 := Aside0.mk hy274
    clear hy274
    simp only [Option.some.injEq, Prod.mk.injEq] at H
    obtain ⟨rfl, rfl⟩ := H
    go_wp2_with (first | ((with_reducible refine gate_callee (f := 81) rfl ?_); refine goesL_ (some 74) rfl rfl Tryd.func81 (by kernel_rfl) rfl #[.pointer (some ⟨g, 0, none⟩), .int .i64 40] rfl (by (try simp only [List.map_toArray, List.map_cons, List.map_nil]); first | done | rfl | (simp only [List.length_drop, List.length_take]; rfl)) ?_; (with_reducible refine (spec_l6Rd_pick.calls k1 g s0_0 x1001_1 40 t269 t270 w0 _ ?side1 ?side2 A62.out).mono ?_); (case side1 => repeat (first | (with_reducible first | exact HI0.out | apply IsS79.alloc | apply IsS79.drewN | apply IsS79.drew | apply IsS79.set_1) | exact HI0.out)); (case side2 => repeat (first | (with_reducible first | exact HB.out | apply below_alloc | apply pw_below_drewN | apply below_drew1 | refine below_set ?_ (IsS79.ge HI0.out)) | exact HB.out)); rintro e w78 ⟨rfl, hi, hb, hk⟩; refine ⟨_, rfl, ?_⟩; have n0_ := Aside0.mk (Kd.R_mono (Kd.R_keep (IsS79.apart (show IsS79 w0 _ g s0_0 x1001_1 from by repeat (first | (with_reducible first | exact HI0.out | apply IsS79.alloc | apply IsS79.drewN | apply IsS79.drew | apply IsS79.set_1) | exact HI0.out)) (by (with_reducible repeat (first | apply Kd.R_alloc | apply Kd.R_drewN | apply Kd.R_drew)); exact HO_5.out) (by decide)) hk (fun _ h => h.2)) (fun _ h => h.1)); have n1_ := Aside0.mk (KeepBut.trans (by repeat (first | (with_reducible first | exact HK.out | apply KeepBut.set_ | apply keep_drewN | apply keep_drew | apply keep_alloc) | exact HK.out)) hk (.inl rfl)); have n2_ := Aside0.mk (hb); have n3_ := Aside0.mk (hi); clear HO_5; clear HK; clear HB; clear HI0; have HO_5 := n0_; have HK := n1_; have HB := n2_; have HI0 := n3_; clear n0_ n1_ n2_ n3_; (try clear hb); (try clear hb2); (try clear hk); (try clear hi); obtain ⟨Ao79, co79, eo79⟩ := Kd.R_slice HO_5.out; subst eo79; have p273 : 0 ≤ ((ji72) : Int) := of_decide_eq_true (by first | (with_reducible assumption) | assumption); have q273 : (ji72) < (x5_1.length : Int) := of_decide_eq_true (by first | (with_reducible assumption) | assumption); obtain ⟨ad273, e273, hx273_0⟩ := Kd.at_string (Kd.R_reads' HO_5.out).2.2 (ji72) p273 q273; cases e273; replace p273 := eq_true p273; replace q273 := eq_true q273; have p77 : 0 ≤ ((ji72) : Int) := of_decide_eq_true (by first | (with_reducible assumption) | assumption); have q77 : ((ji72) : Int) < ((x5_1.length : Int) : Int) := of_decide_eq_true (by first | (with_reducible assumption) | assumption); obtain ⟨go77, co77, eo77, gb77, gl77, cl77, HG77⟩ := Kd.R_form HO_5.out (by omega); (first | cases eo77 | (injection eo77 with ea_ en_ ec_; (first | subst ea_ | (injection ea_ with ea_; subst ea_)); subst ec_; clear en_)); have GB77 := Aside0.mk gb77; have GG77 := Aside0.mk HG77; clear gb77 gl77 HG77; (first | simp only [add_plain] at hx273_0 | skip); obtain ⟨hx77_0, hf77_0⟩ := Kd.R_celln (⟨#[]⟩ : ByteArray) HO_5.out ((ji72) : Int) p77 q77; replace p77 := eq_true p77; replace q77 := eq_true q77; obtain ⟨hy80_, hz80_⟩ := Kd.R_celln (⟨#[]⟩ : ByteArray) HO_5.out ((ji72) : Int) (of_decide_eq_true (by first | (with_reducible assumption) | assumption)) (of_decide_eq_true (by first | (with_reducible assumption) | assumption)); have HP80 := Kd.R_putg HO_5.out ((ji72) : Int) ((⟨#[101]⟩ : ByteArray) ++ ((rdOf ByteArray.empty x5_1 (ji72)).extract 1 (rdOf ByteArray.empty x5_1 (ji72)).size))) | ((with_reducible refine gate_store (t := 9) (p := 95) rfl ?_); refine store_event (t := 9) (p := 95) (v := ?vo_w81) (w1 := (w78.setCell ⟨go77, ((ji72) : Int).toNat, none⟩ (.string ((⟨#[101]⟩ : ByteArray) ++ ((rdOf ByteArray.empty x5_1 (ji72)).extract 1 (rdOf ByteArray.empty x5_1 (ji72)).size))))) ?hg ?ho ?hn ?hr ?_; (case ho => rfl); (case hg => rfl); (case hn => rfl); (case hr => first | (go_simp; done) | (go_simp; rfl)); intro w81 hw; have hg : w78.grownBy w81 (some go77) := (by rw [hw]; exact HP80.2); have hp_ : Kd.R Kd.string 9 w81 w.heap.size (fun _ => True) (.slice (some ⟨go77, 0, none⟩) x5_1.length co79) y274 := (by rw [hw, Ny274.out]; exact HP80.1); clear HP80; have n0_ := Aside0.mk (hp_); have n1_ := Aside0.mk (IsS79.grown (by repeat (first | (with_reducible first | exact HI0.out | apply IsS79.alloc | apply IsS79.drewN | apply IsS79.drew | apply IsS79.set_1) | exact HI0.out)) hg (IsS79.own_ne HI0.out HO_5.out (by decide))); have n2_ := Aside0.mk ((by rw [hw]; exact below_set (HB.out) (Nat.le_trans HL.out GB77.out) : Below w0.heap.size w0 w81)); have n3_ := Aside0.mk (KeepBut.trans (by repeat (first | (with_reducible first | exact HK.out | apply KeepBut.set_ | apply keep_drewN | apply keep_drew | apply keep_alloc) | exact HK.out)) (KeepBut.of_grown hg g) (Kd.R_base2 HO_5.out)); clear HO_5; clear HI0; clear HB; clear HK; have HO_5 := n0_; have HI0 := n1_; have HB := n2_; have HK := n3_; clear n0_ n1_ n2_ n3_; clear hg hw hp_))
    go_ret
    exact ⟨_, by first | rfl | (simp [errW_none, errW_some] <;> rfl) | (simp only [← hji72]; first | rfl | (simp [errW_none, errW_some] <;> rfl)) | (simp [*, errW_none, errW_some] <;> rfl), by (with_reducible repeat (first | apply Kd.R_alloc | apply Kd.R_drewN | apply Kd.R_drew)); exact HO_5.out, by repeat (first | (with_reducible first | exact HI0.out | apply IsS79.alloc | apply IsS79.drewN | apply IsS79.drew | apply IsS79.set_1) | exact HI0.out), by repeat (first | (with_reducible first | exact HB.out | apply below_alloc | apply pw_below_drewN | apply below_drew1 | refine below_set ?_ (IsS79.ge HI0.out)) | exact HB.out), by repeat (first | (with_reducible first | exact HK.out | apply KeepBut.set_ | apply keep_drewN | apply keep_drew | apply keep_alloc) | exact HK.out)⟩
   rw [if_pos c9] at H
   have c9b0 : decide (x8_1 < (wrap64 (1 + t235))) = true := decide_eq_true c9
   clear c9
   have H' := Aside0.mk H
   clear H
   go_wp2
   go_loopg [9, 10] k1 (fun kq v9 v10 w' => ∃ (x9_2 : ByteArray) (x10_2 : Int) (x1001_2 : Int), v9 = .string x9_2 ∧ v10 = .int .i64 x10_2 ∧ Aside0 (spec_l92Books.l1 kq a1 x5_1 (wrap64 (1 + t235)) (wrap64 (1 + t237)) x8_1 x9_2 x10_2 s0_0 x1001_2 = some (r1, r2)) ∧ Aside0 (kq ≤ k1) ∧ Aside0 (Kd.R Kd.string 9 w' w.heap.size (fun _ => True) u5 x5_1) ∧ Aside0 (IsS79 w0 w' g s0_0 x1001_2) ∧ Aside0 (KeepBut w w' g none) ∧ Aside0 (Below w0.heap.size w0 w'))
   case atStart => exact ⟨((⟨#[]⟩ : ByteArray)), (0), (x1001_1), (by first | rfl | (simp; done) | (simp [*]; done)), (by first | rfl | (simp; done) | (simp [*]; done)), H', ⟨Nat.le_refl _⟩, ⟨by (with_reducible repeat (first | apply Kd.R_alloc | apply Kd.R_drewN | apply Kd.R_drew)); exact HO_5.out⟩, ⟨by repeat (first | (with_reducible first | exact HI0.out | apply IsS79.alloc | apply IsS79.drewN | apply IsS79.drew | apply IsS79.set_1) | exact HI0.out)⟩, ⟨by repeat (first | (with_reducible first | exact HK.out | apply KeepBut.set_ | apply keep_drewN | apply keep_drew | apply keep_alloc) | exact HK.out)⟩, ⟨by repeat (first | (with_reducible first | exact HB.out | apply below_alloc | apply pw_below_drewN | apply below_drew1 | refine below_set ?_ (IsS79.ge HI0.out)) | exact HB.out)⟩⟩
   case round =>
    clear H'
    try clear p2
    try clear c6
    try clear p6
    try clear c8
    try clear c9
    try clear c9b0
    try clear p2
    try clear p6
    obtain ⟨x9_2, x10_2, x1001_2, rfl, rfl, HA, HK2, HO_5, HI0, HK, HB⟩ := hrel
    cases gk with
    | zero => exact absurd HA.out (by simp [spec_l92Books.l1])
    | succ k2 =>
     have H := HA.out
     clear HA
     simp only [spec_l92Books.l1] at H
     by_cases c10 : x10_2 < (wrap64 (1 + t237))
     rotate_left
     ·rw [if_neg c10] at H
      have c10b0 : decide (x10_2 < (wrap64 (1 + t237))) = false := decide_eq_false c10
      clear c10
      by_cases c48 : a1 = true
      rotate_left
      ·replace c48 := Bool.eq_false_iff.mpr c48
       subst c48
       have H1 : (if x5_1.length < 8796093022208 then (spec_l92Books.l0 k2 false (x5_1 ++ [x9_2]) (wrap64 (1 + t235)) (wrap64 (1 + t237)) (wrap64 (x8_1 + 1)) s0_0 x1001_2) else (none)) = some (r1, r2) := by rw [if_neg (show ¬ (false = true) by decide)] at H; exact H
       clear H
       have H := H1
       clear H1
       by_cases c60 : x5_1.length < 8796093022208
       rotate_left
       ·rw [if_neg c60] at H
        exact absurd H (by simp)
       rw [if_pos c60] at H
       have LMc60 := Aside0.mk c60
       clear c60
       obtain ⟨y247, hy247⟩ : ∃ y_ : List ByteArray, y_ = (x5_1 ++ [x9_2]) := ⟨_, rfl⟩
       replace H : (spec_l92Books.l0 k2 false y247 (wrap64 (1 + t235)) (wrap64 (1 + t237)) (wrap64 (x8_1 + 1)) s0_0 x1001_2) = some (r1, r2) := by first | (rw [hy247]; with_reducible exact H) | (have H2_ := (Option.bind_some _ _).symm.trans H; rw [hy247]; with_reducible exact H2_) | (have H2_ := (Option.bind_some _ _).symm.trans H; with_reducible exact H2_) | with_reducible exact H | (rw [hy247]; exact H) | exact H
       have Ny247 := Aside0.mk hy247
       clear hy247
       have H' := Aside0.mk H
       clear H
       go_wp2_with (first | ((with_reducible refine gate_builtin (b := .append) (xs := #[.tmp 69, .tmp 71]) rfl ?_); at_builtin; refine Kd.R_append Kd.string w.heap.size rfl (.tmp 69) (.tmp 71) 22 9 (.string ⟨#[]⟩) 16 rfl Tryd.underlying22 info9 rfl (by decide) (by omega) u5 x5_1 x9_2 [.string x9_2] (fun _ => True) (fun _ => False) rfl rfl ?aP (fun _ hk => hk.elim) ?aF ?aO (Below.refl _ _) ?aS ?aL ?_; (case aP => exact rfl); (case aF => exact (fun _ _ => trivial)); (case aO => exact (by (with_reducible repeat (first | apply Kd.R_alloc | apply Kd.R_drewN | apply Kd.R_drew)); exact HO_5.out)); (case aS => exact (keep_size (w := w) (g := g) (row := none) (by repeat (first | (with_reducible first | exact HK.out | apply KeepBut.set_ | apply keep_drewN | apply keep_drew | apply keep_alloc) | exact HK.out)))); (case aL => have := LMc60.out; omega); intro v248 w61 ho hb hg hat; rw [← Ny247.out] at ho; have n0_ := Aside0.mk (IsS79.grown (by repeat (first | (with_reducible first | exact HI0.out | apply IsS79.alloc | apply IsS79.drewN | apply IsS79.drew | apply IsS79.set_1) | exact HI0.out)) hg (IsS79.own_ne HI0.out HO_5.out (by decide))); have n1_ := Aside0.mk (below_weaken (by repeat (first | (with_reducible first | exact HB.out | apply below_alloc | apply pw_below_drewN | apply below_drew1 | refine below_set ?_ (IsS79.ge HI0.out)) | exact HB.out)) HL.out hb); have n2_ := Aside0.mk (KeepBut.trans (by repeat (first | (with_reducible first | exact HK.out | apply KeepBut.set_ | apply keep_drewN | apply keep_drew | apply keep_alloc) | exact HK.out)) (KeepBut.of_grown hg g) (Kd.R_base2 HO_5.out)); have n3_ := Aside0.mk (ho); clear HI0; clear HB; clear HK; clear HO_5; have HI0 := n0_; have HB := n1_; have HK := n2_; have HO249 := n3_; clear n0_ n1_ n2_ n3_; clear ho hb hg hat))
       first | go_roundg k2 | ((try simp only [← hji72] at H' ⊢); go_roundg k2)
       case measure => have := HK1.out; have := HK2.out; omega
       case rel => exact ⟨(y247), (wrap64 (x8_1 + 1)), (x1001_2), (by first | rfl | (simp; done) | (simp [*]; done)), H', ⟨by have := HK1.out; have := HK2.out; omega⟩, ⟨by (with_reducible repeat (first | apply Kd.R_alloc | apply Kd.R_drewN | apply Kd.R_drew)); exact HO249.out⟩, ⟨by repeat (first | (with_reducible first | exact HI0.out | apply IsS79.alloc | apply IsS79.drewN | apply IsS79.drew | apply IsS79.set_1) | exact HI0.out)⟩, ⟨by repeat (first | (with_reducible first | exact HK.out | apply KeepBut.set_ | apply keep_drewN | apply keep_drew | apply keep_alloc) | exact HK.out)⟩, ⟨by repeat (first | (with_reducible first | exact HB.out | apply below_alloc | apply pw_below_drewN | apply below_drew1 | refine below_set ?_ (IsS79.ge HI0.out)) | exact HB.out)⟩⟩
      subst c48
      have H1 : ((spec_l6Rd_pick.f k2 s0_0 x1001_2 3).bind fun bt239 => (if bt239.1 = 0 then (if 0 ≤ (wrap64 (1 + t237)) then (if (wrap64 (1 + t237)) ≤ 4 then (if x5_1.length < 8796093022208 then (spec_l92Books.l0 k2 true (x5_1 ++ [(⟨#[63, 63, 63, 63]⟩ : ByteArray).extract 0 ((wrap64 (1 + t237)) : Int).toNat]) (wrap64 (1 + t235)) (wrap64 (1 + t237)) (wrap64 (x8_1 + 1)) s0_0 bt239.2) else (none)) else (none)) else (none)) else (if x5_1.length < 8796093022208 then (spec_l92Books.l0 k2 true (x5_1 ++ [x9_2]) (wrap64 (1 + t235)) (wrap64 (1 + t237)) (wrap64 (x8_1 + 1)) s0_0 bt239.2) else (none)))) = some (r1, r2) := by rw [if_pos rfl] at H; exact H
      clear H
      have H := H1
      clear H1
      replace H := Option.bind_eq_some_iff.mp H
      obtain ⟨⟨t239, t240⟩, A490, H⟩ := H
      replace H : (if t239 = 0 then (if 0 ≤ (wrap64 (1 + t237)) then (if (wrap64 (1 + t237)) ≤ 4 then (if x5_1.length < 8796093022208 then (spec_l92Books.l0 k2 true (x5_1 ++ [(⟨#[63, 63, 63, 63]⟩ : ByteArray).extract 0 ((wrap64 (1 + t237)) : Int).toNat]) (wrap64 (1 + t235)) (wrap64 (1 + t237)) (wrap64 (x8_1 + 1)) s0_0 t240) else (none)) else (none)) else (none)) else (if x5_1.length < 8796093022208 then (spec_l92Books.l0 k2 true (x5_1 ++ [x9_2]) (wrap64 (1 + t235)) (wrap64 (1 + t237)) (wrap64 (x8_1 + 1)) s0_0 t240) else (none))) = some (r1, r2) := H
      have A49 := Aside0.mk A490
      clear A490
      by_cases c50 : t239 = 0
      rotate_left
      ·rw [if_neg c50] at H
       have c50b0 : (t239 == 0) = false := beq_eq_false_iff_ne.mpr c50
       have c50b1 : (t239 != 0) = true := bne_iff_ne.mpr c50
       by_cases c57 : x5_1.length < 8796093022208
       rotate_left
       ·rw [if_neg c57] at H
        exact absurd H (by simp)
       rw [if_pos c57] at H
       have LMc57 := Aside0.mk c57
       clear c57
       obtain ⟨y244, hy244⟩ : ∃ y_ : List ByteArray, y_ = (x5_1 ++ [x9_2]) := ⟨_, rfl⟩
       replace H : (spec_l92Books.l0 k2 true y244 (wrap64 (1 + t235)) (wrap64 (1 + t237)) (wrap64 (x8_1 + 1)) s0_0 t240) = some (r1, r2) := by first | (rw [hy244]; with_reducible exact H) | (have H2_ := (Option.bind_some _ _).symm.trans H; rw [hy244]; with_reducible exact H2_) | (have H2_ := (Option.bind_some _ _).symm.trans H; with_reducible exact H2_) | with_reducible exact H | (rw [hy244]; exact H) | exact H
       have Ny244 := Aside0.mk hy244
       clear hy244
       have H' := Aside0.mk H
       clear H
       go_wp2_with (first | (go_at_call 81; (with_reducible refine (spec_l6Rd_pick.calls k2 g s0_0 x1001_2 3 t239 t240 w0 _ ?side1 ?side2 A49.out).mono ?_); (case side1 => repeat (first | (with_reducible first | exact HI0.out | apply IsS79.alloc | apply IsS79.drewN | apply IsS79.drew | apply IsS79.set_1) | exact HI0.out)); (case side2 => repeat (first | (with_reducible first | exact HB.out | apply below_alloc | apply pw_below_drewN | apply below_drew1 | refine below_set ?_ (IsS79.ge HI0.out)) | exact HB.out)); rintro e w58 ⟨rfl, hi, hb, hk⟩; have n0_ := Aside0.mk (Kd.R_mono (Kd.R_keep (IsS79.apart (show IsS79 w0 _ g s0_0 x1001_2 from by repeat (first | (with_reducible first | exact HI0.out | apply IsS79.alloc | apply IsS79.drewN | apply IsS79.drew | apply IsS79.set_1) | exact HI0.out)) (by (with_reducible repeat (first | apply Kd.R_alloc | apply Kd.R_drewN | apply Kd.R_drew)); exact HO_5.out) (by decide)) hk (fun _ h => h.2)) (fun _ h => h.1)); have n1_ := Aside0.mk (KeepBut.trans (by repeat (first | (with_reducible first | exact HK.out | apply KeepBut.set_ | apply keep_drewN | apply keep_drew | apply keep_alloc) | exact HK.out)) hk (.inl rfl)); have n2_ := Aside0.mk (hb); have n3_ := Aside0.mk (hi); clear HO_5; clear HK; clear HB; clear HI0; have HO_5 := n0_; have HK := n1_; have HB := n2_; have HI0 := n3_; clear n0_ n1_ n2_ n3_; (try clear hb); (try clear hb2); (try clear hk); (try clear hi)) | ((with_reducible refine gate_builtin (b := .append) (xs := #[.tmp 69, .tmp 71]) rfl ?_); at_builtin; refine Kd.R_append Kd.string w.heap.size rfl (.tmp 69) (.tmp 71) 22 9 (.string ⟨#[]⟩) 16 rfl Tryd.underlying22 info9 rfl (by decide) (by omega) u5 x5_1 x9_2 [.string x9_2] (fun _ => True) (fun _ => False) rfl rfl ?aP (fun _ hk => hk.elim) ?aF ?aO (Below.refl _ _) ?aS ?aL ?_; (case aP => exact rfl); (case aF => exact (fun _ _ => trivial)); (case aO => exact (by (with_reducible repeat (first | apply Kd.R_alloc | apply Kd.R_drewN | apply Kd.R_drew)); exact HO_5.out)); (case aS => exact (keep_size (w := w) (g := g) (row := none) (by repeat (first | (with_reducible first | exact HK.out | apply KeepBut.set_ | apply keep_drewN | apply keep_drew | apply keep_alloc) | exact HK.out)))); (case aL => have := LMc57.out; omega); intro v245 w59 ho hb hg hat; rw [← Ny244.out] at ho; have n0_ := Aside0.mk (IsS79.grown (by repeat (first | (with_reducible first | exact HI0.out | apply IsS79.alloc | apply IsS79.drewN | apply IsS79.drew | apply IsS79.set_1) | exact HI0.out)) hg (IsS79.own_ne HI0.out HO_5.out (by decide))); have n1_ := Aside0.mk (below_weaken (by repeat (first | (with_reducible first | exact HB.out | apply below_alloc | apply pw_below_drewN | apply below_drew1 | refine below_set ?_ (IsS79.ge HI0.out)) | exact HB.out)) HL.out hb); have n2_ := Aside0.mk (KeepBut.trans (by repeat (first | (with_reducible first | exact HK.out | apply KeepBut.set_ | apply keep_drewN | apply keep_drew | apply keep_alloc) | exact HK.out)) (KeepBut.of_grown hg g) (Kd.R_base2 HO_5.out)); have n3_ := Aside0.mk (ho); clear HI0; clear HB; clear HK; clear HO_5; have HI0 := n0_; have HB := n1_; have HK := n2_; have HO246 := n3_; clear n0_ n1_ n2_ n3_; clear ho hb hg hat))
       first | go_roundg k2 | ((try simp only [← hji72] at H' ⊢); go_roundg k2)
       case measure => have := HK1.out; have := HK2.out; omega
       case rel => exact ⟨(y244), (wrap64 (x8_1 + 1)), (t240), (by first | rfl | (simp; done) | (simp [*]; done)), H', ⟨by have := HK1.out; have := HK2.out; omega⟩, ⟨by (with_reducible repeat (first | apply Kd.R_alloc | apply Kd.R_drewN | apply Kd.R_drew)); exact HO246.out⟩, ⟨by repeat (first | (with_reducible first | exact HI0.out | apply IsS79.alloc | apply IsS79.drewN | apply IsS79.drew | apply IsS79.set_1) | exact HI0.out)⟩, ⟨by repeat (first | (with_reducible first | exact HK.out | apply KeepBut.set_ | apply keep_drewN | apply keep_drew | apply keep_alloc) | exact HK.out)⟩, ⟨by repeat (first | (with_reducible first | exact HB.out | apply below_alloc | apply pw_below_drewN | apply below_drew1 | refine below_set ?_ (IsS79.ge HI0.out)) | exact HB.out)⟩⟩
      rw [if_pos c50] at H
      have c50b0 : (t239 == 0) = true := beq_iff_eq.mpr c50
      have c50b1 : (t239 != 0) = false := bne_eq_false_iff_eq.mpr c50
      clear c50
      obtain ⟨ji51, hji51⟩ : ∃ j_ : Int, (wrap64 (1 + t237)) = j_ := ⟨_, rfl⟩
      replace H : (if 0 ≤ (ji51) then (if (ji51) ≤ 4 then (if x5_1.length < 8796093022208 then (spec_l92Books.l0 k2 true (x5_1 ++ [(⟨#[63, 63, 63, 63]⟩ : ByteArray).extract 0 ((ji51) : Int).toNat]) (wrap64 (1 + t235)) (ji51) (wrap64 (x8_1 + 1)) s0_0 t240) else (none)) else (none)) else (none)) = some (r1, r2) := by first | (rw [hji51] at H; exact H) | (simp only [hji51] at H ⊢; exact H)
      (try rw [hji51] at c10b0)
      (try rw [hji51] at A49)
      have hji51w : (IntKind.i64.wrap (1 + t237)) = ji51 := (i64_w _).trans hji51
      by_cases c52 : 0 ≤ (ji51)
      rotate_left
      ·rw [if_neg c52] at H
       exact absurd H (by simp)
      rw [if_pos c52] at H
      have c52b0 := eq_true c52
      have c52b1 : decide (0 ≤ (ji51)) = true := decide_eq_true c52
      clear c52
      by_cases c53 : (ji51) ≤ 4
      rotate_left
      ·rw [if_neg c53] at H
       exact absurd H (by simp)
      rw [if_pos c53] at H
      have c53b0 := eq_true c53
      have c53b1 : decide ((ji51) ≤ 4) = true := decide_eq_true c53
      clear c53
      by_cases c54 : x5_1.length < 8796093022208
      rotate_left
      ·rw [if_neg c54] at H
       exact absurd H (by simp)
      rw [if_pos c54] at H
      have LMc54 := Aside0.mk c54
      clear c54
      obtain ⟨y241, hy241⟩ : ∃ y_ : List ByteArray, y_ = (x5_1 ++ [(⟨#[63, 63, 63, 63]⟩ : ByteArray).extract 0 ((ji51) : Int).toNat]) := ⟨_, rfl⟩
      replace H : (spec_l92Books.l0 k2 true y241 (wrap64 (1 + t235)) (ji51) (wrap64 (x8_1 + 1)) s0_0 t240) = some (r1, r2) := by first | (rw [hy241]; with_reducible exact H) | (have H2_ := (Option.bind_some _ _).symm.trans H; rw [hy241]; with_reducible exact H2_) | (have H2_ := (Option.bind_some _ _).symm.trans H; with_reducible exact H2_) | with_reducible exact H | (rw [hy241]; exact H) | exact H
      have Ny241 := Aside0.mk hy241
      clear hy241
      have H' := Aside0.mk H
      clear H
      go_wp2_with (first | (go_at_call 81; (with_reducible refine (spec_l6Rd_pick.calls k2 g s0_0 x1001_2 3 t239 t240 w0 _ ?side1 ?side2 A49.out).mono ?_); (case side1 => repeat (first | (with_reducible first | exact HI0.out | apply IsS79.alloc | apply IsS79.drewN | apply IsS79.drew | apply IsS79.set_1) | exact HI0.out)); (case side2 => repeat (first | (with_reducible first | exact HB.out | apply below_alloc | apply pw_below_drewN | apply below_drew1 | refine below_set ?_ (IsS79.ge HI0.out)) | exact HB.out)); rintro e w55 ⟨rfl, hi, hb, hk⟩; have n0_ := Aside0.mk (Kd.R_mono (Kd.R_keep (IsS79.apart (show IsS79 w0 _ g s0_0 x1001_2 from by repeat (first | (with_reducible first | exact HI0.out | apply IsS79.alloc | apply IsS79.drewN | apply IsS79.drew | apply IsS79.set_1) | exact HI0.out)) (by (with_reducible repeat (first | apply Kd.R_alloc | apply Kd.R_drewN | apply Kd.R_drew)); exact HO_5.out) (by decide)) hk (fun _ h => h.2)) (fun _ h => h.1)); have n1_ := Aside0.mk (KeepBut.trans (by repeat (first | (with_reducible first | exact HK.out | apply KeepBut.set_ | apply keep_drewN | apply keep_drew | apply keep_alloc) | exact HK.out)) hk (.inl rfl)); have n2_ := Aside0.mk (hb); have n3_ := Aside0.mk (hi); clear HO_5; clear HK; clear HB; clear HI0; have HO_5 := n0_; have HK := n1_; have HB := n2_; have HI0 := n3_; clear n0_ n1_ n2_ n3_; (try clear hb); (try clear hb2); (try clear hk); (try clear hi)) | ((with_reducible refine gate_builtin (b := .append) (xs := #[.tmp 69, .tmp 71]) rfl ?_); at_builtin; refine Kd.R_append Kd.string w.heap.size rfl (.tmp 69) (.tmp 71) 22 9 (.string ⟨#[]⟩) 16 rfl Tryd.underlying22 info9 rfl (by decide) (by omega) u5 x5_1 ((⟨#[63, 63, 63, 63]⟩ : ByteArray).extract 0 ((ji51) : Int).toNat) [.string ((⟨#[63, 63, 63, 63]⟩ : ByteArray).extract 0 ((ji51) : Int).toNat)] (fun _ => True) (fun _ => False) rfl rfl ?aP (fun _ hk => hk.elim) ?aF ?aO (Below.refl _ _) ?aS ?aL ?_; (case aP => exact rfl); (case aF => exact (fun _ _ => trivial)); (case aO => exact (by (with_reducible repeat (first | apply Kd.R_alloc | apply Kd.R_drewN | apply Kd.R_drew)); exact HO_5.out)); (case aS => exact (keep_size (w := w) (g := g) (row := none) (by repeat (first | (with_reducible first | exact HK.out | apply KeepBut.set_ | apply keep_drewN | apply keep_drew | apply keep_alloc) | exact HK.out)))); (case aL => have := LMc54.out; omega); intro v242 w56 ho hb hg hat; rw [← Ny241.out] at ho; have n0_ := Aside0.mk (IsS79.grown (by repeat (first | (with_reducible first | exact HI0.out | apply IsS79.alloc | apply IsS79.drewN | apply IsS79.drew | apply IsS79.set_1) | exact HI0.out)) hg (IsS79.own_ne HI0.out HO_5.out (by decide))); have n1_ := Aside0.mk (below_weaken (by repeat (first | (with_reducible first | exact HB.out | apply below_alloc | apply pw_below_drewN | apply below_drew1 | refine below_set ?_ (IsS79.ge HI0.out)) | exact HB.out)) HL.out hb); have n2_ := Aside0.mk (KeepBut.trans (by repeat (first | (with_reducible first | exact HK.out | apply KeepBut.set_ | apply keep_drewN | apply keep_drew | apply keep_alloc) | exact HK.out)) (KeepBut.of_grown hg g) (Kd.R_base2 HO_5.out)); have n3_ := Aside0.mk (ho); clear HI0; clear HB; clear HK; clear HO_5; have HI0 := n0_; have HB := n1_; have HK := n2_; have HO243 := n3_; clear n0_ n1_ n2_ n3_; clear ho hb hg hat))
      first | go_roundg k2 | ((try simp only [← hji72] at H' ⊢); (try simp only [← hji51] at H' ⊢); go_roundg k2)
      case measure => have := HK1.out; have := HK2.out; omega
      case rel => exact ⟨(y241), (wrap64 (x8_1 + 1)), (t240), (by first | rfl | (simp; done) | (simp [*]; done)), H', ⟨by have := HK1.out; have := HK2.out; omega⟩, ⟨by (with_reducible repeat (first | apply Kd.R_alloc | apply Kd.R_drewN | apply Kd.R_drew)); exact HO243.out⟩, ⟨by repeat (first | (with_reducible first | exact HI0.out | apply IsS79.alloc | apply IsS79.drewN | apply IsS79.drew | apply IsS79.set_1) | exact HI0.out)⟩, ⟨by repeat (first | (with_reducible first | exact HK.out | apply KeepBut.set_ | apply keep_drewN | apply keep_drew | apply keep_alloc) | exact HK.out)⟩, ⟨by repeat (first | (with_reducible first | exact HB.out | apply below_alloc | apply pw_below_drewN | apply below_drew1 | refine below_set ?_ (IsS79.ge HI0.out)) | exact HB.out)⟩⟩
     rw [if_pos c10] at H
     have c10b0 : decide (x10_2 < (wrap64 (1 + t237))) = true := decide_eq_true c10
     clear c10
     by_cases c11 : x8_1 > 0
     rotate_left
     ·rw [if_neg c11] at H
      have c11b0 : decide (0 < x8_1) = false := decide_eq_false c11
      clear c11
      obtain ⟨y264, hy264⟩ : ∃ y_ : List ByteArray, y_ = (([(⟨#[97]⟩ : ByteArray), (⟨#[98]⟩ : ByteArray), (⟨#[99]⟩ : ByteArray), (⟨#[97]⟩ : ByteArray), (⟨#[100]⟩ : ByteArray)] : List ByteArray)) := ⟨_, rfl⟩
      replace H : ((spec_l6Rd_of.f k2 s0_0 x1001_2 y264).bind fun bt267 => (if x9_2.size + bt267.1.size ≤ 9223372036854775807 then (spec_l92Books.l1 k2 a1 x5_1 (wrap64 (1 + t235)) (wrap64 (1 + t237)) x8_1 (x9_2 ++ bt267.1) (wrap64 (x10_2 + 1)) s0_0 bt267.2) else (none))) = some (r1, r2) := by first | (rw [hy264]; with_reducible exact H) | (have H2_ := (Option.bind_some _ _).symm.trans H; rw [hy264]; with_reducible exact H2_) | (have H2_ := (Option.bind_some _ _).symm.trans H; with_reducible exact H2_) | with_reducible exact H | (rw [hy264]; exact H) | exact H
      have Ny264 := Aside0.mk hy264
      clear hy264
      replace H := Option.bind_eq_some_iff.mp H
      obtain ⟨⟨t267, t268⟩, A420, H⟩ := H
      replace H : (if x9_2.size + t267.size ≤ 9223372036854775807 then (spec_l92Books.l1 k2 a1 x5_1 (wrap64 (1 + t235)) (wrap64 (1 + t237)) x8_1 (x9_2 ++ t267) (wrap64 (x10_2 + 1)) s0_0 t268) else (none)) = some (r1, r2) := H
      have A42 := Aside0.mk A420
      clear A420
      by_cases c43 : x9_2.size + t267.size ≤ 9223372036854775807
      rotate_left
      ·rw [if_neg c43] at H
       exact absurd H (by simp)
      rw [if_pos c43] at H
      have c43b0 := eq_true c43
      have c43b1 : decide (x9_2.size + t267.size ≤ 9223372036854775807) = true := decide_eq_true c43
      try have c43b2 : (9223372036854775807 < x9_2.size + t267.size) = False := eq_false (Nat.not_lt.2 c43)
      have H' := Aside0.mk H
      clear H
      go_wp2_with (first | ((with_reducible refine gate_dst (N := 58) rfl ?_); refine Kd.R_lit Kd.string _ 9 ?hg (N := 58) ?hd (xs := ([(⟨#[97]⟩ : ByteArray), (⟨#[98]⟩ : ByteArray), (⟨#[99]⟩ : ByteArray), (⟨#[97]⟩ : ByteArray), (⟨#[100]⟩ : ByteArray)] : List ByteArray)) (inner := [.string (⟨#[97]⟩ : ByteArray), .string (⟨#[98]⟩ : ByteArray), .string (⟨#[99]⟩ : ByteArray), .string (⟨#[97]⟩ : ByteArray), .string (⟨#[100]⟩ : ByteArray)]) (ok := fun _ => True) (okp := fun _ => True) ?hr ?hp (fun _ hk => hk) trivial (Below.refl _ _) (Nat.le_refl _) (by simp) ?_; (case hd => rfl); (case hg => rfl); (case hr => first | (go_simp; done) | (go_simp; rfl)); (case hp => exact (Reps.one (show Kd.M Kd.string _ _ _ (⟨#[97]⟩ : ByteArray) [.string (⟨#[97]⟩ : ByteArray)] from rfl) (Reps.one (show Kd.M Kd.string _ _ _ (⟨#[98]⟩ : ByteArray) [.string (⟨#[98]⟩ : ByteArray)] from rfl) (Reps.one (show Kd.M Kd.string _ _ _ (⟨#[99]⟩ : ByteArray) [.string (⟨#[99]⟩ : ByteArray)] from rfl) (Reps.one (show Kd.M Kd.string _ _ _ (⟨#[97]⟩ : ByteArray) [.string (⟨#[97]⟩ : ByteArray)] from rfl) (Reps.one (show Kd.M Kd.string _ _ _ (⟨#[100]⟩ : ByteArray) [.string (⟨#[100]⟩ : ByteArray)] from rfl) (Reps.none _ _))))))); intro v265 w44 ho45 hb hg_ hnew_; clear hg_ hnew_; (first | rw [← Ny264.out] at ho45 | (simp only [Int.reduceToNat] at ho45; rw [← Ny264.out] at ho45)); have n0_ := Aside0.mk (Kd.R_elder' (by (with_reducible repeat (first | apply Kd.R_alloc | apply Kd.R_drewN | apply Kd.R_drew)); exact HO_5.out) (Kd.R_base ho45) hb); have n1_ := Aside0.mk (Kd.R_lower (Kd.R_new' ho45 (Kd.R_lt (by (with_reducible repeat (first | apply Kd.R_alloc | apply Kd.R_drewN | apply Kd.R_drew)); exact HO_5.out))) (keep_size (w := w) (g := g) (row := none) (by repeat (first | (with_reducible first | exact HK.out | apply KeepBut.set_ | apply keep_drewN | apply keep_drew | apply keep_alloc) | exact HK.out)))); have n2_ := Aside0.mk (IsS79.below (by repeat (first | (with_reducible first | exact HI0.out | apply IsS79.alloc | apply IsS79.drewN | apply IsS79.drew | apply IsS79.set_1) | exact HI0.out)) hb); have n3_ := Aside0.mk (KeepBut.trans (by repeat (first | (with_reducible first | exact HK.out | apply KeepBut.set_ | apply keep_drewN | apply keep_drew | apply keep_alloc) | exact HK.out)) (KeepBut.of_below hb g none) (.inl rfl)); have n4_ := Aside0.mk (below_step (by repeat (first | (with_reducible first | exact HB.out | apply below_alloc | apply pw_below_drewN | apply below_drew1 | refine below_set ?_ (IsS79.ge HI0.out)) | exact HB.out)) hb); clear HO_5; clear HI0; clear HK; clear HB; have HO_5 := n0_; have HO266 := n1_; have HI0 := n2_; have HK := n3_; have HB := n4_; clear n0_ n1_ n2_ n3_ n4_; clear hb ho45; obtain ⟨Ao46, co46, eo46⟩ := Kd.R_slice HO266.out; subst eo46) | ((with_reducible refine gate_callee (f := 82) rfl ?_); refine goesL_ (some 59) rfl rfl Tryd.func82 (by kernel_rfl) rfl #[.pointer (some ⟨g, 0, none⟩), .slice Ao46 y264.length co46] rfl (by (try simp only [List.map_toArray, List.map_cons, List.map_nil]); first | done | rfl | (simp only [List.length_drop, List.length_take]; rfl)) ?_; (with_reducible refine (spec_l6Rd_of.calls k2 g s0_0 x1001_2 _ _ y264 t267 t268 w0 _ ?side1 ?side2 ?side3 ?side4 ?side5 A42.out).mono ?_); (case side1 => repeat (first | (with_reducible first | exact HI0.out | apply IsS79.alloc | apply IsS79.drewN | apply IsS79.drew | apply IsS79.set_1) | exact HI0.out)); (case side2 => repeat (first | (with_reducible first | exact HB.out | apply below_alloc | apply pw_below_drewN | apply below_drew1 | refine below_set ?_ (IsS79.ge HI0.out)) | exact HB.out)); (case side3 => repeat (first | exact (Kd.R_reads' HO266.out).2.2 | (with_reducible refine Kd.C_alloc ?_ _) | (with_reducible refine Kd.C_drewN ?_ _) | (with_reducible refine Kd.C_drew ?_))); (case side4 => exact (Kd.R_reads' HO266.out).2.1); (case side5 => exact far_slice (IsS79.own_ne HI0.out HO266.out (by decide))); rintro e w47 ⟨rfl, hi, hb, hk⟩; refine ⟨_, rfl, ?_⟩; have n0_ := Aside0.mk (Kd.R_mono (Kd.R_keep (IsS79.apart (show IsS79 w0 _ g s0_0 x1001_2 from by repeat (first | (with_reducible first | exact HI0.out | apply IsS79.alloc | apply IsS79.drewN | apply IsS79.drew | apply IsS79.set_1) | exact HI0.out)) (by (with_reducible repeat (first | apply Kd.R_alloc | apply Kd.R_drewN | apply Kd.R_drew)); exact HO_5.out) (by decide)) hk (fun _ h => h.2)) (fun _ h => h.1)); have n1_ := Aside0.mk (Kd.R_mono (Kd.R_keep (IsS79.apart (show IsS79 w0 _ g s0_0 x1001_2 from by repeat (first | (with_reducible first | exact HI0.out | apply IsS79.alloc | apply IsS79.drewN | apply IsS79.drew | apply IsS79.set_1) | exact HI0.out)) (by (with_reducible repeat (first | apply Kd.R_alloc | apply Kd.R_drewN | apply Kd.R_drew)); exact HO266.out) (by decide)) hk (fun _ h => h.2)) (fun _ h => h.1)); have n2_ := Aside0.mk (KeepBut.trans (by repeat (first | (with_reducible first | exact HK.out | apply KeepBut.set_ | apply keep_drewN | apply keep_drew | apply keep_alloc) | exact HK.out)) hk (.inl rfl)); have n3_ := Aside0.mk (hb); have n4_ := Aside0.mk (hi); clear HO_5; clear HO266; clear HK; clear HB; clear HI0; have HO_5 := n0_; have HO266 := n1_; have HK := n2_; have HB := n3_; have HI0 := n4_; clear n0_ n1_ n2_ n3_ n4_; (try clear hb); (try clear hb2); (try clear hk); (try clear hi)))
      first | go_roundg k2 | ((try simp only [← hji72] at H' ⊢); (try simp only [← hji51] at H' ⊢); go_roundg k2)
      case measure => have := HK1.out; have := HK2.out; omega
      case rel => exact ⟨(x9_2 ++ t267), (wrap64 (x10_2 + 1)), (t268), (by first | rfl | (simp; done) | (simp [*]; done)), (by first | rfl | (simp; done) | (simp [*]; done)), H', ⟨by have := HK1.out; have := HK2.out; omega⟩, ⟨by (with_reducible repeat (first | apply Kd.R_alloc | apply Kd.R_drewN | apply Kd.R_drew)); exact Kd.R_mono HO_5.out (fun _ hk => trivial)⟩, ⟨by repeat (first | (with_reducible first | exact HI0.out | apply IsS79.alloc | apply IsS79.drewN | apply IsS79.drew | apply IsS79.set_1) | exact HI0.out)⟩, ⟨by repeat (first | (with_reducible first | exact HK.out | apply KeepBut.set_ | apply keep_drewN | apply keep_drew | apply keep_alloc) | exact HK.out)⟩, ⟨by repeat (first | (with_reducible first | exact HB.out | apply below_alloc | apply pw_below_drewN | apply below_drew1 | refine below_set ?_ (IsS79.ge HI0.out)) | exact HB.out)⟩⟩
     rw [if_pos c11] at H
     have c11b0 : decide (0 < x8_1) = true := decide_eq_true c11
     clear c11
     replace H := Option.bind_eq_some_iff.mp H
     obtain ⟨⟨t250, t251⟩, A120, H⟩ := H
     replace H : (if t250 > 0 then (if 0 ≤ (wrap64 (x8_1 - 1)) then (if (wrap64 (x8_1 - 1)) < (x5_1.length : Int) then (if 0 ≤ x10_2 then (if x10_2 < ((rdOf ByteArray.empty x5_1 (wrap64 (x8_1 - 1))).size : Int) then (if (bt (rdOf ByteArray.empty x5_1 (wrap64 (x8_1 - 1))) x10_2) = 63 then ((spec_l6Rd_of.f k2 s0_0 t251 (([(⟨#[97]⟩ : ByteArray), (⟨#[98]⟩ : ByteArray), (⟨#[99]⟩ : ByteArray), (⟨#[97]⟩ : ByteArray), (⟨#[100]⟩ : ByteArray)] : List ByteArray))).bind fun bt256 => (if x9_2.size + bt256.1.size ≤ 9223372036854775807 then (spec_l92Books.l1 k2 a1 x5_1 (wrap64 (1 + t235)) (wrap64 (1 + t237)) x8_1 (x9_2 ++ bt256.1) (wrap64 (x10_2 + 1)) s0_0 bt256.2) else (none))) else (if x10_2 ≤ (wrap64 (x10_2 + 1)) then (if (wrap64 (x10_2 + 1)) ≤ ((rdOf ByteArray.empty x5_1 (wrap64 (x8_1 - 1))).size : Int) then (if x9_2.size + ((rdOf ByteArray.empty x5_1 (wrap64 (x8_1 - 1))).extract (x10_2 : Int).toNat ((wrap64 (x10_2 + 1)) : Int).toNat).size ≤ 9223372036854775807 then (spec_l92Books.l1 k2 a1 x5_1 (wrap64 (1 + t235)) (wrap64 (1 + t237)) x8_1 (x9_2 ++ ((rdOf ByteArray.empty x5_1 (wrap64 (x8_1 - 1))).extract (x10_2 : Int).toNat ((wrap64 (x10_2 + 1)) : Int).toNat)) (wrap64 (x10_2 + 1)) s0_0 t251) else (none)) else (none)) else (none))) else (none)) else (none)) else (none)) else (none)) else ((spec_l6Rd_of.f k2 s0_0 t251 (([(⟨#[97]⟩ : ByteArray), (⟨#[98]⟩ : ByteArray), (⟨#[99]⟩ : ByteArray), (⟨#[97]⟩ : ByteArray), (⟨#[100]⟩ : ByteArray)] : List ByteArray))).bind fun bt262 => (if x9_2.size + bt262.1.size ≤ 9223372036854775807 then (spec_l92Books.l1 k2 a1 x5_1 (wrap64 (1 + t235)) (wrap64 (1 + t237)) x8_1 (x9_2 ++ bt262.1) (wrap64 (x10_2 + 1)) s0_0 bt262.2) else (none)))) = some (r1, r2) := H
     have A12 := Aside0.mk A120
     clear A120
     by_cases c13 : t250 > 0
     rotate_left
     ·rw [if_neg c13] at H
      have c13b0 : decide (0 < t250) = false := decide_eq_false c13
      clear c13
      obtain ⟨y259, hy259⟩ : ∃ y_ : List ByteArray, y_ = (([(⟨#[97]⟩ : ByteArray), (⟨#[98]⟩ : ByteArray), (⟨#[99]⟩ : ByteArray), (⟨#[97]⟩ : ByteArray), (⟨#[100]⟩ : ByteArray)] : List ByteArray)) := ⟨_, rfl⟩
      replace H : ((spec_l6Rd_of.f k2 s0_0 t251 y259).bind fun bt262 => (if x9_2.size + bt262.1.size ≤ 9223372036854775807 then (spec_l92Books.l1 k2 a1 x5_1 (wrap64 (1 + t235)) (wrap64 (1 + t237)) x8_1 (x9_2 ++ bt262.1) (wrap64 (x10_2 + 1)) s0_0 bt262.2) else (none))) = some (r1, r2) := by first | (rw [hy259]; with_reducible exact H) | (have H2_ := (Option.bind_some _ _).symm.trans H; rw [hy259]; with_reducible exact H2_) | (have H2_ := (Option.bind_some _ _).symm.trans H; with_reducible exact H2_) | with_reducible exact H | (rw [hy259]; exact H) | exact H
      have Ny259 := Aside0.mk hy259
      clear hy259
      replace H := Option.bind_eq_some_iff.mp H
      obtain ⟨⟨t262, t263⟩, A350, H⟩ := H
      replace H : (if x9_2.size + t262.size ≤ 9223372036854775807 then (spec_l92Books.l1 k2 a1 x5_1 (wrap64 (1 + t235)) (wrap64 (1 + t237)) x8_1 (x9_2 ++ t262) (wrap64 (x10_2 + 1)) s0_0 t263) else (none)) = some (r1, r2) := H
      have A35 := Aside0.mk A350
      clear A350
      by_cases c36 : x9_2.size + t262.size ≤ 9223372036854775807
      rotate_left
      ·rw [if_neg c36] at H
       exact absurd H (by simp)
      rw [if_pos c36] at H
      have c36b0 := eq_true c36
      have c36b1 : decide (x9_2.size + t262.size ≤ 9223372036854775807) = true := decide_eq_true c36
      try have c36b2 : (9223372036854775807 < x9_2.size + t262.size) = False := eq_false (Nat.not_lt.2 c36)
      have H' := Aside0.mk H
      clear H
      go_wp2_with (first | (go_at_call 81; (with_reducible refine (spec_l6Rd_pick.calls k2 g s0_0 x1001_2 3 t250 t251 w0 _ ?side1 ?side2 A12.out).mono ?_); (case side1 => repeat (first | (with_reducible first | exact HI0.out | apply IsS79.alloc | apply IsS79.drewN | apply IsS79.drew | apply IsS79.set_1) | exact HI0.out)); (case side2 => repeat (first | (with_reducible first | exact HB.out | apply below_alloc | apply pw_below_drewN | apply below_drew1 | refine below_set ?_ (IsS79.ge HI0.out)) | exact HB.out)); rintro e w37 ⟨rfl, hi, hb, hk⟩; have n0_ := Aside0.mk (Kd.R_mono (Kd.R_keep (IsS79.apart (show IsS79 w0 _ g s0_0 x1001_2 from by repeat (first | (with_reducible first | exact HI0.out | apply IsS79.alloc | apply IsS79.drewN | apply IsS79.drew | apply IsS79.set_1) | exact HI0.out)) (by (with_reducible repeat (first | apply Kd.R_alloc | apply Kd.R_drewN | apply Kd.R_drew)); exact HO_5.out) (by decide)) hk (fun _ h => h.2)) (fun _ h => h.1)); have n1_ := Aside0.mk (KeepBut.trans (by repeat (first | (with_reducible first | exact HK.out | apply KeepBut.set_ | apply keep_drewN | apply keep_drew | apply keep_alloc) | exact HK.out)) hk (.inl rfl)); have n2_ := Aside0.mk (hb); have n3_ := Aside0.mk (hi); clear HO_5; clear HK; clear HB; clear HI0; have HO_5 := n0_; have HK := n1_; have HB := n2_; have HI0 := n3_; clear n0_ n1_ n2_ n3_; (try clear hb); (try clear hb2); (try clear hk); (try clear hi)) | ((with_reducible refine gate_dst (N := 58) rfl ?_); refine Kd.R_lit Kd.string _ 9 ?hg (N := 58) ?hd (xs := ([(⟨#[97]⟩ : ByteArray), (⟨#[98]⟩ : ByteArray), (⟨#[99]⟩ : ByteArray), (⟨#[97]⟩ : ByteArray), (⟨#[100]⟩ : ByteArray)] : List ByteArray)) (inner := [.string (⟨#[97]⟩ : ByteArray), .string (⟨#[98]⟩ : ByteArray), .string (⟨#[99]⟩ : ByteArray), .string (⟨#[97]⟩ : ByteArray), .string (⟨#[100]⟩ : ByteArray)]) (ok := fun _ => True) (okp := fun _ => True) ?hr ?hp (fun _ hk => hk) trivial (Below.refl _ _) (Nat.le_refl _) (by simp) ?_; (case hd => rfl); (case hg => rfl); (case hr => first | (go_simp; done) | (go_simp; rfl)); (case hp => exact (Reps.one (show Kd.M Kd.string _ _ _ (⟨#[97]⟩ : ByteArray) [.string (⟨#[97]⟩ : ByteArray)] from rfl) (Reps.one (show Kd.M Kd.string _ _ _ (⟨#[98]⟩ : ByteArray) [.string (⟨#[98]⟩ : ByteArray)] from rfl) (Reps.one (show Kd.M Kd.string _ _ _ (⟨#[99]⟩ : ByteArray) [.string (⟨#[99]⟩ : ByteArray)] from rfl) (Reps.one (show Kd.M Kd.string _ _ _ (⟨#[97]⟩ : ByteArray) [.string (⟨#[97]⟩ : ByteArray)] from rfl) (Reps.one (show Kd.M Kd.string _ _ _ (⟨#[100]⟩ : ByteArray) [.string (⟨#[100]⟩ : ByteArray)] from rfl) (Reps.none _ _))))))); intro v260 w38 ho39 hb hg_ hnew_; clear hg_ hnew_; (first | rw [← Ny259.out] at ho39 | (simp only [Int.reduceToNat] at ho39; rw [← Ny259.out] at ho39)); have n0_ := Aside0.mk (Kd.R_elder' (by (with_reducible repeat (first | apply Kd.R_alloc | apply Kd.R_drewN | apply Kd.R_drew)); exact HO_5.out) (Kd.R_base ho39) hb); have n1_ := Aside0.mk (Kd.R_lower (Kd.R_new' ho39 (Kd.R_lt (by (with_reducible repeat (first | apply Kd.R_alloc | apply Kd.R_drewN | apply Kd.R_drew)); exact HO_5.out))) (keep_size (w := w) (g := g) (row := none) (by repeat (first | (with_reducible first | exact HK.out | apply KeepBut.set_ | apply keep_drewN | apply keep_drew | apply keep_alloc) | exact HK.out)))); have n2_ := Aside0.mk (IsS79.below (by repeat (first | (with_reducible first | exact HI0.out | apply IsS79.alloc | apply IsS79.drewN | apply IsS79.drew | apply IsS79.set_1) | exact HI0.out)) hb); have n3_ := Aside0.mk (KeepBut.trans (by repeat (first | (with_reducible first | exact HK.out | apply KeepBut.set_ | apply keep_drewN | apply keep_drew | apply keep_alloc) | exact HK.out)) (KeepBut.of_below hb g none) (.inl rfl)); have n4_ := Aside0.mk (below_step (by repeat (first | (with_reducible first | exact HB.out | apply below_alloc | apply pw_below_drewN | apply below_drew1 | refine below_set ?_ (IsS79.ge HI0.out)) | exact HB.out)) hb); clear HO_5; clear HI0; clear HK; clear HB; have HO_5 := n0_; have HO261 := n1_; have HI0 := n2_; have HK := n3_; have HB := n4_; clear n0_ n1_ n2_ n3_ n4_; clear hb ho39; obtain ⟨Ao40, co40, eo40⟩ := Kd.R_slice HO261.out; subst eo40) | ((with_reducible refine gate_callee (f := 82) rfl ?_); refine goesL_ (some 59) rfl rfl Tryd.func82 (by kernel_rfl) rfl #[.pointer (some ⟨g, 0, none⟩), .slice Ao40 y259.length co40] rfl (by (try simp only [List.map_toArray, List.map_cons, List.map_nil]); first | done | rfl | (simp only [List.length_drop, List.length_take]; rfl)) ?_; (with_reducible refine (spec_l6Rd_of.calls k2 g s0_0 t251 _ _ y259 t262 t263 w0 _ ?side1 ?side2 ?side3 ?side4 ?side5 A35.out).mono ?_); (case side1 => repeat (first | (with_reducible first | exact HI0.out | apply IsS79.alloc | apply IsS79.drewN | apply IsS79.drew | apply IsS79.set_1) | exact HI0.out)); (case side2 => repeat (first | (with_reducible first | exact HB.out | apply below_alloc | apply pw_below_drewN | apply below_drew1 | refine below_set ?_ (IsS79.ge HI0.out)) | exact HB.out)); (case side3 => repeat (first | exact (Kd.R_reads' HO261.out).2.2 | (with_reducible refine Kd.C_alloc ?_ _) | (with_reducible refine Kd.C_drewN ?_ _) | (with_reducible refine Kd.C_drew ?_))); (case side4 => exact (Kd.R_reads' HO261.out).2.1); (case side5 => exact far_slice (IsS79.own_ne HI0.out HO261.out (by decide))); rintro e w41 ⟨rfl, hi, hb, hk⟩; refine ⟨_, rfl, ?_⟩; have n0_ := Aside0.mk (Kd.R_mono (Kd.R_keep (IsS79.apart (show IsS79 w0 _ g s0_0 t251 from by repeat (first | (with_reducible first | exact HI0.out | apply IsS79.alloc | apply IsS79.drewN | apply IsS79.drew | apply IsS79.set_1) | exact HI0.out)) (by (with_reducible repeat (first | apply Kd.R_alloc | apply Kd.R_drewN | apply Kd.R_drew)); exact HO_5.out) (by decide)) hk (fun _ h => h.2)) (fun _ h => h.1)); have n1_ := Aside0.mk (Kd.R_mono (Kd.R_keep (IsS79.apart (show IsS79 w0 _ g s0_0 t251 from by repeat (first | (with_reducible first | exact HI0.out | apply IsS79.alloc | apply IsS79.drewN | apply IsS79.drew | apply IsS79.set_1) | exact HI0.out)) (by (with_reducible repeat (first | apply Kd.R_alloc | apply Kd.R_drewN | apply Kd.R_drew)); exact HO261.out) (by decide)) hk (fun _ h => h.2)) (fun _ h => h.1)); have n2_ := Aside0.mk (KeepBut.trans (by repeat (first | (with_reducible first | exact HK.out | apply KeepBut.set_ | apply keep_drewN | apply keep_drew | apply keep_alloc) | exact HK.out)) hk (.inl rfl)); have n3_ := Aside0.mk (hb); have n4_ := Aside0.mk (hi); clear HO_5; clear HO261; clear HK; clear HB; clear HI0; have HO_5 := n0_; have HO261 := n1_; have HK := n2_; have HB := n3_; have HI0 := n4_; clear n0_ n1_ n2_ n3_ n4_; (try clear hb); (try clear hb2); (try clear hk); (try clear hi)))
      first | go_roundg k2 | ((try simp only [← hji72] at H' ⊢); (try simp only [← hji51] at H' ⊢); go_roundg k2)
      case measure => have := HK1.out; have := HK2.out; omega
      case rel => exact ⟨(x9_2 ++ t262), (wrap64 (x10_2 + 1)), (t263), (by first | rfl | (simp; done) | (simp [*]; done)), (by first | rfl | (simp; done) | (simp [*]; done)), H', ⟨by have := HK1.out; have := HK2.out; omega⟩, ⟨by (with_reducible repeat (first | apply Kd.R_alloc | apply Kd.R_drewN | apply Kd.R_drew)); exact Kd.R_mono HO_5.out (fun _ hk => trivial)⟩, ⟨by repeat (first | (with_reducible first | exact HI0.out | apply IsS79.alloc | apply IsS79.drewN | apply IsS79.drew | apply IsS79.set_1) | exact HI0.out)⟩, ⟨by repeat (first | (with_reducible first | exact HK.out | apply KeepBut.set_ | apply keep_drewN | apply keep_drew | apply keep_alloc) | exact HK.out)⟩, ⟨by repeat (first | (with_reducible first | exact HB.out | apply below_alloc | apply pw_below_drewN | apply below_drew1 | refine below_set ?_ (IsS79.ge HI0.out)) | exact HB.out)⟩⟩
     rw [if_pos c13] at H
     have c13b0 : decide (0 < t250) = true := decide_eq_true c13
     clear c13
     obtain ⟨ji14, hji14⟩ : ∃ j_ : Int, (wrap64 (x8_1 - 1)) = j_ := ⟨_, rfl⟩
     replace H : (if 0 ≤ (ji14) then (if (ji14) < (x5_1.length : Int) then (if 0 ≤ x10_2 then (if x10_2 < ((rdOf ByteArray.empty x5_1 (ji14)).size : Int) then (if (bt (rdOf ByteArray.empty x5_1 (ji14)) x10_2) = 63 then ((spec_l6Rd_of.f k2 s0_0 t251 (([(⟨#[97]⟩ : ByteArray), (⟨#[98]⟩ : ByteArray), (⟨#[99]⟩ : ByteArray), (⟨#[97]⟩ : ByteArray), (⟨#[100]⟩ : ByteArray)] : List ByteArray))).bind fun bt256 => (if x9_2.size + bt256.1.size ≤ 9223372036854775807 then (spec_l92Books.l1 k2 a1 x5_1 (wrap64 (1 + t235)) (wrap64 (1 + t237)) x8_1 (x9_2 ++ bt256.1) (wrap64 (x10_2 + 1)) s0_0 bt256.2) else (none))) else (if x10_2 ≤ (wrap64 (x10_2 + 1)) then (if (wrap64 (x10_2 + 1)) ≤ ((rdOf ByteArray.empty x5_1 (ji14)).size : Int) then (if x9_2.size + ((rdOf ByteArray.empty x5_1 (ji14)).extract (x10_2 : Int).toNat ((wrap64 (x10_2 + 1)) : Int).toNat).size ≤ 9223372036854775807 then (spec_l92Books.l1 k2 a1 x5_1 (wrap64 (1 + t235)) (wrap64 (1 + t237)) x8_1 (x9_2 ++ ((rdOf ByteArray.empty x5_1 (ji14)).extract (x10_2 : Int).toNat ((wrap64 (x10_2 + 1)) : Int).toNat)) (wrap64 (x10_2 + 1)) s0_0 t251) else (none)) else (none)) else (none))) else (none)) else (none)) else (none)) else (none)) = some (r1, r2) := by first | (rw [hji14] at H; exact H) | (simp only [hji14] at H ⊢; exact H)
     (try rw [hji14] at A12)
     have hji14w : (IntKind.i64.wrap (x8_1 - 1)) = ji14 := (i64_w _).trans hji14
     by_cases c15 : 0 ≤ (ji14)
     rotate_left
     ·rw [if_neg c15] at H
      exact absurd H (by simp)
     rw [if_pos c15] at H
     have c15b0 : decide (0 ≤ (ji14)) = true := decide_eq_true c15
     clear c15
     by_cases c16 : (ji14) < (x5_1.length : Int)
     rotate_left
     ·rw [if_neg c16] at H
      exact absurd H (by simp)
     rw [if_pos c16] at H
     have c16b0 : decide ((ji14) < (x5_1.length : Int)) = true := decide_eq_true c16
     clear c16
     by_cases c17 : 0 ≤ x10_2
     rotate_left
     ·rw [if_neg c17] at H
      exact absurd H (by simp)
     rw [if_pos c17] at H
     have c17b0 : decide (0 ≤ x10_2) = true := decide_eq_true c17
     clear c17
     by_cases c18 : x10_2 < ((rdOf ByteArray.empty x5_1 (ji14)).size : Int)
     rotate_left
     ·rw [if_neg c18] at H
      exact absurd H (by simp)
     rw [if_pos c18] at H
     have c18b0 : decide (x10_2 < ((rdOf ByteArray.empty x5_1 (ji14)).size : Int)) = true := decide_eq_true c18
     clear c18
     by_cases c20 : (bt (rdOf ByteArray.empty x5_1 (ji14)) x10_2) = 63
     ·rw [if_pos c20] at H
      have c20b0 : ((bt (rdOf ByteArray.empty x5_1 (ji14)) x10_2) == 63) = true := beq_iff_eq.mpr c20
      have c20b1 : ((bt (rdOf ByteArray.empty x5_1 (ji14)) x10_2) != 63) = false := bne_eq_false_iff_eq.mpr c20
      clear c20
      obtain ⟨y253, hy253⟩ : ∃ y_ : List ByteArray, y_ = (([(⟨#[97]⟩ : ByteArray), (⟨#[98]⟩ : ByteArray), (⟨#[99]⟩ : ByteArray), (⟨#[97]⟩ : ByteArray), (⟨#[100]⟩ : ByteArray)] : List ByteArray)) := ⟨_, rfl⟩
      replace H : ((spec_l6Rd_of.f k2 s0_0 t251 y253).bind fun bt256 => (if x9_2.size + bt256.1.size ≤ 9223372036854775807 then (spec_l92Books.l1 k2 a1 x5_1 (wrap64 (1 + t235)) (wrap64 (1 + t237)) x8_1 (x9_2 ++ bt256.1) (wrap64 (x10_2 + 1)) s0_0 bt256.2) else (none))) = some (r1, r2) := by first | (rw [hy253]; with_reducible exact H) | (have H2_ := (Option.bind_some _ _).symm.trans H; rw [hy253]; with_reducible exact H2_) | (have H2_ := (Option.bind_some _ _).symm.trans H; with_reducible exact H2_) | with_reducible exact H | (rw [hy253]; exact H) | exact H
      have Ny253 := Aside0.mk hy253
      clear hy253
      replace H := Option.bind_eq_some_iff.mp H
      obtain ⟨⟨t256, t257⟩, A210, H⟩ := H
      replace H : (if x9_2.size + t256.size ≤ 9223372036854775807 then (spec_l92Books.l1 k2 a1 x5_1 (wrap64 (1 + t235)) (wrap64 (1 + t237)) x8_1 (x9_2 ++ t256) (wrap64 (x10_2 + 1)) s0_0 t257) else (none)) = some (r1, r2) := H
      have A21 := Aside0.mk A210
      clear A210
      by_cases c22 : x9_2.size + t256.size ≤ 9223372036854775807
      rotate_left
      ·rw [if_neg c22] at H
       exact absurd H (by simp)
      rw [if_pos c22] at H
      have c22b0 := eq_true c22
      have c22b1 : decide (x9_2.size + t256.size ≤ 9223372036854775807) = true := decide_eq_true c22
      try have c22b2 : (9223372036854775807 < x9_2.size + t256.size) = False := eq_false (Nat.not_lt.2 c22)
      have H' := Aside0.mk H
      clear H
      go_wp2_with (first | (go_at_call 81; (with_reducible refine (spec_l6Rd_pick.calls k2 g s0_0 x1001_2 3 t250 t251 w0 _ ?side1 ?side2 A12.out).mono ?_); (case side1 => repeat (first | (with_reducible first | exact HI0.out | apply IsS79.alloc | apply IsS79.drewN | apply IsS79.drew | apply IsS79.set_1) | exact HI0.out)); (case side2 => repeat (first | (with_reducible first | exact HB.out | apply below_alloc | apply pw_below_drewN | apply below_drew1 | refine below_set ?_ (IsS79.ge HI0.out)) | exact HB.out)); rintro e w23 ⟨rfl, hi, hb, hk⟩; have n0_ := Aside0.mk (Kd.R_mono (Kd.R_keep (IsS79.apart (show IsS79 w0 _ g s0_0 x1001_2 from by repeat (first | (with_reducible first | exact HI0.out | apply IsS79.alloc | apply IsS79.drewN | apply IsS79.drew | apply IsS79.set_1) | exact HI0.out)) (by (with_reducible repeat (first | apply Kd.R_alloc | apply Kd.R_drewN | apply Kd.R_drew)); exact HO_5.out) (by decide)) hk (fun _ h => h.2)) (fun _ h => h.1)); have n1_ := Aside0.mk (KeepBut.trans (by repeat (first | (with_reducible first | exact HK.out | apply KeepBut.set_ | apply keep_drewN | apply keep_drew | apply keep_alloc) | exact HK.out)) hk (.inl rfl)); have n2_ := Aside0.mk (hb); have n3_ := Aside0.mk (hi); clear HO_5; clear HK; clear HB; clear HI0; have HO_5 := n0_; have HK := n1_; have HB := n2_; have HI0 := n3_; clear n0_ n1_ n2_ n3_; (try clear hb); (try clear hb2); (try clear hk); (try clear hi); obtain ⟨Ao24, co24, eo24⟩ := Kd.R_slice HO_5.out; subst eo24; have p252 : 0 ≤ ((ji14) : Int) := of_decide_eq_true (by first | (with_reducible assumption) | assumption); have q252 : (ji14) < (x5_1.length : Int) := of_decide_eq_true (by first | (with_reducible assumption) | assumption); obtain ⟨ad252, e252, hx252_0⟩ := Kd.at_string (Kd.R_reads' HO_5.out).2.2 (ji14) p252 q252; cases e252; replace p252 := eq_true p252; replace q252 := eq_true q252; have p19 : 0 ≤ (x10_2 : Int) := of_decide_eq_true (by first | (with_reducible assumption) | assumption); have q19 : x10_2 < ((rdOf ByteArray.empty x5_1 (ji14)).size : Int) := of_decide_eq_true (by first | (with_reducible assumption) | assumption); have hx19 := bt_at (rdOf ByteArray.empty x5_1 (ji14)) x10_2; replace p19 := eq_true p19; replace q19 := eq_true q19) | ((with_reducible refine gate_dst (N := 58) rfl ?_); refine Kd.R_lit Kd.string _ 9 ?hg (N := 58) ?hd (xs := ([(⟨#[97]⟩ : ByteArray), (⟨#[98]⟩ : ByteArray), (⟨#[99]⟩ : ByteArray), (⟨#[97]⟩ : ByteArray), (⟨#[100]⟩ : ByteArray)] : List ByteArray)) (inner := [.string (⟨#[97]⟩ : ByteArray), .string (⟨#[98]⟩ : ByteArray), .string (⟨#[99]⟩ : ByteArray), .string (⟨#[97]⟩ : ByteArray), .string (⟨#[100]⟩ : ByteArray)]) (ok := fun _ => True) (okp := fun _ => True) ?hr ?hp (fun _ hk => hk) trivial (Below.refl _ _) (Nat.le_refl _) (by simp) ?_; (case hd => rfl); (case hg => rfl); (case hr => first | (go_simp; done) | (go_simp; rfl)); (case hp => exact (Reps.one (show Kd.M Kd.string _ _ _ (⟨#[97]⟩ : ByteArray) [.string (⟨#[97]⟩ : ByteArray)] from rfl) (Reps.one (show Kd.M Kd.string _ _ _ (⟨#[98]⟩ : ByteArray) [.string (⟨#[98]⟩ : ByteArray)] from rfl) (Reps.one (show Kd.M Kd.string _ _ _ (⟨#[99]⟩ : ByteArray) [.string (⟨#[99]⟩ : ByteArray)] from rfl) (Reps.one (show Kd.M Kd.string _ _ _ (⟨#[97]⟩ : ByteArray) [.string (⟨#[97]⟩ : ByteArray)] from rfl) (Reps.one (show Kd.M Kd.string _ _ _ (⟨#[100]⟩ : ByteArray) [.string (⟨#[100]⟩ : ByteArray)] from rfl) (Reps.none _ _))))))); intro v254 w25 ho26 hb hg_ hnew_; clear hg_ hnew_; (first | rw [← Ny253.out] at ho26 | (simp only [Int.reduceToNat] at ho26; rw [← Ny253.out] at ho26)); have n0_ := Aside0.mk (Kd.R_elder' (by (with_reducible repeat (first | apply Kd.R_alloc | apply Kd.R_drewN | apply Kd.R_drew)); exact HO_5.out) (Kd.R_base ho26) hb); have n1_ := Aside0.mk (Kd.R_lower (Kd.R_new' ho26 (Kd.R_lt (by (with_reducible repeat (first | apply Kd.R_alloc | apply Kd.R_drewN | apply Kd.R_drew)); exact HO_5.out))) (keep_size (w := w) (g := g) (row := none) (by repeat (first | (with_reducible first | exact HK.out | apply KeepBut.set_ | apply keep_drewN | apply keep_drew | apply keep_alloc) | exact HK.out)))); have n2_ := Aside0.mk (IsS79.below (by repeat (first | (with_reducible first | exact HI0.out | apply IsS79.alloc | apply IsS79.drewN | apply IsS79.drew | apply IsS79.set_1) | exact HI0.out)) hb); have n3_ := Aside0.mk (KeepBut.trans (by repeat (first | (with_reducible first | exact HK.out | apply KeepBut.set_ | apply keep_drewN | apply keep_drew | apply keep_alloc) | exact HK.out)) (KeepBut.of_below hb g none) (.inl rfl)); have n4_ := Aside0.mk (below_step (by repeat (first | (with_reducible first | exact HB.out | apply below_alloc | apply pw_below_drewN | apply below_drew1 | refine below_set ?_ (IsS79.ge HI0.out)) | exact HB.out)) hb); clear HO_5; clear HI0; clear HK; clear HB; have HO_5 := n0_; have HO255 := n1_; have HI0 := n2_; have HK := n3_; have HB := n4_; clear n0_ n1_ n2_ n3_ n4_; clear hb ho26; obtain ⟨Ao27, co27, eo27⟩ := Kd.R_slice HO255.out; subst eo27) | ((with_reducible refine gate_callee (f := 82) rfl ?_); refine goesL_ (some 59) rfl rfl Tryd.func82 (by kernel_rfl) rfl #[.pointer (some ⟨g, 0, none⟩), .slice Ao27 y253.length co27] rfl (by (try simp only [List.map_toArray, List.map_cons, List.map_nil]); first | done | rfl | (simp only [List.length_drop, List.length_take]; rfl)) ?_; (with_reducible refine (spec_l6Rd_of.calls k2 g s0_0 t251 _ _ y253 t256 t257 w0 _ ?side1 ?side2 ?side3 ?side4 ?side5 A21.out).mono ?_); (case side1 => repeat (first | (with_reducible first | exact HI0.out | apply IsS79.alloc | apply IsS79.drewN | apply IsS79.drew | apply IsS79.set_1) | exact HI0.out)); (case side2 => repeat (first | (with_reducible first | exact HB.out | apply below_alloc | apply pw_below_drewN | apply below_drew1 | refine below_set ?_ (IsS79.ge HI0.out)) | exact HB.out)); (case side3 => repeat (first | exact (Kd.R_reads' HO255.out).2.2 | (with_reducible refine Kd.C_alloc ?_ _) | (with_reducible refine Kd.C_drewN ?_ _) | (with_reducible refine Kd.C_drew ?_))); (case side4 => exact (Kd.R_reads' HO255.out).2.1); (case side5 => exact far_slice (IsS79.own_ne HI0.out HO255.out (by decide))); rintro e w28 ⟨rfl, hi, hb, hk⟩; refine ⟨_, rfl, ?_⟩; have n0_ := Aside0.mk (Kd.R_mono (Kd.R_keep (IsS79.apart (show IsS79 w0 _ g s0_0 t251 from by repeat (first | (with_reducible first | exact HI0.out | apply IsS79.alloc | apply IsS79.drewN | apply IsS79.drew | apply IsS79.set_1) | exact HI0.out)) (by (with_reducible repeat (first | apply Kd.R_alloc | apply Kd.R_drewN | apply Kd.R_drew)); exact HO_5.out) (by decide)) hk (fun _ h => h.2)) (fun _ h => h.1)); have n1_ := Aside0.mk (Kd.R_mono (Kd.R_keep (IsS79.apart (show IsS79 w0 _ g s0_0 t251 from by repeat (first | (with_reducible first | exact HI0.out | apply IsS79.alloc | apply IsS79.drewN | apply IsS79.drew | apply IsS79.set_1) | exact HI0.out)) (by (with_reducible repeat (first | apply Kd.R_alloc | apply Kd.R_drewN | apply Kd.R_drew)); exact HO255.out) (by decide)) hk (fun _ h => h.2)) (fun _ h => h.1)); have n2_ := Aside0.mk (KeepBut.trans (by repeat (first | (with_reducible first | exact HK.out | apply KeepBut.set_ | apply keep_drewN | apply keep_drew | apply keep_alloc) | exact HK.out)) hk (.inl rfl)); have n3_ := Aside0.mk (hb); have n4_ := Aside0.mk (hi); clear HO_5; clear HO255; clear HK; clear HB; clear HI0; have HO_5 := n0_; have HO255 := n1_; have HK := n2_; have HB := n3_; have HI0 := n4_; clear n0_ n1_ n2_ n3_ n4_; (try clear hb); (try clear hb2); (try clear hk); (try clear hi)))
      first | go_roundg k2 | ((try simp only [← hji72] at H' ⊢); (try simp only [← hji51] at H' ⊢); (try simp only [← hji14] at H' ⊢); go_roundg k2)
      case measure => have := HK1.out; have := HK2.out; omega
      case rel => exact ⟨(x9_2 ++ t256), (wrap64 (x10_2 + 1)), (t257), (by first | rfl | (simp; done) | (simp [*]; done)), (by first | rfl | (simp; done) | (simp [*]; done)), H', ⟨by have := HK1.out; have := HK2.out; omega⟩, ⟨by (with_reducible repeat (first | apply Kd.R_alloc | apply Kd.R_drewN | apply Kd.R_drew)); exact Kd.R_mono HO_5.out (fun _ hk => trivial)⟩, ⟨by repeat (first | (with_reducible first | exact HI0.out | apply IsS79.alloc | apply IsS79.drewN | apply IsS79.drew | apply IsS79.set_1) | exact HI0.out)⟩, ⟨by repeat (first | (with_reducible first | exact HK.out | apply KeepBut.set_ | apply keep_drewN | apply keep_drew | apply keep_alloc) | exact HK.out)⟩, ⟨by repeat (first | (with_reducible first | exact HB.out | apply below_alloc | apply pw_below_drewN | apply below_drew1 | refine below_set ?_ (IsS79.ge HI0.out)) | exact HB.out)⟩⟩
     rw [if_neg c20] at H
     have c20b0 : ((bt (rdOf ByteArray.empty x5_1 (ji14)) x10_2) == 63) = false := beq_eq_false_iff_ne.mpr c20
     have c20b1 : ((bt (rdOf ByteArray.empty x5_1 (ji14)) x10_2) != 63) = true := bne_iff_ne.mpr c20
     have c29b0 := eq_true (of_decide_eq_true (by first | (with_reducible assumption) | assumption) : 0 ≤ x10_2)
     by_cases c30 : x10_2 ≤ (wrap64 (x10_2 + 1))
     rotate_left
     ·rw [if_neg c30] at H
      exact absurd H (by simp)
     rw [if_pos c30] at H
     have c30b0 := eq_true c30
     have c30b1 : decide (x10_2 ≤ (wrap64 (x10_2 + 1))) = true := decide_eq_true c30
     by_cases c31 : (wrap64 (x10_2 + 1)) ≤ ((rdOf ByteArray.empty x5_1 (ji14)).size : Int)
     rotate_left
     ·rw [if_neg c31] at H
      exact absurd H (by simp)
     rw [if_pos c31] at H
     have c31b0 := eq_true c31
     have c31b1 : decide ((wrap64 (x10_2 + 1)) ≤ ((rdOf ByteArray.empty x5_1 (ji14)).size : Int)) = true := decide_eq_true c31
     by_cases c32 : x9_2.size + ((rdOf ByteArray.empty x5_1 (ji14)).extract (x10_2 : Int).toNat ((wrap64 (x10_2 + 1)) : Int).toNat).size ≤ 9223372036854775807
     rotate_left
     ·rw [if_neg c32] at H
      exact absurd H (by simp)
     rw [if_pos c32] at H
     have c32b0 := eq_true c32
     have c32b1 : decide (x9_2.size + ((rdOf ByteArray.empty x5_1 (ji14)).extract (x10_2 : Int).toNat ((wrap64 (x10_2 + 1)) : Int).toNat).size ≤ 9223372036854775807) = true := decide_eq_true c32
     try have c32b2 : (9223372036854775807 < x9_2.size + ((rdOf ByteArray.empty x5_1 (ji14)).extract (x10_2 : Int).toNat ((wrap64 (x10_2 + 1)) : Int).toNat).size) = False := eq_false (Nat.not_lt.2 c32)
     try have c32b2c := c32b2
     (try simp only [ByteArray.size_extract, Nat.min_self] at c32b2c)
     have H' := Aside0.mk H
     clear H
     go_wp2_with (first | (go_at_call 81; (with_reducible refine (spec_l6Rd_pick.calls k2 g s0_0 x1001_2 3 t250 t251 w0 _ ?side1 ?side2 A12.out).mono ?_); (case side1 => repeat (first | (with_reducible first | exact HI0.out | apply IsS79.alloc | apply IsS79.drewN | apply IsS79.drew | apply IsS79.set_1) | exact HI0.out)); (case side2 => repeat (first | (with_reducible first | exact HB.out | apply below_alloc | apply pw_below_drewN | apply below_drew1 | refine below_set ?_ (IsS79.ge HI0.out)) | exact HB.out)); rintro e w33 ⟨rfl, hi, hb, hk⟩; have n0_ := Aside0.mk (Kd.R_mono (Kd.R_keep (IsS79.apart (show IsS79 w0 _ g s0_0 x1001_2 from by repeat (first | (with_reducible first | exact HI0.out | apply IsS79.alloc | apply IsS79.drewN | apply IsS79.drew | apply IsS79.set_1) | exact HI0.out)) (by (with_reducible repeat (first | apply Kd.R_alloc | apply Kd.R_drewN | apply Kd.R_drew)); exact HO_5.out) (by decide)) hk (fun _ h => h.2)) (fun _ h => h.1)); have n1_ := Aside0.mk (KeepBut.trans (by repeat (first | (with_reducible first | exact HK.out | apply KeepBut.set_ | apply keep_drewN | apply keep_drew | apply keep_alloc) | exact HK.out)) hk (.inl rfl)); have n2_ := Aside0.mk (hb); have n3_ := Aside0.mk (hi); clear HO_5; clear HK; clear HB; clear HI0; have HO_5 := n0_; have HK := n1_; have HB := n2_; have HI0 := n3_; clear n0_ n1_ n2_ n3_; (try clear hb); (try clear hb2); (try clear hk); (try clear hi); obtain ⟨Ao34, co34, eo34⟩ := Kd.R_slice HO_5.out; subst eo34; have p252 : 0 ≤ ((ji14) : Int) := of_decide_eq_true (by first | (with_reducible assumption) | assumption); have q252 : (ji14) < (x5_1.length : Int) := of_decide_eq_true (by first | (with_reducible assumption) | assumption); obtain ⟨ad252, e252, hx252_0⟩ := Kd.at_string (Kd.R_reads' HO_5.out).2.2 (ji14) p252 q252; cases e252; replace p252 := eq_true p252; replace q252 := eq_true q252; have p19 : 0 ≤ (x10_2 : Int) := of_decide_eq_true (by first | (with_reducible assumption) | assumption); have q19 : x10_2 < ((rdOf ByteArray.empty x5_1 (ji14)).size : Int) := of_decide_eq_true (by first | (with_reducible assumption) | assumption); have hx19 := bt_at (rdOf ByteArray.empty x5_1 (ji14)) x10_2; replace p19 := eq_true p19; replace q19 := eq_true q19; have p258 : 0 ≤ ((ji14) : Int) := of_decide_eq_true (by first | (with_reducible assumption) | assumption); have q258 : (ji14) < (x5_1.length : Int) := of_decide_eq_true (by first | (with_reducible assumption) | assumption); obtain ⟨ad258, e258, hx258_0⟩ := Kd.at_string (Kd.R_reads' HO_5.out).2.2 (ji14) p258 q258; obtain rfl : ad252 = ad258 := (by injection e258); replace p258 := eq_true p258; replace q258 := eq_true q258))
     first | go_roundg k2 | ((try simp only [← hji72] at H' ⊢); (try simp only [← hji51] at H' ⊢); (try simp only [← hji14] at H' ⊢); go_roundg k2)
     case measure => have := HK1.out; have := HK2.out; omega
     case rel => exact ⟨(x9_2 ++ ((rdOf ByteArray.empty x5_1 (ji14)).extract (x10_2 : Int).toNat ((wrap64 (x10_2 + 1)) : Int).toNat)), (wrap64 (x10_2 + 1)), (t251), (by first | rfl | (simp; done) | (simp only [← hji14] <;> (first | rfl | simp)) | (simp [*]; done)), (by first | rfl | (simp; done) | (simp [*]; done)), H', ⟨by have := HK1.out; have := HK2.out; omega⟩, ⟨by (with_reducible repeat (first | apply Kd.R_alloc | apply Kd.R_drewN | apply Kd.R_drew)); exact HO_5.out⟩, ⟨by repeat (first | (with_reducible first | exact HI0.out | apply IsS79.alloc | apply IsS79.drewN | apply IsS79.drew | apply IsS79.set_1) | exact HI0.out)⟩, ⟨by repeat (first | (with_reducible first | exact HK.out | apply KeepBut.set_ | apply keep_drewN | apply keep_drew | apply keep_alloc) | exact HK.out)⟩, ⟨by repeat (first | (with_reducible first | exact HB.out | apply below_alloc | apply pw_below_drewN | apply below_drew1 | refine below_set ?_ (IsS79.ge HI0.out)) | exact HB.out)⟩⟩
end Go.Proofs.YtejoneninbdjbaaDoor.E
end
section
namespace Go.Proofs.YtejoneninbdjbaaDoor.E
open Go.RowKit Go.Proofs.YtejoneninbdjbaaDoorW.PrintWords Go.Proofs.YtejoneninbdjbaaDoorW.PrintLast Go.Proofs.YtejoneninbdjbaaDoorW.PrintMore
attribute [local go_sem] max2_int min2_int max_two min_two max_three min_three max_four min_four
set_option linter.unusedVariables false
set_option linter.unusedSimpArgs false
attribute [local go_sem] str_leq_ str_gtr_ str_geq_
def spec_l92Stem.l0 : Nat → List ByteArray → List Int → Int → List Int → Int → Option (List ByteArray × List Int × Int)
 | 0, _, _, _, _, _ => none
 | k + 1, x6, x7, x8, x1000, x1001 => if x8 < (x6.length : Int) then (if x8 = 0 then (if x7.length < 17592186044416 then (spec_l92Stem.l0 k x6 (x7 ++ [(-1)]) (wrap64 (x8 + 1)) x1000 x1001) else (none)) else ((spec_l6Rd_pick.f k x1000 x1001 x8).bind fun bt548 => (if x7.length < 17592186044416 then (spec_l92Stem.l0 k x6 (x7 ++ [bt548.1]) (wrap64 (x8 + 1)) x1000 bt548.2) else (none)))) else (if (x7.length : Int) > 0 then ((spec_l6Rd_pick.f k x1000 x1001 30).bind fun bt553 => (if bt553.1 = 0 then ((some (([(-2), (x7.length : Int), (-1)] : List Int) : List Int)).bind fun y555 => ((spec_l6Rd_pick.f k x1000 bt553.2 3).bind fun bt558 => (if 0 ≤ bt558.1 then (if bt558.1 < (y555.length : Int) then (if 0 ≤ (wrap64 ((x7.length : Int) - 1)) then (if (wrap64 ((x7.length : Int) - 1)) < (x7.length : Int) then (some (x6, (x7.set ((wrap64 ((x7.length : Int) - 1)) : Int).toNat (rd y555 bt558.1)), bt558.2)) else (none)) else (none)) else (none)) else (none)))) else (if bt553.1 = 1 then (if 1 ≤ (x7.length : Int) then (some (x6, (x7.drop (1 : Int).toNat), bt553.2)) else (none)) else (some (x6, x7, bt553.2))))) else (some (x6, x7, x1001)))
def spec_l92Stem.f (k : Nat) (s0_0 : List Int) (s0_1 : Int) (a1 : Bool) : Option (List ByteArray × List Int × Int) := (spec_l92Books.f k s0_0 s0_1 a1).bind fun bt538 => (spec_l92Stem.l0 k bt538.1 (([] : List Int)) 0 s0_0 bt538.2)
set_option maxHeartbeats 8000000 in
set_option maxRecDepth 100000 in
theorem spec_l92Stem.calls (k : Nat) (g : Nat) (s0_0 : List Int) (s0_1 : Int) (a1 : Bool) (r1 : List ByteArray) (r2 : List Int) (r3 : Int) (w0 w : World) (hI : IsS79 w0 w g s0_0 s0_1) (hB : Below w0.heap.size w0 w) (h : spec_l92Stem.f k s0_0 s0_1 a1 = some (r1, r2, r3)) :
  Calls Tryd.prog 72 #[.pointer (some ⟨g, 0, none⟩), .bool a1] w fun e w' => ∃ v0_ v1_ : Value, e = .returned (.tuple #[v0_, v1_]) ∧ Kd.R Kd.string 9 w' w.heap.size (fun _ => True) v0_ r1 ∧ Kd.Q (Kd.int .i64) 3 w' w.heap.size (fun _ => True) v1_ r2 ∧ IsS79 w0 w' g s0_0 r3 ∧ Below w0.heap.size w0 w' ∧ KeepBut w w' g none := by
 have HI0 := Aside0.mk hI
 have HK := Aside0.mk (KeepBut.refl w g none)
 have HL := Aside0.mk hB.size
 clear hI
 have HW0 := Aside0.mk hB.size
 have HB := Aside0.mk hB
 clear hB
 have H : ((spec_l92Books.f k s0_0 s0_1 a1).bind fun bt538 => (spec_l92Stem.l0 k bt538.1 (([] : List Int)) 0 s0_0 bt538.2)) = some (r1, r2, r3) := h
 clear h
 replace H := Option.bind_eq_some_iff.mp H
 obtain ⟨⟨t538, t541⟩, A30, H⟩ := H
 replace H : (spec_l92Stem.l0 k t538 (([] : List Int)) 0 s0_0 t541) = some (r1, r2, r3) := H
 have A3 := Aside0.mk A30
 clear A30
 obtain ⟨y542, hy542⟩ : ∃ y_ : List Int, y_ = (([] : List Int)) := ⟨_, rfl⟩
 replace H : (spec_l92Stem.l0 k t538 y542 0 s0_0 t541) = some (r1, r2, r3) := by first | (rw [hy542]; with_reducible exact H) | (have H2_ := (Option.bind_some _ _).symm.trans H; rw [hy542]; with_reducible exact H2_) | (have H2_ := (Option.bind_some _ _).symm.trans H; with_reducible exact H2_) | with_reducible exact H | (rw [hy542]; exact H) | exact H
 have Ny542 := Aside0.mk hy542
 clear hy542
 have H' := Aside0.mk H
 clear H
 go_enter Tryd.func72, Tryd.ntmps72
 go_wp2_with (first | (go_at_call 66; (with_reducible refine (spec_l92Books.calls k g s0_0 s0_1 a1 t538 t541 w0 _ ?side1 ?side2 A3.out).mono ?_); (case side1 => repeat (first | (with_reducible first | exact HI0.out | apply IsS79.alloc | apply IsS79.drewN | apply IsS79.drew | apply IsS79.set_1) | exact HI0.out)); (case side2 => repeat (first | (with_reducible first | exact HB.out | apply below_alloc | apply pw_below_drewN | apply below_drew1 | refine below_set ?_ (IsS79.ge HI0.out)) | exact HB.out)); rintro e w4 ⟨v539, rfl, ho0, hi, hb, hk⟩; have n0_ := Aside0.mk (Kd.R_lower ho0 (keep_size (w := w) (g := g) (row := none) (by repeat (first | (with_reducible first | exact HK.out | apply KeepBut.set_ | apply keep_drewN | apply keep_drew | apply keep_alloc) | exact HK.out)))); have n1_ := Aside0.mk (KeepBut.trans (by repeat (first | (with_reducible first | exact HK.out | apply KeepBut.set_ | apply keep_drewN | apply keep_drew | apply keep_alloc) | exact HK.out)) hk (.inl rfl)); have n2_ := Aside0.mk (hb); have n3_ := Aside0.mk (hi); clear HK; clear HB; clear HI0; have HO540 := n0_; have HK := n1_; have HB := n2_; have HI0 := n3_; clear n0_ n1_ n2_ n3_; (try clear hb); (try clear hb2); (try clear hk); (try clear hi); (try clear ho0)) | ((with_reducible refine gate_dst (N := 12) rfl ?_); refine Kd.R_lit (Kd.int .i64) _ 3 ?hg (N := 12) ?hd (xs := ([] : List Int)) (inner := []) (ok := fun _ => True) (okp := fun _ => True) ?hr ?hp (fun _ hk => hk) trivial (Below.refl _ _) (Nat.le_refl _) (by simp) ?_; (case hd => rfl); (case hg => rfl); (case hr => first | (go_simp; done) | (go_simp; rfl)); (case hp => exact (Reps.none _ _)); intro v543 w5 ho6 hb hg_ hnew_; clear hg_ hnew_; (first | rw [← Ny542.out] at ho6 | (simp only [Int.reduceToNat] at ho6; rw [← Ny542.out] at ho6)); have n0_ := Aside0.mk (Kd.R_below (by (with_reducible repeat (first | apply Kd.R_alloc | apply Kd.R_drewN | apply Kd.R_drew)); exact HO540.out) hb); have n1_ := Aside0.mk (Kd.R_lower ho6 (keep_size (w := w) (g := g) (row := none) (by repeat (first | (with_reducible first | exact HK.out | apply KeepBut.set_ | apply keep_drewN | apply keep_drew | apply keep_alloc) | exact HK.out)))); have n2_ := Aside0.mk (IsS79.below (by repeat (first | (with_reducible first | exact HI0.out | apply IsS79.alloc | apply IsS79.drewN | apply IsS79.drew | apply IsS79.set_1) | exact HI0.out)) hb); have n3_ := Aside0.mk (KeepBut.trans (by repeat (first | (with_reducible first | exact HK.out | apply KeepBut.set_ | apply keep_drewN | apply keep_drew | apply keep_alloc) | exact HK.out)) (KeepBut.of_below hb g none) (.inl rfl)); have n4_ := Aside0.mk (below_step (by repeat (first | (with_reducible first | exact HB.out | apply below_alloc | apply pw_below_drewN | apply below_drew1 | refine below_set ?_ (IsS79.ge HI0.out)) | exact HB.out)) hb); clear HO540; clear HI0; clear HK; clear HB; have HO540 := n0_; have HO544 := n1_; have HI0 := n2_; have HK := n3_; have HB := n4_; clear n0_ n1_ n2_ n3_ n4_; clear hb ho6))
 repeat (go_quiet (first | (go_at_call 66; (with_reducible refine (spec_l92Books.calls k g s0_0 s0_1 a1 t538 t541 w0 _ ?side1 ?side2 A3.out).mono ?_); (case side1 => repeat (first | (with_reducible first | exact HI0.out | apply IsS79.alloc | apply IsS79.drewN | apply IsS79.drew | apply IsS79.set_1) | exact HI0.out)); (case side2 => repeat (first | (with_reducible first | exact HB.out | apply below_alloc | apply pw_below_drewN | apply below_drew1 | refine below_set ?_ (IsS79.ge HI0.out)) | exact HB.out)); rintro e w4 ⟨v539, rfl, ho0, hi, hb, hk⟩; have n0_ := Aside0.mk (Kd.R_lower ho0 (keep_size (w := w) (g := g) (row := none) (by repeat (first | (with_reducible first | exact HK.out | apply KeepBut.set_ | apply keep_drewN | apply keep_drew | apply keep_alloc) | exact HK.out)))); have n1_ := Aside0.mk (KeepBut.trans (by repeat (first | (with_reducible first | exact HK.out | apply KeepBut.set_ | apply keep_drewN | apply keep_drew | apply keep_alloc) | exact HK.out)) hk (.inl rfl)); have n2_ := Aside0.mk (hb); have n3_ := Aside0.mk (hi); clear HK; clear HB; clear HI0; have HO540 := n0_; have HK := n1_; have HB := n2_; have HI0 := n3_; clear n0_ n1_ n2_ n3_; (try clear hb); (try clear hb2); (try clear hk); (try clear hi); (try clear ho0)) | ((with_reducible refine gate_dst (N := 12) rfl ?_); refine Kd.R_lit (Kd.int .i64) _ 3 ?hg (N := 12) ?hd (xs := ([] : List Int)) (inner := []) (ok := fun _ => True) (okp := fun _ => True) ?hr ?hp (fun _ hk => hk) trivial (Below.refl _ _) (Nat.le_refl _) (by simp) ?_; (case hd => rfl); (case hg => rfl); (case hr => first | (go_simp; done) | (go_simp; rfl)); (case hp => exact (Reps.none _ _)); intro v543 w5 ho6 hb hg_ hnew_; clear hg_ hnew_; (first | rw [← Ny542.out] at ho6 | (simp only [Int.reduceToNat] at ho6; rw [← Ny542.out] at ho6)); have n0_ := Aside0.mk (Kd.R_below (by (with_reducible repeat (first | apply Kd.R_alloc | apply Kd.R_drewN | apply Kd.R_drew)); exact HO540.out) hb); have n1_ := Aside0.mk (Kd.R_lower ho6 (keep_size (w := w) (g := g) (row := none) (by repeat (first | (with_reducible first | exact HK.out | apply KeepBut.set_ | apply keep_drewN | apply keep_drew | apply keep_alloc) | exact HK.out)))); have n2_ := Aside0.mk (IsS79.below (by repeat (first | (with_reducible first | exact HI0.out | apply IsS79.alloc | apply IsS79.drewN | apply IsS79.drew | apply IsS79.set_1) | exact HI0.out)) hb); have n3_ := Aside0.mk (KeepBut.trans (by repeat (first | (with_reducible first | exact HK.out | apply KeepBut.set_ | apply keep_drewN | apply keep_drew | apply keep_alloc) | exact HK.out)) (KeepBut.of_below hb g none) (.inl rfl)); have n4_ := Aside0.mk (below_step (by repeat (first | (with_reducible first | exact HB.out | apply below_alloc | apply pw_below_drewN | apply below_drew1 | refine below_set ?_ (IsS79.ge HI0.out)) | exact HB.out)) hb); clear HO540; clear HI0; clear HK; clear HB; have HO540 := n0_; have HO544 := n1_; have HI0 := n2_; have HK := n3_; have HB := n4_; clear n0_ n1_ n2_ n3_ n4_; clear hb ho6)); try go_wp2_with (first | (go_at_call 66; (with_reducible refine (spec_l92Books.calls k g s0_0 s0_1 a1 t538 t541 w0 _ ?side1 ?side2 A3.out).mono ?_); (case side1 => repeat (first | (with_reducible first | exact HI0.out | apply IsS79.alloc | apply IsS79.drewN | apply IsS79.drew | apply IsS79.set_1) | exact HI0.out)); (case side2 => repeat (first | (with_reducible first | exact HB.out | apply below_alloc | apply pw_below_drewN | apply below_drew1 | refine below_set ?_ (IsS79.ge HI0.out)) | exact HB.out)); rintro e w4 ⟨v539, rfl, ho0, hi, hb, hk⟩; have n0_ := Aside0.mk (Kd.R_lower ho0 (keep_size (w := w) (g := g) (row := none) (by repeat (first | (with_reducible first | exact HK.out | apply KeepBut.set_ | apply keep_drewN | apply keep_drew | apply keep_alloc) | exact HK.out)))); have n1_ := Aside0.mk (KeepBut.trans (by repeat (first | (with_reducible first | exact HK.out | apply KeepBut.set_ | apply keep_drewN | apply keep_drew | apply keep_alloc) | exact HK.out)) hk (.inl rfl)); have n2_ := Aside0.mk (hb); have n3_ := Aside0.mk (hi); clear HK; clear HB; clear HI0; have HO540 := n0_; have HK := n1_; have HB := n2_; have HI0 := n3_; clear n0_ n1_ n2_ n3_; (try clear hb); (try clear hb2); (try clear hk); (try clear hi); (try clear ho0)) | ((with_reducible refine gate_dst (N := 12) rfl ?_); refine Kd.R_lit (Kd.int .i64) _ 3 ?hg (N := 12) ?hd (xs := ([] : List Int)) (inner := []) (ok := fun _ => True) (okp := fun _ => True) ?hr ?hp (fun _ hk => hk) trivial (Below.refl _ _) (Nat.le_refl _) (by simp) ?_; (case hd => rfl); (case hg => rfl); (case hr => first | (go_simp; done) | (go_simp; rfl)); (case hp => exact (Reps.none _ _)); intro v543 w5 ho6 hb hg_ hnew_; clear hg_ hnew_; (first | rw [← Ny542.out] at ho6 | (simp only [Int.reduceToNat] at ho6; rw [← Ny542.out] at ho6)); have n0_ := Aside0.mk (Kd.R_below (by (with_reducible repeat (first | apply Kd.R_alloc | apply Kd.R_drewN | apply Kd.R_drew)); exact HO540.out) hb); have n1_ := Aside0.mk (Kd.R_lower ho6 (keep_size (w := w) (g := g) (row := none) (by repeat (first | (with_reducible first | exact HK.out | apply KeepBut.set_ | apply keep_drewN | apply keep_drew | apply keep_alloc) | exact HK.out)))); have n2_ := Aside0.mk (IsS79.below (by repeat (first | (with_reducible first | exact HI0.out | apply IsS79.alloc | apply IsS79.drewN | apply IsS79.drew | apply IsS79.set_1) | exact HI0.out)) hb); have n3_ := Aside0.mk (KeepBut.trans (by repeat (first | (with_reducible first | exact HK.out | apply KeepBut.set_ | apply keep_drewN | apply keep_drew | apply keep_alloc) | exact HK.out)) (KeepBut.of_below hb g none) (.inl rfl)); have n4_ := Aside0.mk (below_step (by repeat (first | (with_reducible first | exact HB.out | apply below_alloc | apply pw_below_drewN | apply below_drew1 | refine below_set ?_ (IsS79.ge HI0.out)) | exact HB.out)) hb); clear HO540; clear HI0; clear HK; clear HB; have HO540 := n0_; have HO544 := n1_; have HI0 := n2_; have HK := n3_; have HB := n4_; clear n0_ n1_ n2_ n3_ n4_; clear hb ho6)))
 go_loopg [7, 8] k (fun kq v7 v8 w' => ∃ (x7_1 : List Int) (x8_1 : Int) (x1001_1 : Int), v8 = .int .i64 x8_1 ∧ Aside0 (spec_l92Stem.l0 kq t538 x7_1 x8_1 s0_0 x1001_1 = some (r1, r2, r3)) ∧ Aside0 (kq ≤ k) ∧ Aside0 (Kd.R Kd.string 9 w' w.heap.size (fun _ => True) v539 t538) ∧ Aside0 (Kd.R (Kd.int .i64) 3 w' w.heap.size (fun _ => True) v7 x7_1) ∧ Aside0 (IsS79 w0 w' g s0_0 x1001_1) ∧ Aside0 (KeepBut w w' g none) ∧ Aside0 (Below w0.heap.size w0 w'))
 case atStart => exact ⟨(y542), (0), (t541), (by first | rfl | (simp; done) | (simp [*]; done)), H', ⟨Nat.le_refl _⟩, ⟨by (with_reducible repeat (first | apply Kd.R_alloc | apply Kd.R_drewN | apply Kd.R_drew)); exact HO540.out⟩, ⟨by (with_reducible repeat (first | apply Kd.R_alloc | apply Kd.R_drewN | apply Kd.R_drew)); exact HO544.out⟩, ⟨by repeat (first | (with_reducible first | exact HI0.out | apply IsS79.alloc | apply IsS79.drewN | apply IsS79.drew | apply IsS79.set_1) | exact HI0.out)⟩, ⟨by repeat (first | (with_reducible first | exact HK.out | apply KeepBut.set_ | apply keep_drewN | apply keep_drew | apply keep_alloc) | exact HK.out)⟩, ⟨by repeat (first | (with_reducible first | exact HB.out | apply below_alloc | apply pw_below_drewN | apply below_drew1 | refine below_set ?_ (IsS79.ge HI0.out)) | exact HB.out)⟩⟩
 case round =>
  clear H'
  try clear p2
  obtain ⟨x7_1, x8_1, x1001_1, rfl, HA, HK1, HO_6, HO_7, HI0, HK, HB⟩ := hrel
  cases gk with
  | zero => exact absurd HA.out (by simp [spec_l92Stem.l0])
  | succ k1 =>
   have H := HA.out
   clear HA
   simp only [spec_l92Stem.l0] at H
   by_cases c7 : x8_1 < (t538.length : Int)
   ·rw [if_pos c7] at H
    have c7b0 : decide (x8_1 < (t538.length : Int)) = true := decide_eq_true c7
    clear c7
    by_cases c8 : x8_1 = 0
    ·rw [if_pos c8] at H
     have c8b0 : (x8_1 == 0) = true := beq_iff_eq.mpr c8
     have c8b1 : (x8_1 != 0) = false := bne_eq_false_iff_eq.mpr c8
     clear c8
     by_cases c9 : x7_1.length < 17592186044416
     rotate_left
     ·rw [if_neg c9] at H
      exact absurd H (by simp)
     rw [if_pos c9] at H
     have LMc9 := Aside0.mk c9
     clear c9
     obtain ⟨y545, hy545⟩ : ∃ y_ : List Int, y_ = (x7_1 ++ [(-1)]) := ⟨_, rfl⟩
     replace H : (spec_l92Stem.l0 k1 t538 y545 (wrap64 (x8_1 + 1)) s0_0 x1001_1) = some (r1, r2, r3) := by first | (rw [hy545]; with_reducible exact H) | (have H2_ := (Option.bind_some _ _).symm.trans H; rw [hy545]; with_reducible exact H2_) | (have H2_ := (Option.bind_some _ _).symm.trans H; with_reducible exact H2_) | with_reducible exact H | (rw [hy545]; exact H) | exact H
     have Ny545 := Aside0.mk hy545
     clear hy545
     have H' := Aside0.mk H
     clear H
     obtain ⟨Ao10, co10, eo10⟩ := Kd.R_slice HO_6.out
     subst eo10
     go_wp2_with (first | ((with_reducible refine gate_builtin (b := .append) (xs := #[.tmp 21, .tmp 22]) rfl ?_); at_builtin; refine Kd.R_append (Kd.int .i64) w.heap.size rfl (.tmp 21) (.tmp 22) 29 3 (.int .i64 0) 8 rfl Tryd.underlying29 info3 rfl (by decide) (by omega) u7 x7_1 (-1) [.int .i64 (-1)] (fun _ => True) (fun _ => False) rfl rfl ?aP (fun _ hk => hk.elim) ?aF ?aO (Below.refl _ _) ?aS ?aL ?_; (case aP => exact rfl); (case aF => exact (fun _ _ => trivial)); (case aO => exact (by (with_reducible repeat (first | apply Kd.R_alloc | apply Kd.R_drewN | apply Kd.R_drew)); exact HO_7.out)); (case aS => exact (keep_size (w := w) (g := g) (row := none) (by repeat (first | (with_reducible first | exact HK.out | apply KeepBut.set_ | apply keep_drewN | apply keep_drew | apply keep_alloc) | exact HK.out)))); (case aL => have := LMc9.out; omega); intro v546 w11 ho hb hg hat; rw [← Ny545.out] at ho; have n0_ := Aside0.mk (Kd.R_over' (by (with_reducible repeat (first | apply Kd.R_alloc | apply Kd.R_drewN | apply Kd.R_drew)); exact HO_6.out) (Kd.R_typed (by (with_reducible repeat (first | apply Kd.R_alloc | apply Kd.R_drewN | apply Kd.R_drew)); exact HO_7.out)) (by decide) hg); have n1_ := Aside0.mk (IsS79.grown (by repeat (first | (with_reducible first | exact HI0.out | apply IsS79.alloc | apply IsS79.drewN | apply IsS79.drew | apply IsS79.set_1) | exact HI0.out)) hg (IsS79.own_ne HI0.out HO_7.out (by decide))); have n2_ := Aside0.mk (below_weaken (by repeat (first | (with_reducible first | exact HB.out | apply below_alloc | apply pw_below_drewN | apply below_drew1 | refine below_set ?_ (IsS79.ge HI0.out)) | exact HB.out)) HL.out hb); have n3_ := Aside0.mk (KeepBut.trans (by repeat (first | (with_reducible first | exact HK.out | apply KeepBut.set_ | apply keep_drewN | apply keep_drew | apply keep_alloc) | exact HK.out)) (KeepBut.of_grown hg g) (Kd.R_base2 HO_7.out)); have n4_ := Aside0.mk (ho); clear HO_6; clear HI0; clear HB; clear HK; clear HO_7; have HO_6 := n0_; have HI0 := n1_; have HB := n2_; have HK := n3_; have HO547 := n4_; clear n0_ n1_ n2_ n3_ n4_; clear ho hb hg hat))
     repeat (go_quiet (first | ((with_reducible refine gate_builtin (b := .append) (xs := #[.tmp 21, .tmp 22]) rfl ?_); at_builtin; refine Kd.R_append (Kd.int .i64) w.heap.size rfl (.tmp 21) (.tmp 22) 29 3 (.int .i64 0) 8 rfl Tryd.underlying29 info3 rfl (by decide) (by omega) u7 x7_1 (-1) [.int .i64 (-1)] (fun _ => True) (fun _ => False) rfl rfl ?aP (fun _ hk => hk.elim) ?aF ?aO (Below.refl _ _) ?aS ?aL ?_; (case aP => exact rfl); (case aF => exact (fun _ _ => trivial)); (case aO => exact (by (with_reducible repeat (first | apply Kd.R_alloc | apply Kd.R_drewN | apply Kd.R_drew)); exact HO_7.out)); (case aS => exact (keep_size (w := w) (g := g) (row := none) (by repeat (first | (with_reducible first | exact HK.out | apply KeepBut.set_ | apply keep_drewN | apply keep_drew | apply keep_alloc) | exact HK.out)))); (case aL => have := LMc9.out; omega); intro v546 w11 ho hb hg hat; rw [← Ny545.out] at ho; have n0_ := Aside0.mk (Kd.R_over' (by (with_reducible repeat (first | apply Kd.R_alloc | apply Kd.R_drewN | apply Kd.R_drew)); exact HO_6.out) (Kd.R_typed (by (with_reducible repeat (first | apply Kd.R_alloc | apply Kd.R_drewN | apply Kd.R_drew)); exact HO_7.out)) (by decide) hg); have n1_ := Aside0.mk (IsS79.grown (by repeat (first | (with_reducible first | exact HI0.out | apply IsS79.alloc | apply IsS79.drewN | apply IsS79.drew | apply IsS79.set_1) | exact HI0.out)) hg (IsS79.own_ne HI0.out HO_7.out (by decide))); have n2_ := Aside0.mk (below_weaken (by repeat (first | (with_reducible first | exact HB.out | apply below_alloc | apply pw_below_drewN | apply below_drew1 | refine below_set ?_ (IsS79.ge HI0.out)) | exact HB.out)) HL.out hb); have n3_ := Aside0.mk (KeepBut.trans (by repeat (first | (with_reducible first | exact HK.out | apply KeepBut.set_ | apply keep_drewN | apply keep_drew | apply keep_alloc) | exact HK.out)) (KeepBut.of_grown hg g) (Kd.R_base2 HO_7.out)); have n4_ := Aside0.mk (ho); clear HO_6; clear HI0; clear HB; clear HK; clear HO_7; have HO_6 := n0_; have HI0 := n1_; have HB := n2_; have HK := n3_; have HO547 := n4_; clear n0_ n1_ n2_ n3_ n4_; clear ho hb hg hat)); try go_wp2_with (first | ((with_reducible refine gate_builtin (b := .append) (xs := #[.tmp 21, .tmp 22]) rfl ?_); at_builtin; refine Kd.R_append (Kd.int .i64) w.heap.size rfl (.tmp 21) (.tmp 22) 29 3 (.int .i64 0) 8 rfl Tryd.underlying29 info3 rfl (by decide) (by omega) u7 x7_1 (-1) [.int .i64 (-1)] (fun _ => True) (fun _ => False) rfl rfl ?aP (fun _ hk => hk.elim) ?aF ?aO (Below.refl _ _) ?aS ?aL ?_; (case aP => exact rfl); (case aF => exact (fun _ _ => trivial)); (case aO => exact (by (with_reducible repeat (first | apply Kd.R_alloc | apply Kd.R_drewN | apply Kd.R_drew)); exact HO_7.out)); (case aS => exact (keep_size (w := w) (g := g) (row := none) (by repeat (first | (with_reducible first | exact HK.out | apply KeepBut.set_ | apply keep_drewN | apply keep_drew | apply keep_alloc) | exact HK.out)))); (case aL => have := LMc9.out; omega); intro v546 w11 ho hb hg hat; rw [← Ny545.out] at ho; have n0_ := Aside0.mk (Kd.R_over' (by (with_reducible repeat (first | apply Kd.R_alloc | apply Kd.R_drewN | apply Kd.R_drew)); exact HO_6.out) (Kd.R_typed (by (with_reducible repeat (first | apply Kd.R_alloc | apply Kd.R_drewN | apply Kd.R_drew)); exact HO_7.out)) (by decide) hg); have n1_ := Aside0.mk (IsS79.grown (by repeat (first | (with_reducible first | exact HI0.out | apply IsS79.alloc | apply IsS79.drewN | apply IsS79.drew | apply IsS79.set_1) | exact HI0.out)) hg (IsS79.own_ne HI0.out HO_7.out (by decide))); have n2_ := Aside0.mk (below_weaken (by repeat (first | (with_reducible first | exact HB.out | apply below_alloc | apply pw_below_drewN | apply below_drew1 | refine below_set ?_ (IsS79.ge HI0.out)) | exact HB.out)) HL.out hb); have n3_ := Aside0.mk (KeepBut.trans (by repeat (first | (with_reducible first | exact HK.out | apply KeepBut.set_ | apply keep_drewN | apply keep_drew | apply keep_alloc) | exact HK.out)) (KeepBut.of_grown hg g) (Kd.R_base2 HO_7.out)); have n4_ := Aside0.mk (ho); clear HO_6; clear HI0; clear HB; clear HK; clear HO_7; have HO_6 := n0_; have HI0 := n1_; have HB := n2_; have HK := n3_; have HO547 := n4_; clear n0_ n1_ n2_ n3_ n4_; clear ho hb hg hat)))
     go_roundg k1
     case measure => have := HK1.out; omega
     case rel => exact ⟨(y545), (wrap64 (x8_1 + 1)), (x1001_1), (by first | rfl | (simp; done) | (simp [*]; done)), H', ⟨by have := HK1.out; omega⟩, ⟨by (with_reducible repeat (first | apply Kd.R_alloc | apply Kd.R_drewN | apply Kd.R_drew)); exact HO_6.out⟩, ⟨by (with_reducible repeat (first | apply Kd.R_alloc | apply Kd.R_drewN | apply Kd.R_drew)); exact HO547.out⟩, ⟨by repeat (first | (with_reducible first | exact HI0.out | apply IsS79.alloc | apply IsS79.drewN | apply IsS79.drew | apply IsS79.set_1) | exact HI0.out)⟩, ⟨by repeat (first | (with_reducible first | exact HK.out | apply KeepBut.set_ | apply keep_drewN | apply keep_drew | apply keep_alloc) | exact HK.out)⟩, ⟨by repeat (first | (with_reducible first | exact HB.out | apply below_alloc | apply pw_below_drewN | apply below_drew1 | refine below_set ?_ (IsS79.ge HI0.out)) | exact HB.out)⟩⟩
    rw [if_neg c8] at H
    have c8b0 : (x8_1 == 0) = false := beq_eq_false_iff_ne.mpr c8
    have c8b1 : (x8_1 != 0) = true := bne_iff_ne.mpr c8
    replace H := Option.bind_eq_some_iff.mp H
    obtain ⟨⟨t548, t549⟩, A120, H⟩ := H
    replace H : (if x7_1.length < 17592186044416 then (spec_l92Stem.l0 k1 t538 (x7_1 ++ [t548]) (wrap64 (x8_1 + 1)) s0_0 t549) else (none)) = some (r1, r2, r3) := H
    have A12 := Aside0.mk A120
    clear A120
    by_cases c13 : x7_1.length < 17592186044416
    rotate_left
    ·rw [if_neg c13] at H
     exact absurd H (by simp)
    rw [if_pos c13] at H
    have LMc13 := Aside0.mk c13
    clear c13
    obtain ⟨y550, hy550⟩ : ∃ y_ : List Int, y_ = (x7_1 ++ [t548]) := ⟨_, rfl⟩
    replace H : (spec_l92Stem.l0 k1 t538 y550 (wrap64 (x8_1 + 1)) s0_0 t549) = some (r1, r2, r3) := by first | (rw [hy550]; with_reducible exact H) | (have H2_ := (Option.bind_some _ _).symm.trans H; rw [hy550]; with_reducible exact H2_) | (have H2_ := (Option.bind_some _ _).symm.trans H; with_reducible exact H2_) | with_reducible exact H | (rw [hy550]; exact H) | exact H
    have Ny550 := Aside0.mk hy550
    clear hy550
    have H' := Aside0.mk H
    clear H
    obtain ⟨Ao14, co14, eo14⟩ := Kd.R_slice HO_6.out
    subst eo14
    go_wp2_with (first | (go_at_call 81; (with_reducible refine (spec_l6Rd_pick.calls k1 g s0_0 x1001_1 x8_1 t548 t549 w0 _ ?side1 ?side2 A12.out).mono ?_); (case side1 => repeat (first | (with_reducible first | exact HI0.out | apply IsS79.alloc | apply IsS79.drewN | apply IsS79.drew | apply IsS79.set_1) | exact HI0.out)); (case side2 => repeat (first | (with_reducible first | exact HB.out | apply below_alloc | apply pw_below_drewN | apply below_drew1 | refine below_set ?_ (IsS79.ge HI0.out)) | exact HB.out)); rintro e w15 ⟨rfl, hi, hb, hk⟩; have n0_ := Aside0.mk (Kd.R_mono (Kd.R_keep (IsS79.apart (show IsS79 w0 _ g s0_0 x1001_1 from by repeat (first | (with_reducible first | exact HI0.out | apply IsS79.alloc | apply IsS79.drewN | apply IsS79.drew | apply IsS79.set_1) | exact HI0.out)) (by (with_reducible repeat (first | apply Kd.R_alloc | apply Kd.R_drewN | apply Kd.R_drew)); exact HO_6.out) (by decide)) hk (fun _ h => h.2)) (fun _ h => h.1)); have n1_ := Aside0.mk (Kd.R_mono (Kd.R_keep (IsS79.apart (show IsS79 w0 _ g s0_0 x1001_1 from by repeat (first | (with_reducible first | exact HI0.out | apply IsS79.alloc | apply IsS79.drewN | apply IsS79.drew | apply IsS79.set_1) | exact HI0.out)) (by (with_reducible repeat (first | apply Kd.R_alloc | apply Kd.R_drewN | apply Kd.R_drew)); exact HO_7.out) (by decide)) hk (fun _ h => h.2)) (fun _ h => h.1)); have n2_ := Aside0.mk (KeepBut.trans (by repeat (first | (with_reducible first | exact HK.out | apply KeepBut.set_ | apply keep_drewN | apply keep_drew | apply keep_alloc) | exact HK.out)) hk (.inl rfl)); have n3_ := Aside0.mk (hb); have n4_ := Aside0.mk (hi); clear HO_6; clear HO_7; clear HK; clear HB; clear HI0; have HO_6 := n0_; have HO_7 := n1_; have HK := n2_; have HB := n3_; have HI0 := n4_; clear n0_ n1_ n2_ n3_ n4_; (try clear hb); (try clear hb2); (try clear hk); (try clear hi)) | ((with_reducible refine gate_builtin (b := .append) (xs := #[.tmp 24, .tmp 28]) rfl ?_); at_builtin; refine Kd.R_append (Kd.int .i64) w.heap.size rfl (.tmp 24) (.tmp 28) 29 3 (.int .i64 0) 8 rfl Tryd.underlying29 info3 rfl (by decide) (by omega) u7 x7_1 t548 [.int .i64 t548] (fun _ => True) (fun _ => False) rfl rfl ?aP (fun _ hk => hk.elim) ?aF ?aO (Below.refl _ _) ?aS ?aL ?_; (case aP => exact rfl); (case aF => exact (fun _ _ => trivial)); (case aO => exact (by (with_reducible repeat (first | apply Kd.R_alloc | apply Kd.R_drewN | apply Kd.R_drew)); exact HO_7.out)); (case aS => exact (keep_size (w := w) (g := g) (row := none) (by repeat (first | (with_reducible first | exact HK.out | apply KeepBut.set_ | apply keep_drewN | apply keep_drew | apply keep_alloc) | exact HK.out)))); (case aL => have := LMc13.out; omega); intro v551 w16 ho hb hg hat; rw [← Ny550.out] at ho; have n0_ := Aside0.mk (Kd.R_over' (by (with_reducible repeat (first | apply Kd.R_alloc | apply Kd.R_drewN | apply Kd.R_drew)); exact HO_6.out) (Kd.R_typed (by (with_reducible repeat (first | apply Kd.R_alloc | apply Kd.R_drewN | apply Kd.R_drew)); exact HO_7.out)) (by decide) hg); have n1_ := Aside0.mk (IsS79.grown (by repeat (first | (with_reducible first | exact HI0.out | apply IsS79.alloc | apply IsS79.drewN | apply IsS79.drew | apply IsS79.set_1) | exact HI0.out)) hg (IsS79.own_ne HI0.out HO_7.out (by decide))); have n2_ := Aside0.mk (below_weaken (by repeat (first | (with_reducible first | exact HB.out | apply below_alloc | apply pw_below_drewN | apply below_drew1 | refine below_set ?_ (IsS79.ge HI0.out)) | exact HB.out)) HL.out hb); have n3_ := Aside0.mk (KeepBut.trans (by repeat (first | (with_reducible first | exact HK.out | apply KeepBut.set_ | apply keep_drewN | apply keep_drew | apply keep_alloc) | exact HK.out)) (KeepBut.of_grown hg g) (Kd.R_base2 HO_7.out)); have n4_ := Aside0.mk (ho); clear HO_6; clear HI0; clear HB; clear HK; clear HO_7; have HO_6 := n0_; have HI0 := n1_; have HB := n2_; have HK := n3_; have HO552 := n4_; clear n0_ n1_ n2_ n3_ n4_; clear ho hb hg hat))
    repeat (go_quiet (first | (go_at_call 81; (with_reducible refine (spec_l6Rd_pick.calls k1 g s0_0 x1001_1 x8_1 t548 t549 w0 _ ?side1 ?side2 A12.out).mono ?_); (case side1 => repeat (first | (with_reducible first | exact HI0.out | apply IsS79.alloc | apply IsS79.drewN | apply IsS79.drew | apply IsS79.set_1) | exact HI0.out)); (case side2 => repeat (first | (with_reducible first | exact HB.out | apply below_alloc | apply pw_below_drewN | apply below_drew1 | refine below_set ?_ (IsS79.ge HI0.out)) | exact HB.out)); rintro e w15 ⟨rfl, hi, hb, hk⟩; have n0_ := Aside0.mk (Kd.R_mono (Kd.R_keep (IsS79.apart (show IsS79 w0 _ g s0_0 x1001_1 from by repeat (first | (with_reducible first | exact HI0.out | apply IsS79.alloc | apply IsS79.drewN | apply IsS79.drew | apply IsS79.set_1) | exact HI0.out)) (by (with_reducible repeat (first | apply Kd.R_alloc | apply Kd.R_drewN | apply Kd.R_drew)); exact HO_6.out) (by decide)) hk (fun _ h => h.2)) (fun _ h => h.1)); have n1_ := Aside0.mk (Kd.R_mono (Kd.R_keep (IsS79.apart (show IsS79 w0 _ g s0_0 x1001_1 from by repeat (first | (with_reducible first | exact HI0.out | apply IsS79.alloc | apply IsS79.drewN | apply IsS79.drew | apply IsS79.set_1) | exact HI0.out)) (by (with_reducible repeat (first | apply Kd.R_alloc | apply Kd.R_drewN | apply Kd.R_drew)); exact HO_7.out) (by decide)) hk (fun _ h => h.2)) (fun _ h => h.1)); have n2_ := Aside0.mk (KeepBut.trans (by repeat (first | (with_reducible first | exact HK.out | apply KeepBut.set_ | apply keep_drewN | apply keep_drew | apply keep_alloc) | exact HK.out)) hk (.inl rfl)); have n3_ := Aside0.mk (hb); have n4_ := Aside0.mk (hi); clear HO_6; clear HO_7; clear HK; clear HB; clear HI0; have HO_6 := n0_; have HO_7 := n1_; have HK := n2_; have HB := n3_; have HI0 := n4_; clear n0_ n1_ n2_ n3_ n4_; (try clear hb); (try clear hb2); (try clear hk); (try clear hi)) | ((with_reducible refine gate_builtin (b := .append) (xs := #[.tmp 24, .tmp 28]) rfl ?_); at_builtin; refine Kd.R_append (Kd.int .i64) w.heap.size rfl (.tmp 24) (.tmp 28) 29 3 (.int .i64 0) 8 rfl Tryd.underlying29 info3 rfl (by decide) (by omega) u7 x7_1 t548 [.int .i64 t548] (fun _ => True) (fun _ => False) rfl rfl ?aP (fun _ hk => hk.elim) ?aF ?aO (Below.refl _ _) ?aS ?aL ?_; (case aP => exact rfl); (case aF => exact (fun _ _ => trivial)); (case aO => exact (by (with_reducible repeat (first | apply Kd.R_alloc | apply Kd.R_drewN | apply Kd.R_drew)); exact HO_7.out)); (case aS => exact (keep_size (w := w) (g := g) (row := none) (by repeat (first | (with_reducible first | exact HK.out | apply KeepBut.set_ | apply keep_drewN | apply keep_drew | apply keep_alloc) | exact HK.out)))); (case aL => have := LMc13.out; omega); intro v551 w16 ho hb hg hat; rw [← Ny550.out] at ho; have n0_ := Aside0.mk (Kd.R_over' (by (with_reducible repeat (first | apply Kd.R_alloc | apply Kd.R_drewN | apply Kd.R_drew)); exact HO_6.out) (Kd.R_typed (by (with_reducible repeat (first | apply Kd.R_alloc | apply Kd.R_drewN | apply Kd.R_drew)); exact HO_7.out)) (by decide) hg); have n1_ := Aside0.mk (IsS79.grown (by repeat (first | (with_reducible first | exact HI0.out | apply IsS79.alloc | apply IsS79.drewN | apply IsS79.drew | apply IsS79.set_1) | exact HI0.out)) hg (IsS79.own_ne HI0.out HO_7.out (by decide))); have n2_ := Aside0.mk (below_weaken (by repeat (first | (with_reducible first | exact HB.out | apply below_alloc | apply pw_below_drewN | apply below_drew1 | refine below_set ?_ (IsS79.ge HI0.out)) | exact HB.out)) HL.out hb); have n3_ := Aside0.mk (KeepBut.trans (by repeat (first | (with_reducible first | exact HK.out | apply KeepBut.set_ | apply keep_drewN | apply keep_drew | apply keep_alloc) | exact HK.out)) (KeepBut.of_grown hg g) (Kd.R_base2 HO_7.out)); have n4_ := Aside0.mk (ho); clear HO_6; clear HI0; clear HB; clear HK; clear HO_7; have HO_6 := n0_; have HI0 := n1_; have HB := n2_; have HK := n3_; have HO552 := n4_; clear n0_ n1_ n2_ n3_ n4_; clear ho hb hg hat)); try go_wp2_with (first | (go_at_call 81; (with_reducible refine (spec_l6Rd_pick.calls k1 g s0_0 x1001_1 x8_1 t548 t549 w0 _ ?side1 ?side2 A12.out).mono ?_); (case side1 => repeat (first | (with_reducible first | exact HI0.out | apply IsS79.alloc | apply IsS79.drewN | apply IsS79.drew | apply IsS79.set_1) | exact HI0.out)); (case side2 => repeat (first | (with_reducible first | exact HB.out | apply below_alloc | apply pw_below_drewN | apply below_drew1 | refine below_set ?_ (IsS79.ge HI0.out)) | exact HB.out)); rintro e w15 ⟨rfl, hi, hb, hk⟩; have n0_ := Aside0.mk (Kd.R_mono (Kd.R_keep (IsS79.apart (show IsS79 w0 _ g s0_0 x1001_1 from by repeat (first | (with_reducible first | exact HI0.out | apply IsS79.alloc | apply IsS79.drewN | apply IsS79.drew | apply IsS79.set_1) | exact HI0.out)) (by (with_reducible repeat (first | apply Kd.R_alloc | apply Kd.R_drewN | apply Kd.R_drew)); exact HO_6.out) (by decide)) hk (fun _ h => h.2)) (fun _ h => h.1)); have n1_ := Aside0.mk (Kd.R_mono (Kd.R_keep (IsS79.apart (show IsS79 w0 _ g s0_0 x1001_1 from by repeat (first | (with_reducible first | exact HI0.out | apply IsS79.alloc | apply IsS79.drewN | apply IsS79.drew | apply IsS79.set_1) | exact HI0.out)) (by (with_reducible repeat (first | apply Kd.R_alloc | apply Kd.R_drewN | apply Kd.R_drew)); exact HO_7.out) (by decide)) hk (fun _ h => h.2)) (fun _ h => h.1)); have n2_ := Aside0.mk (KeepBut.trans (by repeat (first | (with_reducible first | exact HK.out | apply KeepBut.set_ | apply keep_drewN | apply keep_drew | apply keep_alloc) | exact HK.out)) hk (.inl rfl)); have n3_ := Aside0.mk (hb); have n4_ := Aside0.mk (hi); clear HO_6; clear HO_7; clear HK; clear HB; clear HI0; have HO_6 := n0_; have HO_7 := n1_; have HK := n2_; have HB := n3_; have HI0 := n4_; clear n0_ n1_ n2_ n3_ n4_; (try clear hb); (try clear hb2); (try clear hk); (try clear hi)) | ((with_reducible refine gate_builtin (b := .append) (xs := #[.tmp 24, .tmp 28]) rfl ?_); at_builtin; refine Kd.R_append (Kd.int .i64) w.heap.size rfl (.tmp 24) (.tmp 28) 29 3 (.int .i64 0) 8 rfl Tryd.underlying29 info3 rfl (by decide) (by omega) u7 x7_1 t548 [.int .i64 t548] (fun _ => True) (fun _ => False) rfl rfl ?aP (fun _ hk => hk.elim) ?aF ?aO (Below.refl _ _) ?aS ?aL ?_; (case aP => exact rfl); (case aF => exact (fun _ _ => trivial)); (case aO => exact (by (with_reducible repeat (first | apply Kd.R_alloc | apply Kd.R_drewN | apply Kd.R_drew)); exact HO_7.out)); (case aS => exact (keep_size (w := w) (g := g) (row := none) (by repeat (first | (with_reducible first | exact HK.out | apply KeepBut.set_ | apply keep_drewN | apply keep_drew | apply keep_alloc) | exact HK.out)))); (case aL => have := LMc13.out; omega); intro v551 w16 ho hb hg hat; rw [← Ny550.out] at ho; have n0_ := Aside0.mk (Kd.R_over' (by (with_reducible repeat (first | apply Kd.R_alloc | apply Kd.R_drewN | apply Kd.R_drew)); exact HO_6.out) (Kd.R_typed (by (with_reducible repeat (first | apply Kd.R_alloc | apply Kd.R_drewN | apply Kd.R_drew)); exact HO_7.out)) (by decide) hg); have n1_ := Aside0.mk (IsS79.grown (by repeat (first | (with_reducible first | exact HI0.out | apply IsS79.alloc | apply IsS79.drewN | apply IsS79.drew | apply IsS79.set_1) | exact HI0.out)) hg (IsS79.own_ne HI0.out HO_7.out (by decide))); have n2_ := Aside0.mk (below_weaken (by repeat (first | (with_reducible first | exact HB.out | apply below_alloc | apply pw_below_drewN | apply below_drew1 | refine below_set ?_ (IsS79.ge HI0.out)) | exact HB.out)) HL.out hb); have n3_ := Aside0.mk (KeepBut.trans (by repeat (first | (with_reducible first | exact HK.out | apply KeepBut.set_ | apply keep_drewN | apply keep_drew | apply keep_alloc) | exact HK.out)) (KeepBut.of_grown hg g) (Kd.R_base2 HO_7.out)); have n4_ := Aside0.mk (ho); clear HO_6; clear HI0; clear HB; clear HK; clear HO_7; have HO_6 := n0_; have HI0 := n1_; have HB := n2_; have HK := n3_; have HO552 := n4_; clear n0_ n1_ n2_ n3_ n4_; clear ho hb hg hat)))
    go_roundg k1
    case measure => have := HK1.out; omega
    case rel => exact ⟨(y550), (wrap64 (x8_1 + 1)), (t549), (by first | rfl | (simp; done) | (simp [*]; done)), H', ⟨by have := HK1.out; omega⟩, ⟨by (with_reducible repeat (first | apply Kd.R_alloc | apply Kd.R_drewN | apply Kd.R_drew)); exact HO_6.out⟩, ⟨by (with_reducible repeat (first | apply Kd.R_alloc | apply Kd.R_drewN | apply Kd.R_drew)); exact HO552.out⟩, ⟨by repeat (first | (with_reducible first | exact HI0.out | apply IsS79.alloc | apply IsS79.drewN | apply IsS79.drew | apply IsS79.set_1) | exact HI0.out)⟩, ⟨by repeat (first | (with_reducible first | exact HK.out | apply KeepBut.set_ | apply keep_drewN | apply keep_drew | apply keep_alloc) | exact HK.out)⟩, ⟨by repeat (first | (with_reducible first | exact HB.out | apply below_alloc | apply pw_below_drewN | apply below_drew1 | refine below_set ?_ (IsS79.ge HI0.out)) | exact HB.out)⟩⟩
   rw [if_neg c7] at H
   have c7b0 : decide (x8_1 < (t538.length : Int)) = false := decide_eq_false c7
   clear c7
   by_cases c17 : (x7_1.length : Int) > 0
   rotate_left
   ·rw [if_neg c17] at H
    have c17b0 : decide (0 < (x7_1.length : Int)) = false := decide_eq_false c17
    have c17b1 : decide (0 < x7_1.length) = false := decide_eq_false (by omega)
    clear c17
    simp only [Option.some.injEq, Prod.mk.injEq] at H
    obtain ⟨rfl, rfl, rfl⟩ := H
    obtain ⟨Ao45, co45, eo45⟩ := Kd.R_slice HO_6.out
    subst eo45
    obtain ⟨Ao46, co46, eo46⟩ := Kd.R_slice HO_7.out
    subst eo46
    go_wp2
    repeat (go_quiet (fail); try go_wp2)
    go_ret2
    exact ⟨_, _, by first | rfl | (simp [errW_none, errW_some] <;> rfl) | (simp [*, errW_none, errW_some] <;> rfl), by (with_reducible repeat (first | apply Kd.R_alloc | apply Kd.R_drewN | apply Kd.R_drew)); exact HO_6.out, Kd.Q_of_R (by (with_reducible repeat (first | apply Kd.R_alloc | apply Kd.R_drewN | apply Kd.R_drew)); exact HO_7.out), by repeat (first | (with_reducible first | exact HI0.out | apply IsS79.alloc | apply IsS79.drewN | apply IsS79.drew | apply IsS79.set_1) | exact HI0.out), by repeat (first | (with_reducible first | exact HB.out | apply below_alloc | apply pw_below_drewN | apply below_drew1 | refine below_set ?_ (IsS79.ge HI0.out)) | exact HB.out), by repeat (first | (with_reducible first | exact HK.out | apply KeepBut.set_ | apply keep_drewN | apply keep_drew | apply keep_alloc) | exact HK.out)⟩
   rw [if_pos c17] at H
   have c17b0 : decide (0 < (x7_1.length : Int)) = true := decide_eq_true c17
   have c17b1 : decide (0 < x7_1.length) = true := decide_eq_true (by omega)
   clear c17
   replace H := Option.bind_eq_some_iff.mp H
   obtain ⟨⟨t553, t554⟩, A180, H⟩ := H
   replace H : (if t553 = 0 then ((some (([(-2), (x7_1.length : Int), (-1)] : List Int) : List Int)).bind fun y555 => ((spec_l6Rd_pick.f k1 s0_0 t554 3).bind fun bt558 => (if 0 ≤ bt558.1 then (if bt558.1 < (y555.length : Int) then (if 0 ≤ (wrap64 ((x7_1.length : Int) - 1)) then (if (wrap64 ((x7_1.length : Int) - 1)) < (x7_1.length : Int) then (some (t538, (x7_1.set ((wrap64 ((x7_1.length : Int) - 1)) : Int).toNat (rd y555 bt558.1)), bt558.2)) else (none)) else (none)) else (none)) else (none)))) else (if t553 = 1 then (if 1 ≤ (x7_1.length : Int) then (some (t538, (x7_1.drop (1 : Int).toNat), t554)) else (none)) else (some (t538, x7_1, t554)))) = some (r1, r2, r3) := H
   have A18 := Aside0.mk A180
   clear A180
   by_cases c19 : t553 = 0
   rotate_left
   ·rw [if_neg c19] at H
    have c19b0 : (t553 == 0) = false := beq_eq_false_iff_ne.mpr c19
    have c19b1 : (t553 != 0) = true := bne_iff_ne.mpr c19
    by_cases c36 : t553 = 1
    rotate_left
    ·rw [if_neg c36] at H
     have c36b0 : (t553 == 1) = false := beq_eq_false_iff_ne.mpr c36
     have c36b1 : (t553 != 1) = true := bne_iff_ne.mpr c36
     simp only [Option.some.injEq, Prod.mk.injEq] at H
     obtain ⟨rfl, rfl, rfl⟩ := H
     obtain ⟨Ao42, co42, eo42⟩ := Kd.R_slice HO_6.out
     subst eo42
     obtain ⟨Ao43, co43, eo43⟩ := Kd.R_slice HO_7.out
     subst eo43
     go_wp2_with (first | (go_at_call 81; (with_reducible refine (spec_l6Rd_pick.calls k1 g s0_0 x1001_1 30 t553 t554 w0 _ ?side1 ?side2 A18.out).mono ?_); (case side1 => repeat (first | (with_reducible first | exact HI0.out | apply IsS79.alloc | apply IsS79.drewN | apply IsS79.drew | apply IsS79.set_1) | exact HI0.out)); (case side2 => repeat (first | (with_reducible first | exact HB.out | apply below_alloc | apply pw_below_drewN | apply below_drew1 | refine below_set ?_ (IsS79.ge HI0.out)) | exact HB.out)); rintro e w44 ⟨rfl, hi, hb, hk⟩; have n0_ := Aside0.mk (Kd.R_mono (Kd.R_keep (IsS79.apart (show IsS79 w0 _ g s0_0 x1001_1 from by repeat (first | (with_reducible first | exact HI0.out | apply IsS79.alloc | apply IsS79.drewN | apply IsS79.drew | apply IsS79.set_1) | exact HI0.out)) (by (with_reducible repeat (first | apply Kd.R_alloc | apply Kd.R_drewN | apply Kd.R_drew)); exact HO_6.out) (by decide)) hk (fun _ h => h.2)) (fun _ h => h.1)); have n1_ := Aside0.mk (Kd.R_mono (Kd.R_keep (IsS79.apart (show IsS79 w0 _ g s0_0 x1001_1 from by repeat (first | (with_reducible first | exact HI0.out | apply IsS79.alloc | apply IsS79.drewN | apply IsS79.drew | apply IsS79.set_1) | exact HI0.out)) (by (with_reducible repeat (first | apply Kd.R_alloc | apply Kd.R_drewN | apply Kd.R_drew)); exact HO_7.out) (by decide)) hk (fun _ h => h.2)) (fun _ h => h.1)); have n2_ := Aside0.mk (KeepBut.trans (by repeat (first | (with_reducible first | exact HK.out | apply KeepBut.set_ | apply keep_drewN | apply keep_drew | apply keep_alloc) | exact HK.out)) hk (.inl rfl)); have n3_ := Aside0.mk (hb); have n4_ := Aside0.mk (hi); clear HO_6; clear HO_7; clear HK; clear HB; clear HI0; have HO_6 := n0_; have HO_7 := n1_; have HK := n2_; have HB := n3_; have HI0 := n4_; clear n0_ n1_ n2_ n3_ n4_; (try clear hb); (try clear hb2); (try clear hk); (try clear hi)))
     repeat (go_quiet (first | (go_at_call 81; (with_reducible refine (spec_l6Rd_pick.calls k1 g s0_0 x1001_1 30 t553 t554 w0 _ ?side1 ?side2 A18.out).mono ?_); (case side1 => repeat (first | (with_reducible first | exact HI0.out | apply IsS79.alloc | apply IsS79.drewN | apply IsS79.drew | apply IsS79.set_1) | exact HI0.out)); (case side2 => repeat (first | (with_reducible first | exact HB.out | apply below_alloc | apply pw_below_drewN | apply below_drew1 | refine below_set ?_ (IsS79.ge HI0.out)) | exact HB.out)); rintro e w44 ⟨rfl, hi, hb, hk⟩; have n0_ := Aside0.mk (Kd.R_mono (Kd.R_keep (IsS79.apart (show IsS79 w0 _ g s0_0 x1001_1 from by repeat (first | (with_reducible first | exact HI0.out | apply IsS79.alloc | apply IsS79.drewN | apply IsS79.drew | apply IsS79.set_1) | exact HI0.out)) (by (with_reducible repeat (first | apply Kd.R_alloc | apply Kd.R_drewN | apply Kd.R_drew)); exact HO_6.out) (by decide)) hk (fun _ h => h.2)) (fun _ h => h.1)); have n1_ := Aside0.mk (Kd.R_mono (Kd.R_keep (IsS79.apart (show IsS79 w0 _ g s0_0 x1001_1 from by repeat (first | (with_reducible first | exact HI0.out | apply IsS79.alloc | apply IsS79.drewN | apply IsS79.drew | apply IsS79.set_1) | exact HI0.out)) (by (with_reducible repeat (first | apply Kd.R_alloc | apply Kd.R_drewN | apply Kd.R_drew)); exact HO_7.out) (by decide)) hk (fun _ h => h.2)) (fun _ h => h.1)); have n2_ := Aside0.mk (KeepBut.trans (by repeat (first | (with_reducible first | exact HK.out | apply KeepBut.set_ | apply keep_drewN | apply keep_drew | apply keep_alloc) | exact HK.out)) hk (.inl rfl)); have n3_ := Aside0.mk (hb); have n4_ := Aside0.mk (hi); clear HO_6; clear HO_7; clear HK; clear HB; clear HI0; have HO_6 := n0_; have HO_7 := n1_; have HK := n2_; have HB := n3_; have HI0 := n4_; clear n0_ n1_ n2_ n3_ n4_; (try clear hb); (try clear hb2); (try clear hk); (try clear hi))); try go_wp2_with (first | (go_at_call 81; (with_reducible refine (spec_l6Rd_pick.calls k1 g s0_0 x1001_1 30 t553 t554 w0 _ ?side1 ?side2 A18.out).mono ?_); (case side1 => repeat (first | (with_reducible first | exact HI0.out | apply IsS79.alloc | apply IsS79.drewN | apply IsS79.drew | apply IsS79.set_1) | exact HI0.out)); (case side2 => repeat (first | (with_reducible first | exact HB.out | apply below_alloc | apply pw_below_drewN | apply below_drew1 | refine below_set ?_ (IsS79.ge HI0.out)) | exact HB.out)); rintro e w44 ⟨rfl, hi, hb, hk⟩; have n0_ := Aside0.mk (Kd.R_mono (Kd.R_keep (IsS79.apart (show IsS79 w0 _ g s0_0 x1001_1 from by repeat (first | (with_reducible first | exact HI0.out | apply IsS79.alloc | apply IsS79.drewN | apply IsS79.drew | apply IsS79.set_1) | exact HI0.out)) (by (with_reducible repeat (first | apply Kd.R_alloc | apply Kd.R_drewN | apply Kd.R_drew)); exact HO_6.out) (by decide)) hk (fun _ h => h.2)) (fun _ h => h.1)); have n1_ := Aside0.mk (Kd.R_mono (Kd.R_keep (IsS79.apart (show IsS79 w0 _ g s0_0 x1001_1 from by repeat (first | (with_reducible first | exact HI0.out | apply IsS79.alloc | apply IsS79.drewN | apply IsS79.drew | apply IsS79.set_1) | exact HI0.out)) (by (with_reducible repeat (first | apply Kd.R_alloc | apply Kd.R_drewN | apply Kd.R_drew)); exact HO_7.out) (by decide)) hk (fun _ h => h.2)) (fun _ h => h.1)); have n2_ := Aside0.mk (KeepBut.trans (by repeat (first | (with_reducible first | exact HK.out | apply KeepBut.set_ | apply keep_drewN | apply keep_drew | apply keep_alloc) | exact HK.out)) hk (.inl rfl)); have n3_ := Aside0.mk (hb); have n4_ := Aside0.mk (hi); clear HO_6; clear HO_7; clear HK; clear HB; clear HI0; have HO_6 := n0_; have HO_7 := n1_; have HK := n2_; have HB := n3_; have HI0 := n4_; clear n0_ n1_ n2_ n3_ n4_; (try clear hb); (try clear hb2); (try clear hk); (try clear hi))))
     go_ret2
     exact ⟨_, _, by first | rfl | (simp [errW_none, errW_some] <;> rfl) | (simp [*, errW_none, errW_some] <;> rfl), by (with_reducible repeat (first | apply Kd.R_alloc | apply Kd.R_drewN | apply Kd.R_drew)); exact HO_6.out, Kd.Q_of_R (by (with_reducible repeat (first | apply Kd.R_alloc | apply Kd.R_drewN | apply Kd.R_drew)); exact HO_7.out), by repeat (first | (with_reducible first | exact HI0.out | apply IsS79.alloc | apply IsS79.drewN | apply IsS79.drew | apply IsS79.set_1) | exact HI0.out), by repeat (first | (with_reducible first | exact HB.out | apply below_alloc | apply pw_below_drewN | apply below_drew1 | refine below_set ?_ (IsS79.ge HI0.out)) | exact HB.out), by repeat (first | (with_reducible first | exact HK.out | apply KeepBut.set_ | apply keep_drewN | apply keep_drew | apply keep_alloc) | exact HK.out)⟩
    rw [if_pos c36] at H
    have c36b0 : (t553 == 1) = true := beq_iff_eq.mpr c36
    have c36b1 : (t553 != 1) = false := bne_eq_false_iff_eq.mpr c36
    clear c36
    by_cases c37 : 1 ≤ (x7_1.length : Int)
    rotate_left
    ·rw [if_neg c37] at H
     exact absurd H (by simp)
    rw [if_pos c37] at H
    have c37b0 := eq_true c37
    have c37b1 : decide (1 ≤ (x7_1.length : Int)) = true := decide_eq_true c37
    clear c37
    obtain ⟨y562, hy562⟩ : ∃ y_ : List Int, y_ = (x7_1.drop (1 : Int).toNat) := ⟨_, rfl⟩
    replace H : (some (t538, y562, t554)) = some (r1, r2, r3) := by first | (rw [hy562]; with_reducible exact H) | (have H2_ := (Option.bind_some _ _).symm.trans H; rw [hy562]; with_reducible exact H2_) | (have H2_ := (Option.bind_some _ _).symm.trans H; with_reducible exact H2_) | with_reducible exact H | (rw [hy562]; exact H) | exact H
    have Ny562 := Aside0.mk hy562
    clear hy562
    simp only [Option.some.injEq, Prod.mk.injEq] at H
    obtain ⟨rfl, rfl, rfl⟩ := H
    obtain ⟨Ao38, co38, eo38⟩ := Kd.R_slice HO_6.out
    subst eo38
    obtain ⟨Ao39, co39, eo39⟩ := Kd.R_slice HO_7.out
    subst eo39
    go_wp2_with (first | (go_at_call 81; (with_reducible refine (spec_l6Rd_pick.calls k1 g s0_0 x1001_1 30 t553 t554 w0 _ ?side1 ?side2 A18.out).mono ?_); (case side1 => repeat (first | (with_reducible first | exact HI0.out | apply IsS79.alloc | apply IsS79.drewN | apply IsS79.drew | apply IsS79.set_1) | exact HI0.out)); (case side2 => repeat (first | (with_reducible first | exact HB.out | apply below_alloc | apply pw_below_drewN | apply below_drew1 | refine below_set ?_ (IsS79.ge HI0.out)) | exact HB.out)); rintro e w40 ⟨rfl, hi, hb, hk⟩; have n0_ := Aside0.mk (Kd.R_mono (Kd.R_keep (IsS79.apart (show IsS79 w0 _ g s0_0 x1001_1 from by repeat (first | (with_reducible first | exact HI0.out | apply IsS79.alloc | apply IsS79.drewN | apply IsS79.drew | apply IsS79.set_1) | exact HI0.out)) (by (with_reducible repeat (first | apply Kd.R_alloc | apply Kd.R_drewN | apply Kd.R_drew)); exact HO_6.out) (by decide)) hk (fun _ h => h.2)) (fun _ h => h.1)); have n1_ := Aside0.mk (Kd.R_mono (Kd.R_keep (IsS79.apart (show IsS79 w0 _ g s0_0 x1001_1 from by repeat (first | (with_reducible first | exact HI0.out | apply IsS79.alloc | apply IsS79.drewN | apply IsS79.drew | apply IsS79.set_1) | exact HI0.out)) (by (with_reducible repeat (first | apply Kd.R_alloc | apply Kd.R_drewN | apply Kd.R_drew)); exact HO_7.out) (by decide)) hk (fun _ h => h.2)) (fun _ h => h.1)); have n2_ := Aside0.mk (KeepBut.trans (by repeat (first | (with_reducible first | exact HK.out | apply KeepBut.set_ | apply keep_drewN | apply keep_drew | apply keep_alloc) | exact HK.out)) hk (.inl rfl)); have n3_ := Aside0.mk (hb); have n4_ := Aside0.mk (hi); clear HO_6; clear HO_7; clear HK; clear HB; clear HI0; have HO_6 := n0_; have HO_7 := n1_; have HK := n2_; have HB := n3_; have HI0 := n4_; clear n0_ n1_ n2_ n3_ n4_; (try clear hb); (try clear hb2); (try clear hk); (try clear hi); have q41 : (1 : Int) ≤ ((x7_1.length : Int) : Int) := of_decide_eq_true (by first | (with_reducible assumption) | assumption); obtain ⟨i041, hi041, _, hsz41, _⟩ := info_parts info3; have hcut41 := cut_from (P := Tryd.prog) 29 3 .i64 Tryd.underlying29 hi041 1 hsz41 Ao39 x7_1.length co39 1 (by omega) q41; have hr41 := Kd.Q_drop (k := (1 : Int).toNat) (Kd.Q_of_R HO_7.out) (by omega); obtain ⟨A41, hA41⟩ : ∃ Az_, Az_ = (if co39 = (1 : Int).toNat then Ao39 else (Ao39 : Option Addr).map (·.add ((1 : Int).toNat * 1))) := ⟨_, rfl⟩; obtain ⟨c41, hc41⟩ : ∃ cz_, cz_ = co39 - (1 : Int).toNat := ⟨_, rfl⟩; have hy41 : y562.length = x7_1.length - (1 : Int).toNat := (by rw [Ny562.out, List.length_drop]); rw [← Ny562.out] at hr41; rw [← hy41, ← hA41, ← hc41] at hcut41; replace hr41 : Kd.Q (Kd.int .i64) 3 w40 w.heap.size (fun _ => True) (.slice A41 y562.length c41) y562 := (by rw [hA41, hc41, hy41]; exact hr41); have HE41 : Aside0 ((Value.slice A41 y562.length c41).ownBlock = (.slice Ao39 x7_1.length co39 : Value).ownBlock) := ⟨by rw [hA41]; split <;> (cases (Ao39 : Option Addr) <;> rfl)⟩; clear hy41 hi041 hsz41 HO_7 hA41 hc41; have HO564 := Aside0.mk hr41; clear hr41; replace q41 := eq_true q41))
    repeat (go_quiet (first | (go_at_call 81; (with_reducible refine (spec_l6Rd_pick.calls k1 g s0_0 x1001_1 30 t553 t554 w0 _ ?side1 ?side2 A18.out).mono ?_); (case side1 => repeat (first | (with_reducible first | exact HI0.out | apply IsS79.alloc | apply IsS79.drewN | apply IsS79.drew | apply IsS79.set_1) | exact HI0.out)); (case side2 => repeat (first | (with_reducible first | exact HB.out | apply below_alloc | apply pw_below_drewN | apply below_drew1 | refine below_set ?_ (IsS79.ge HI0.out)) | exact HB.out)); rintro e w40 ⟨rfl, hi, hb, hk⟩; have n0_ := Aside0.mk (Kd.R_mono (Kd.R_keep (IsS79.apart (show IsS79 w0 _ g s0_0 x1001_1 from by repeat (first | (with_reducible first | exact HI0.out | apply IsS79.alloc | apply IsS79.drewN | apply IsS79.drew | apply IsS79.set_1) | exact HI0.out)) (by (with_reducible repeat (first | apply Kd.R_alloc | apply Kd.R_drewN | apply Kd.R_drew)); exact HO_6.out) (by decide)) hk (fun _ h => h.2)) (fun _ h => h.1)); have n1_ := Aside0.mk (Kd.R_mono (Kd.R_keep (IsS79.apart (show IsS79 w0 _ g s0_0 x1001_1 from by repeat (first | (with_reducible first | exact HI0.out | apply IsS79.alloc | apply IsS79.drewN | apply IsS79.drew | apply IsS79.set_1) | exact HI0.out)) (by (with_reducible repeat (first | apply Kd.R_alloc | apply Kd.R_drewN | apply Kd.R_drew)); exact HO_7.out) (by decide)) hk (fun _ h => h.2)) (fun _ h => h.1)); have n2_ := Aside0.mk (KeepBut.trans (by repeat (first | (with_reducible first | exact HK.out | apply KeepBut.set_ | apply keep_drewN | apply keep_drew | apply keep_alloc) | exact HK.out)) hk (.inl rfl)); have n3_ := Aside0.mk (hb); have n4_ := Aside0.mk (hi); clear HO_6; clear HO_7; clear HK; clear HB; clear HI0; have HO_6 := n0_; have HO_7 := n1_; have HK := n2_; have HB := n3_; have HI0 := n4_; clear n0_ n1_ n2_ n3_ n4_; (try clear hb); (try clear hb2); (try clear hk); (try clear hi); have q41 : (1 : Int) ≤ ((x7_1.length : Int) : Int) := of_decide_eq_true (by first | (with_reducible assumption) | assumption); obtain ⟨i041, hi041, _, hsz41, _⟩ := info_parts info3; have hcut41 := cut_from (P := Tryd.prog) 29 3 .i64 Tryd.underlying29 hi041 1 hsz41 Ao39 x7_1.length co39 1 (by omega) q41; have hr41 := Kd.Q_drop (k := (1 : Int).toNat) (Kd.Q_of_R HO_7.out) (by omega); obtain ⟨A41, hA41⟩ : ∃ Az_, Az_ = (if co39 = (1 : Int).toNat then Ao39 else (Ao39 : Option Addr).map (·.add ((1 : Int).toNat * 1))) := ⟨_, rfl⟩; obtain ⟨c41, hc41⟩ : ∃ cz_, cz_ = co39 - (1 : Int).toNat := ⟨_, rfl⟩; have hy41 : y562.length = x7_1.length - (1 : Int).toNat := (by rw [Ny562.out, List.length_drop]); rw [← Ny562.out] at hr41; rw [← hy41, ← hA41, ← hc41] at hcut41; replace hr41 : Kd.Q (Kd.int .i64) 3 w40 w.heap.size (fun _ => True) (.slice A41 y562.length c41) y562 := (by rw [hA41, hc41, hy41]; exact hr41); have HE41 : Aside0 ((Value.slice A41 y562.length c41).ownBlock = (.slice Ao39 x7_1.length co39 : Value).ownBlock) := ⟨by rw [hA41]; split <;> (cases (Ao39 : Option Addr) <;> rfl)⟩; clear hy41 hi041 hsz41 HO_7 hA41 hc41; have HO564 := Aside0.mk hr41; clear hr41; replace q41 := eq_true q41)); try go_wp2_with (first | (go_at_call 81; (with_reducible refine (spec_l6Rd_pick.calls k1 g s0_0 x1001_1 30 t553 t554 w0 _ ?side1 ?side2 A18.out).mono ?_); (case side1 => repeat (first | (with_reducible first | exact HI0.out | apply IsS79.alloc | apply IsS79.drewN | apply IsS79.drew | apply IsS79.set_1) | exact HI0.out)); (case side2 => repeat (first | (with_reducible first | exact HB.out | apply below_alloc | apply pw_below_drewN | apply below_drew1 | refine below_set ?_ (IsS79.ge HI0.out)) | exact HB.out)); rintro e w40 ⟨rfl, hi, hb, hk⟩; have n0_ := Aside0.mk (Kd.R_mono (Kd.R_keep (IsS79.apart (show IsS79 w0 _ g s0_0 x1001_1 from by repeat (first | (with_reducible first | exact HI0.out | apply IsS79.alloc | apply IsS79.drewN | apply IsS79.drew | apply IsS79.set_1) | exact HI0.out)) (by (with_reducible repeat (first | apply Kd.R_alloc | apply Kd.R_drewN | apply Kd.R_drew)); exact HO_6.out) (by decide)) hk (fun _ h => h.2)) (fun _ h => h.1)); have n1_ := Aside0.mk (Kd.R_mono (Kd.R_keep (IsS79.apart (show IsS79 w0 _ g s0_0 x1001_1 from by repeat (first | (with_reducible first | exact HI0.out | apply IsS79.alloc | apply IsS79.drewN | apply IsS79.drew | apply IsS79.set_1) | exact HI0.out)) (by (with_reducible repeat (first | apply Kd.R_alloc | apply Kd.R_drewN | apply Kd.R_drew)); exact HO_7.out) (by decide)) hk (fun _ h => h.2)) (fun _ h => h.1)); have n2_ := Aside0.mk (KeepBut.trans (by repeat (first | (with_reducible first | exact HK.out | apply KeepBut.set_ | apply keep_drewN | apply keep_drew | apply keep_alloc) | exact HK.out)) hk (.inl rfl)); have n3_ := Aside0.mk (hb); have n4_ := Aside0.mk (hi); clear HO_6; clear HO_7; clear HK; clear HB; clear HI0; have HO_6 := n0_; have HO_7 := n1_; have HK := n2_; have HB := n3_; have HI0 := n4_; clear n0_ n1_ n2_ n3_ n4_; (try clear hb); (try clear hb2); (try clear hk); (try clear hi); have q41 : (1 : Int) ≤ ((x7_1.length : Int) : Int) := of_decide_eq_true (by first | (with_reducible assumption) | assumption); obtain ⟨i041, hi041, _, hsz41, _⟩ := info_parts info3; have hcut41 := cut_from (P := Tryd.prog) 29 3 .i64 Tryd.underlying29 hi041 1 hsz41 Ao39 x7_1.length co39 1 (by omega) q41; have hr41 := Kd.Q_drop (k := (1 : Int).toNat) (Kd.Q_of_R HO_7.out) (by omega); obtain ⟨A41, hA41⟩ : ∃ Az_, Az_ = (if co39 = (1 : Int).toNat then Ao39 else (Ao39 : Option Addr).map (·.add ((1 : Int).toNat * 1))) := ⟨_, rfl⟩; obtain ⟨c41, hc41⟩ : ∃ cz_, cz_ = co39 - (1 : Int).toNat := ⟨_, rfl⟩; have hy41 : y562.length = x7_1.length - (1 : Int).toNat := (by rw [Ny562.out, List.length_drop]); rw [← Ny562.out] at hr41; rw [← hy41, ← hA41, ← hc41] at hcut41; replace hr41 : Kd.Q (Kd.int .i64) 3 w40 w.heap.size (fun _ => True) (.slice A41 y562.length c41) y562 := (by rw [hA41, hc41, hy41]; exact hr41); have HE41 : Aside0 ((Value.slice A41 y562.length c41).ownBlock = (.slice Ao39 x7_1.length co39 : Value).ownBlock) := ⟨by rw [hA41]; split <;> (cases (Ao39 : Option Addr) <;> rfl)⟩; clear hy41 hi041 hsz41 HO_7 hA41 hc41; have HO564 := Aside0.mk hr41; clear hr41; replace q41 := eq_true q41)))
    go_ret2
    exact ⟨_, _, by first | rfl | (simp [errW_none, errW_some] <;> rfl) | (simp [*, errW_none, errW_some] <;> rfl), by (with_reducible repeat (first | apply Kd.R_alloc | apply Kd.R_drewN | apply Kd.R_drew)); exact HO_6.out, by (with_reducible repeat (first | apply Kd.Q_alloc | apply Kd.Q_drewN | apply Kd.Q_drew)); exact HO564.out, by repeat (first | (with_reducible first | exact HI0.out | apply IsS79.alloc | apply IsS79.drewN | apply IsS79.drew | apply IsS79.set_1) | exact HI0.out), by repeat (first | (with_reducible first | exact HB.out | apply below_alloc | apply pw_below_drewN | apply below_drew1 | refine below_set ?_ (IsS79.ge HI0.out)) | exact HB.out), by repeat (first | (with_reducible first | exact HK.out | apply KeepBut.set_ | apply keep_drewN | apply keep_drew | apply keep_alloc) | exact HK.out)⟩
   rw [if_pos c19] at H
   have c19b0 : (t553 == 0) = true := beq_iff_eq.mpr c19
   have c19b1 : (t553 != 0) = false := bne_eq_false_iff_eq.mpr c19
   clear c19
   obtain ⟨y555, hy555⟩ : ∃ y_ : List Int, y_ = (([(-2), (x7_1.length : Int), (-1)] : List Int)) := ⟨_, rfl⟩
   replace H : ((spec_l6Rd_pick.f k1 s0_0 t554 3).bind fun bt558 => (if 0 ≤ bt558.1 then (if bt558.1 < (y555.length : Int) then (if 0 ≤ (wrap64 ((x7_1.length : Int) - 1)) then (if (wrap64 ((x7_1.length : Int) - 1)) < (x7_1.length : Int) then (some (t538, (x7_1.set ((wrap64 ((x7_1.length : Int) - 1)) : Int).toNat (rd y555 bt558.1)), bt558.2)) else (none)) else (none)) else (none)) else (none))) = some (r1, r2, r3) := by first | (rw [hy555]; with_reducible exact H) | (have H2_ := (Option.bind_some _ _).symm.trans H; rw [hy555]; with_reducible exact H2_) | (have H2_ := (Option.bind_some _ _).symm.trans H; with_reducible exact H2_) | with_reducible exact H | (rw [hy555]; exact H) | exact H
   have Ny555 := Aside0.mk hy555
   clear hy555
   replace H := Option.bind_eq_some_iff.mp H
   obtain ⟨⟨t558, t559⟩, A200, H⟩ := H
   replace H : (if 0 ≤ t558 then (if t558 < (y555.length : Int) then (if 0 ≤ (wrap64 ((x7_1.length : Int) - 1)) then (if (wrap64 ((x7_1.length : Int) - 1)) < (x7_1.length : Int) then (some (t538, (x7_1.set ((wrap64 ((x7_1.length : Int) - 1)) : Int).toNat (rd y555 t558)), t559)) else (none)) else (none)) else (none)) else (none)) = some (r1, r2, r3) := H
   have A20 := Aside0.mk A200
   clear A200
   by_cases c21 : 0 ≤ t558
   rotate_left
   ·rw [if_neg c21] at H
    exact absurd H (by simp)
   rw [if_pos c21] at H
   have c21b0 : decide (0 ≤ t558) = true := decide_eq_true c21
   clear c21
   by_cases c22 : t558 < (y555.length : Int)
   rotate_left
   ·rw [if_neg c22] at H
    exact absurd H (by simp)
   rw [if_pos c22] at H
   have c22b0 : decide (t558 < (y555.length : Int)) = true := decide_eq_true c22
   clear c22
   obtain ⟨ji23, hji23⟩ : ∃ j_ : Int, (wrap64 ((x7_1.length : Int) - 1)) = j_ := ⟨_, rfl⟩
   replace H : (if 0 ≤ (ji23) then (if (ji23) < (x7_1.length : Int) then (some (t538, (x7_1.set ((ji23) : Int).toNat (rd y555 t558)), t559)) else (none)) else (none)) = some (r1, r2, r3) := by first | (rw [hji23] at H; exact H) | (simp only [hji23] at H ⊢; exact H)
   (try rw [hji23] at A18)
   (try rw [hji23] at A20)
   have hji23w : (IntKind.i64.wrap ((x7_1.length : Int) - 1)) = ji23 := (i64_w _).trans hji23
   by_cases c24 : 0 ≤ (ji23)
   rotate_left
   ·rw [if_neg c24] at H
    exact absurd H (by simp)
   rw [if_pos c24] at H
   have c24b0 : decide (0 ≤ (ji23)) = true := decide_eq_true c24
   clear c24
   by_cases c25 : (ji23) < (x7_1.length : Int)
   rotate_left
   ·rw [if_neg c25] at H
    exact absurd H (by simp)
   rw [if_pos c25] at H
   have c25b0 : decide ((ji23) < (x7_1.length : Int)) = true := decide_eq_true c25
   clear c25
   obtain ⟨y561, hy561⟩ : ∃ y_ : List Int, y_ = (x7_1.set ((ji23) : Int).toNat (rd y555 t558)) := ⟨_, rfl⟩
   replace H : (some (t538, y561, t559)) = some (r1, r2, r3) := by first | (rw [hy561]; with_reducible exact H) | (have H2_ := (Option.bind_some _ _).symm.trans H; rw [hy561]; with_reducible exact H2_) | (have H2_ := (Option.bind_some _ _).symm.trans H; with_reducible exact H2_) | with_reducible exact H | (rw [hy561]; exact H) | exact H
   have Ny561 := Aside0.mk hy561
   clear hy561
   simp only [Option.some.injEq, Prod.mk.injEq] at H
   obtain ⟨rfl, rfl, rfl⟩ := H
   obtain ⟨Ao27, co27, eo27⟩ := Kd.R_slice HO_6.out
   subst eo27
   obtain ⟨Ao28, co28, eo28⟩ := Kd.R_slice HO_7.out
   subst eo28
   go_wp2_with (first | (go_at_call 81; (with_reducible refine (spec_l6Rd_pick.calls k1 g s0_0 x1001_1 30 t553 t554 w0 _ ?side1 ?side2 A18.out).mono ?_); (case side1 => repeat (first | (with_reducible first | exact HI0.out | apply IsS79.alloc | apply IsS79.drewN | apply IsS79.drew | apply IsS79.set_1) | exact HI0.out)); (case side2 => repeat (first | (with_reducible first | exact HB.out | apply below_alloc | apply pw_below_drewN | apply below_drew1 | refine below_set ?_ (IsS79.ge HI0.out)) | exact HB.out)); rintro e w29 ⟨rfl, hi, hb, hk⟩; have n0_ := Aside0.mk (Kd.R_mono (Kd.R_keep (IsS79.apart (show IsS79 w0 _ g s0_0 x1001_1 from by repeat (first | (with_reducible first | exact HI0.out | apply IsS79.alloc | apply IsS79.drewN | apply IsS79.drew | apply IsS79.set_1) | exact HI0.out)) (by (with_reducible repeat (first | apply Kd.R_alloc | apply Kd.R_drewN | apply Kd.R_drew)); exact HO_6.out) (by decide)) hk (fun _ h => h.2)) (fun _ h => h.1)); have n1_ := Aside0.mk (Kd.R_mono (Kd.R_keep (IsS79.apart (show IsS79 w0 _ g s0_0 x1001_1 from by repeat (first | (with_reducible first | exact HI0.out | apply IsS79.alloc | apply IsS79.drewN | apply IsS79.drew | apply IsS79.set_1) | exact HI0.out)) (by (with_reducible repeat (first | apply Kd.R_alloc | apply Kd.R_drewN | apply Kd.R_drew)); exact HO_7.out) (by decide)) hk (fun _ h => h.2)) (fun _ h => h.1)); have n2_ := Aside0.mk (KeepBut.trans (by repeat (first | (with_reducible first | exact HK.out | apply KeepBut.set_ | apply keep_drewN | apply keep_drew | apply keep_alloc) | exact HK.out)) hk (.inl rfl)); have n3_ := Aside0.mk (hb); have n4_ := Aside0.mk (hi); clear HO_6; clear HO_7; clear HK; clear HB; clear HI0; have HO_6 := n0_; have HO_7 := n1_; have HK := n2_; have HB := n3_; have HI0 := n4_; clear n0_ n1_ n2_ n3_ n4_; (try clear hb); (try clear hb2); (try clear hk); (try clear hi)) | ((with_reducible refine gate_dst (N := 43) rfl ?_); refine Kd.R_lit (Kd.int .i64) _ 3 ?hg (N := 43) ?hd (xs := ([(-2), (x7_1.length : Int), (-1)] : List Int)) (inner := [.int .i64 (-2), .int .i64 (x7_1.length : Int), .int .i64 (-1)]) (ok := fun _ => True) (okp := fun _ => True) ?hr ?hp (fun _ hk => hk) trivial (Below.refl _ _) (Nat.le_refl _) (by simp) ?_; (case hd => rfl); (case hg => rfl); (case hr => first | (go_simp; done) | (go_simp; rfl)); (case hp => exact (Reps.one (show Kd.M (Kd.int .i64) _ _ _ (-2) [.int .i64 (-2)] from rfl) (Reps.one (show Kd.M (Kd.int .i64) _ _ _ (x7_1.length : Int) [.int .i64 (x7_1.length : Int)] from rfl) (Reps.one (show Kd.M (Kd.int .i64) _ _ _ (-1) [.int .i64 (-1)] from rfl) (Reps.none _ _))))); intro v556 w30 ho31 hb hg_ hnew_; clear hg_ hnew_; (first | rw [← Ny555.out] at ho31 | (simp only [Int.reduceToNat] at ho31; rw [← Ny555.out] at ho31)); have n0_ := Aside0.mk (Kd.R_below (by (with_reducible repeat (first | apply Kd.R_alloc | apply Kd.R_drewN | apply Kd.R_drew)); exact HO_6.out) hb); have n1_ := Aside0.mk (Kd.R_elder' (by (with_reducible repeat (first | apply Kd.R_alloc | apply Kd.R_drewN | apply Kd.R_drew)); exact HO_7.out) (Kd.R_base ho31) hb); have n2_ := Aside0.mk (Kd.R_lower (Kd.R_new' ho31 (Kd.R_lt (by (with_reducible repeat (first | apply Kd.R_alloc | apply Kd.R_drewN | apply Kd.R_drew)); exact HO_7.out))) (keep_size (w := w) (g := g) (row := none) (by repeat (first | (with_reducible first | exact HK.out | apply KeepBut.set_ | apply keep_drewN | apply keep_drew | apply keep_alloc) | exact HK.out)))); have n3_ := Aside0.mk (IsS79.below (by repeat (first | (with_reducible first | exact HI0.out | apply IsS79.alloc | apply IsS79.drewN | apply IsS79.drew | apply IsS79.set_1) | exact HI0.out)) hb); have n4_ := Aside0.mk (KeepBut.trans (by repeat (first | (with_reducible first | exact HK.out | apply KeepBut.set_ | apply keep_drewN | apply keep_drew | apply keep_alloc) | exact HK.out)) (KeepBut.of_below hb g none) (.inl rfl)); have n5_ := Aside0.mk (below_step (by repeat (first | (with_reducible first | exact HB.out | apply below_alloc | apply pw_below_drewN | apply below_drew1 | refine below_set ?_ (IsS79.ge HI0.out)) | exact HB.out)) hb); clear HO_6; clear HO_7; clear HI0; clear HK; clear HB; have HO_6 := n0_; have HO_7 := n1_; have HO557 := n2_; have HI0 := n3_; have HK := n4_; have HB := n5_; clear n0_ n1_ n2_ n3_ n4_ n5_; clear hb ho31) | (go_at_call 81; (with_reducible refine (spec_l6Rd_pick.calls k1 g s0_0 t554 3 t558 t559 w0 _ ?side1 ?side2 A20.out).mono ?_); (case side1 => repeat (first | (with_reducible first | exact HI0.out | apply IsS79.alloc | apply IsS79.drewN | apply IsS79.drew | apply IsS79.set_1) | exact HI0.out)); (case side2 => repeat (first | (with_reducible first | exact HB.out | apply below_alloc | apply pw_below_drewN | apply below_drew1 | refine below_set ?_ (IsS79.ge HI0.out)) | exact HB.out)); rintro e w32 ⟨rfl, hi, hb, hk⟩; have n0_ := Aside0.mk (Kd.R_mono (Kd.R_keep (IsS79.apart (show IsS79 w0 _ g s0_0 t554 from by repeat (first | (with_reducible first | exact HI0.out | apply IsS79.alloc | apply IsS79.drewN | apply IsS79.drew | apply IsS79.set_1) | exact HI0.out)) (by (with_reducible repeat (first | apply Kd.R_alloc | apply Kd.R_drewN | apply Kd.R_drew)); exact HO_6.out) (by decide)) hk (fun _ h => h.2)) (fun _ h => h.1)); have n1_ := Aside0.mk (Kd.R_mono (Kd.R_keep (IsS79.apart (show IsS79 w0 _ g s0_0 t554 from by repeat (first | (with_reducible first | exact HI0.out | apply IsS79.alloc | apply IsS79.drewN | apply IsS79.drew | apply IsS79.set_1) | exact HI0.out)) (by (with_reducible repeat (first | apply Kd.R_alloc | apply Kd.R_drewN | apply Kd.R_drew)); exact HO_7.out) (by decide)) hk (fun _ h => h.2)) (fun _ h => h.1)); have n2_ := Aside0.mk (Kd.R_mono (Kd.R_keep (IsS79.apart (show IsS79 w0 _ g s0_0 t554 from by repeat (first | (with_reducible first | exact HI0.out | apply IsS79.alloc | apply IsS79.drewN | apply IsS79.drew | apply IsS79.set_1) | exact HI0.out)) (by (with_reducible repeat (first | apply Kd.R_alloc | apply Kd.R_drewN | apply Kd.R_drew)); exact HO557.out) (by decide)) hk (fun _ h => h.2)) (fun _ h => h.1)); have n3_ := Aside0.mk (KeepBut.trans (by repeat (first | (with_reducible first | exact HK.out | apply KeepBut.set_ | apply keep_drewN | apply keep_drew | apply keep_alloc) | exact HK.out)) hk (.inl rfl)); have n4_ := Aside0.mk (hb); have n5_ := Aside0.mk (hi); clear HO_6; clear HO_7; clear HO557; clear HK; clear HB; clear HI0; have HO_6 := n0_; have HO_7 := n1_; have HO557 := n2_; have HK := n3_; have HB := n4_; have HI0 := n5_; clear n0_ n1_ n2_ n3_ n4_ n5_; (try clear hb); (try clear hb2); (try clear hk); (try clear hi); obtain ⟨Ao33, co33, eo33⟩ := Kd.R_slice HO557.out; subst eo33; have p560 : 0 ≤ (t558 : Int) := of_decide_eq_true (by first | (with_reducible assumption) | assumption); have q560 : t558 < (y555.length : Int) := of_decide_eq_true (by first | (with_reducible assumption) | assumption); obtain ⟨ad560, e560, hx560_0⟩ := Kd.at_int (Kd.R_reads' HO557.out).2.2 t558 p560 q560; cases e560; replace p560 := eq_true p560; replace q560 := eq_true q560; have p26 : 0 ≤ ((ji23) : Int) := of_decide_eq_true (by first | (with_reducible assumption) | assumption); have q26 : ((ji23) : Int) < ((x7_1.length : Int) : Int) := of_decide_eq_true (by first | (with_reducible assumption) | assumption); obtain ⟨go26, co26, eo26, gb26, gl26, cl26, HG26⟩ := Kd.R_form HO_7.out (by omega); (first | cases eo26 | (injection eo26 with ea_ en_ ec_; (first | subst ea_ | (injection ea_ with ea_; subst ea_)); subst ec_; clear en_)); have GB26 := Aside0.mk gb26; have GG26 := Aside0.mk HG26; clear gb26 gl26 HG26; obtain ⟨hx26_0, hf26_0⟩ := Kd.R_celln 0 HO_7.out ((ji23) : Int) p26 q26; replace p26 := eq_true p26; replace q26 := eq_true q26; have n_ := Aside0.mk (Kd.R_mono (ok' := (fun k_ => some k_ ≠ (.slice (some ad560) y555.length co33 : Value).ownBlock)) HO_7.out (fun k_ hk => hk.2)); clear HO_7; have HO_7 := n_; clear n_; obtain ⟨hy34_, hz34_⟩ := Kd.R_celln 0 HO_7.out ((ji23) : Int) (of_decide_eq_true (by first | (with_reducible assumption) | assumption)) (of_decide_eq_true (by first | (with_reducible assumption) | assumption)); have HP34 := Kd.R_putg HO_7.out ((ji23) : Int) (rd y555 t558)) | ((with_reducible refine gate_store (t := 3) (p := 48) rfl ?_); (try (rw [drewN_self w32]; generalize hq_ : World.drewN w32 _ = w32; have n0_ := Aside0.mk (Kd.R_at hq_ HO_6.out); have n1_ := Aside0.mk (Kd.R_at hq_ HO_7.out); have n2_ := Aside0.mk (Kd.R_at hq_ HO557.out); have n3_ := Aside0.mk (IsS79.at_ hq_ HI0.out); have n4_ := Aside0.mk (keep_at hq_ HK.out); have n5_ := Aside0.mk (below_at hq_ HB.out); clear hq_ HO_6 HO_7 HO557 HI0 HK HB; have HO_6 := n0_; have HO_7 := n1_; have HO557 := n2_; have HI0 := n3_; have HK := n4_; have HB := n5_; clear n0_ n1_ n2_ n3_ n4_ n5_; (try (have n_ := Aside0.mk (Kd.R_mono (ok' := (fun k_ => some k_ ≠ (.slice (some ad560) y555.length co33 : Value).ownBlock)) HO_7.out (fun k_ hk => hk.2)); clear HO_7; have HO_7 := n_; clear n_)); (try (obtain ⟨hy34_, hz34_⟩ := Kd.R_celln 0 HO_7.out ((ji23) : Int) (of_decide_eq_true (by first | (with_reducible assumption) | assumption)) (of_decide_eq_true (by first | (with_reducible assumption) | assumption)))); (try (have HP34 := Kd.R_putg HO_7.out ((ji23) : Int) (rd y555 t558))))); refine store_event (t := 3) (p := 48) (v := ?vo_w35) (w1 := (w32.setCell ⟨go26, ((ji23) : Int).toNat, none⟩ (.int .i64 (rd y555 t558)))) ?hg ?ho ?hn ?hr ?_; (case ho => rfl); (case hg => rfl); (case hn => rfl); (case hr => first | (go_simp; done) | (go_simp; rfl)); intro w35 hw; have hg : w32.grownBy w35 (some go26) := (by rw [hw]; exact HP34.2); have hp_ : Kd.R (Kd.int .i64) 3 w35 w.heap.size (fun k_ => some k_ ≠ (.slice (some ad560) y555.length co33 : Value).ownBlock) (.slice (some ⟨go26, 0, none⟩) x7_1.length co28) y561 := (by rw [hw, Ny561.out]; exact HP34.1); clear HP34; have n0_ := Aside0.mk (Kd.R_over' (v := (.slice (some ⟨go26, 0, none⟩) x7_1.length co28)) (by (with_reducible repeat (first | apply Kd.R_alloc | apply Kd.R_drewN | apply Kd.R_drew)); exact HO_6.out) (Kd.R_typed HO_7.out) (by decide) hg); have n1_ := Aside0.mk (hp_); have n2_ := Aside0.mk (IsS79.grown (by repeat (first | (with_reducible first | exact HI0.out | apply IsS79.alloc | apply IsS79.drewN | apply IsS79.drew | apply IsS79.set_1) | exact HI0.out)) hg (IsS79.own_ne HI0.out HO_7.out (by decide))); have n3_ := Aside0.mk (Kd.R_after (v := (.slice (some ⟨go26, 0, none⟩) x7_1.length co28)) (v1 := (.slice (some ⟨go26, 0, none⟩) x7_1.length co28)) (ok := (fun _ => True)) (by (with_reducible repeat (first | apply Kd.R_alloc | apply Kd.R_drewN | apply Kd.R_drew)); exact HO557.out) hg (.inl rfl)); have n4_ := Aside0.mk ((by rw [hw]; exact below_set (HB.out) (Nat.le_trans HL.out GB26.out) : Below w0.heap.size w0 w35)); have n5_ := Aside0.mk (KeepBut.trans (by repeat (first | (with_reducible first | exact HK.out | apply KeepBut.set_ | apply keep_drewN | apply keep_drew | apply keep_alloc) | exact HK.out)) (KeepBut.of_grown hg g) (Kd.R_base2 HO_7.out)); clear HO_6; clear HO_7; clear HI0; clear HO557; clear HB; clear HK; have HO_6 := n0_; have HO_7 := n1_; have HI0 := n2_; have HO557 := n3_; have HB := n4_; have HK := n5_; clear n0_ n1_ n2_ n3_ n4_ n5_; clear hg hw hp_))
   repeat (go_quiet (first | (go_at_call 81; (with_reducible refine (spec_l6Rd_pick.calls k1 g s0_0 x1001_1 30 t553 t554 w0 _ ?side1 ?side2 A18.out).mono ?_); (case side1 => repeat (first | (with_reducible first | exact HI0.out | apply IsS79.alloc | apply IsS79.drewN | apply IsS79.drew | apply IsS79.set_1) | exact HI0.out)); (case side2 => repeat (first | (with_reducible first | exact HB.out | apply below_alloc | apply pw_below_drewN | apply below_drew1 | refine below_set ?_ (IsS79.ge HI0.out)) | exact HB.out)); rintro e w29 ⟨rfl, hi, hb, hk⟩; have n0_ := Aside0.mk (Kd.R_mono (Kd.R_keep (IsS79.apart (show IsS79 w0 _ g s0_0 x1001_1 from by repeat (first | (with_reducible first | exact HI0.out | apply IsS79.alloc | apply IsS79.drewN | apply IsS79.drew | apply IsS79.set_1) | exact HI0.out)) (by (with_reducible repeat (first | apply Kd.R_alloc | apply Kd.R_drewN | apply Kd.R_drew)); exact HO_6.out) (by decide)) hk (fun _ h => h.2)) (fun _ h => h.1)); have n1_ := Aside0.mk (Kd.R_mono (Kd.R_keep (IsS79.apart (show IsS79 w0 _ g s0_0 x1001_1 from by repeat (first | (with_reducible first | exact HI0.out | apply IsS79.alloc | apply IsS79.drewN | apply IsS79.drew | apply IsS79.set_1) | exact HI0.out)) (by (with_reducible repeat (first | apply Kd.R_alloc | apply Kd.R_drewN | apply Kd.R_drew)); exact HO_7.out) (by decide)) hk (fun _ h => h.2)) (fun _ h => h.1)); have n2_ := Aside0.mk (KeepBut.trans (by repeat (first | (with_reducible first | exact HK.out | apply KeepBut.set_ | apply keep_drewN | apply keep_drew | apply keep_alloc) | exact HK.out)) hk (.inl rfl)); have n3_ := Aside0.mk (hb); have n4_ := Aside0.mk (hi); clear HO_6; clear HO_7; clear HK; clear HB; clear HI0; have HO_6 := n0_; have HO_7 := n1_; have HK := n2_; have HB := n3_; have HI0 := n4_; clear n0_ n1_ n2_ n3_ n4_; (try clear hb); (try clear hb2); (try clear hk); (try clear hi)) | ((with_reducible refine gate_dst (N := 43) rfl ?_); refine Kd.R_lit (Kd.int .i64) _ 3 ?hg (N := 43) ?hd (xs := ([(-2), (x7_1.length : Int), (-1)] : List Int)) (inner := [.int .i64 (-2), .int .i64 (x7_1.length : Int), .int .i64 (-1)]) (ok := fun _ => True) (okp := fun _ => True) ?hr ?hp (fun _ hk => hk) trivial (Below.refl _ _) (Nat.le_refl _) (by simp) ?_; (case hd => rfl); (case hg => rfl); (case hr => first | (go_simp; done) | (go_simp; rfl)); (case hp => exact (Reps.one (show Kd.M (Kd.int .i64) _ _ _ (-2) [.int .i64 (-2)] from rfl) (Reps.one (show Kd.M (Kd.int .i64) _ _ _ (x7_1.length : Int) [.int .i64 (x7_1.length : Int)] from rfl) (Reps.one (show Kd.M (Kd.int .i64) _ _ _ (-1) [.int .i64 (-1)] from rfl) (Reps.none _ _))))); intro v556 w30 ho31 hb hg_ hnew_; clear hg_ hnew_; (first | rw [← Ny555.out] at ho31 | (simp only [Int.reduceToNat] at ho31; rw [← Ny555.out] at ho31)); have n0_ := Aside0.mk (Kd.R_below (by (with_reducible repeat (first | apply Kd.R_alloc | apply Kd.R_drewN | apply Kd.R_drew)); exact HO_6.out) hb); have n1_ := Aside0.mk (Kd.R_elder' (by (with_reducible repeat (first | apply Kd.R_alloc | apply Kd.R_drewN | apply Kd.R_drew)); exact HO_7.out) (Kd.R_base ho31) hb); have n2_ := Aside0.mk (Kd.R_lower (Kd.R_new' ho31 (Kd.R_lt (by (with_reducible repeat (first | apply Kd.R_alloc | apply Kd.R_drewN | apply Kd.R_drew)); exact HO_7.out))) (keep_size (w := w) (g := g) (row := none) (by repeat (first | (with_reducible first | exact HK.out | apply KeepBut.set_ | apply keep_drewN | apply keep_drew | apply keep_alloc) | exact HK.out)))); have n3_ := Aside0.mk (IsS79.below (by repeat (first | (with_reducible first | exact HI0.out | apply IsS79.alloc | apply IsS79.drewN | apply IsS79.drew | apply IsS79.set_1) | exact HI0.out)) hb); have n4_ := Aside0.mk (KeepBut.trans (by repeat (first | (with_reducible first | exact HK.out | apply KeepBut.set_ | apply keep_drewN | apply keep_drew | apply keep_alloc) | exact HK.out)) (KeepBut.of_below hb g none) (.inl rfl)); have n5_ := Aside0.mk (below_step (by repeat (first | (with_reducible first | exact HB.out | apply below_alloc | apply pw_below_drewN | apply below_drew1 | refine below_set ?_ (IsS79.ge HI0.out)) | exact HB.out)) hb); clear HO_6; clear HO_7; clear HI0; clear HK; clear HB; have HO_6 := n0_; have HO_7 := n1_; have HO557 := n2_; have HI0 := n3_; have HK := n4_; have HB := n5_; clear n0_ n1_ n2_ n3_ n4_ n5_; clear hb ho31) | (go_at_call 81; (with_reducible refine (spec_l6Rd_pick.calls k1 g s0_0 t554 3 t558 t559 w0 _ ?side1 ?side2 A20.out).mono ?_); (case side1 => repeat (first | (with_reducible first | exact HI0.out | apply IsS79.alloc | apply IsS79.drewN | apply IsS79.drew | apply IsS79.set_1) | exact HI0.out)); (case side2 => repeat (first | (with_reducible first | exact HB.out | apply below_alloc | apply pw_below_drewN | apply below_drew1 | refine below_set ?_ (IsS79.ge HI0.out)) | exact HB.out)); rintro e w32 ⟨rfl, hi, hb, hk⟩; have n0_ := Aside0.mk (Kd.R_mono (Kd.R_keep (IsS79.apart (show IsS79 w0 _ g s0_0 t554 from by repeat (first | (with_reducible first | exact HI0.out | apply IsS79.alloc | apply IsS79.drewN | apply IsS79.drew | apply IsS79.set_1) | exact HI0.out)) (by (with_reducible repeat (first | apply Kd.R_alloc | apply Kd.R_drewN | apply Kd.R_drew)); exact HO_6.out) (by decide)) hk (fun _ h => h.2)) (fun _ h => h.1)); have n1_ := Aside0.mk (Kd.R_mono (Kd.R_keep (IsS79.apart (show IsS79 w0 _ g s0_0 t554 from by repeat (first | (with_reducible first | exact HI0.out | apply IsS79.alloc | apply IsS79.drewN | apply IsS79.drew | apply IsS79.set_1) | exact HI0.out)) (by (with_reducible repeat (first | apply Kd.R_alloc | apply Kd.R_drewN | apply Kd.R_drew)); exact HO_7.out) (by decide)) hk (fun _ h => h.2)) (fun _ h => h.1)); have n2_ := Aside0.mk (Kd.R_mono (Kd.R_keep (IsS79.apart (show IsS79 w0 _ g s0_0 t554 from by repeat (first | (with_reducible first | exact HI0.out | apply IsS79.alloc | apply IsS79.drewN | apply IsS79.drew | apply IsS79.set_1) | exact HI0.out)) (by (with_reducible repeat (first | apply Kd.R_alloc | apply Kd.R_drewN | apply Kd.R_drew)); exact HO557.out) (by decide)) hk (fun _ h => h.2)) (fun _ h => h.1)); have n3_ := Aside0.mk (KeepBut.trans (by repeat (first | (with_reducible first | exact HK.out | apply KeepBut.set_ | apply keep_drewN | apply keep_drew | apply keep_alloc) | exact HK.out)) hk (.inl rfl)); have n4_ := Aside0.mk (hb); have n5_ := Aside0.mk (hi); clear HO_6; clear HO_7; clear HO557; clear HK; clear HB; clear HI0; have HO_6 := n0_; have HO_7 := n1_; have HO557 := n2_; have HK := n3_; have HB := n4_; have HI0 := n5_; clear n0_ n1_ n2_ n3_ n4_ n5_; (try clear hb); (try clear hb2); (try clear hk); (try clear hi); obtain ⟨Ao33, co33, eo33⟩ := Kd.R_slice HO557.out; subst eo33; have p560 : 0 ≤ (t558 : Int) := of_decide_eq_true (by first | (with_reducible assumption) | assumption); have q560 : t558 < (y555.length : Int) := of_decide_eq_true (by first | (with_reducible assumption) | assumption); obtain ⟨ad560, e560, hx560_0⟩ := Kd.at_int (Kd.R_reads' HO557.out).2.2 t558 p560 q560; cases e560; replace p560 := eq_true p560; replace q560 := eq_true q560; have p26 : 0 ≤ ((ji23) : Int) := of_decide_eq_true (by first | (with_reducible assumption) | assumption); have q26 : ((ji23) : Int) < ((x7_1.length : Int) : Int) := of_decide_eq_true (by first | (with_reducible assumption) | assumption); obtain ⟨go26, co26, eo26, gb26, gl26, cl26, HG26⟩ := Kd.R_form HO_7.out (by omega); (first | cases eo26 | (injection eo26 with ea_ en_ ec_; (first | subst ea_ | (injection ea_ with ea_; subst ea_)); subst ec_; clear en_)); have GB26 := Aside0.mk gb26; have GG26 := Aside0.mk HG26; clear gb26 gl26 HG26; obtain ⟨hx26_0, hf26_0⟩ := Kd.R_celln 0 HO_7.out ((ji23) : Int) p26 q26; replace p26 := eq_true p26; replace q26 := eq_true q26; have n_ := Aside0.mk (Kd.R_mono (ok' := (fun k_ => some k_ ≠ (.slice (some ad560) y555.length co33 : Value).ownBlock)) HO_7.out (fun k_ hk => hk.2)); clear HO_7; have HO_7 := n_; clear n_; obtain ⟨hy34_, hz34_⟩ := Kd.R_celln 0 HO_7.out ((ji23) : Int) (of_decide_eq_true (by first | (with_reducible assumption) | assumption)) (of_decide_eq_true (by first | (with_reducible assumption) | assumption)); have HP34 := Kd.R_putg HO_7.out ((ji23) : Int) (rd y555 t558)) | ((with_reducible refine gate_store (t := 3) (p := 48) rfl ?_); (try (rw [drewN_self w32]; generalize hq_ : World.drewN w32 _ = w32; have n0_ := Aside0.mk (Kd.R_at hq_ HO_6.out); have n1_ := Aside0.mk (Kd.R_at hq_ HO_7.out); have n2_ := Aside0.mk (Kd.R_at hq_ HO557.out); have n3_ := Aside0.mk (IsS79.at_ hq_ HI0.out); have n4_ := Aside0.mk (keep_at hq_ HK.out); have n5_ := Aside0.mk (below_at hq_ HB.out); clear hq_ HO_6 HO_7 HO557 HI0 HK HB; have HO_6 := n0_; have HO_7 := n1_; have HO557 := n2_; have HI0 := n3_; have HK := n4_; have HB := n5_; clear n0_ n1_ n2_ n3_ n4_ n5_; (try (have n_ := Aside0.mk (Kd.R_mono (ok' := (fun k_ => some k_ ≠ (.slice (some ad560) y555.length co33 : Value).ownBlock)) HO_7.out (fun k_ hk => hk.2)); clear HO_7; have HO_7 := n_; clear n_)); (try (obtain ⟨hy34_, hz34_⟩ := Kd.R_celln 0 HO_7.out ((ji23) : Int) (of_decide_eq_true (by first | (with_reducible assumption) | assumption)) (of_decide_eq_true (by first | (with_reducible assumption) | assumption)))); (try (have HP34 := Kd.R_putg HO_7.out ((ji23) : Int) (rd y555 t558))))); refine store_event (t := 3) (p := 48) (v := ?vo_w35) (w1 := (w32.setCell ⟨go26, ((ji23) : Int).toNat, none⟩ (.int .i64 (rd y555 t558)))) ?hg ?ho ?hn ?hr ?_; (case ho => rfl); (case hg => rfl); (case hn => rfl); (case hr => first | (go_simp; done) | (go_simp; rfl)); intro w35 hw; have hg : w32.grownBy w35 (some go26) := (by rw [hw]; exact HP34.2); have hp_ : Kd.R (Kd.int .i64) 3 w35 w.heap.size (fun k_ => some k_ ≠ (.slice (some ad560) y555.length co33 : Value).ownBlock) (.slice (some ⟨go26, 0, none⟩) x7_1.length co28) y561 := (by rw [hw, Ny561.out]; exact HP34.1); clear HP34; have n0_ := Aside0.mk (Kd.R_over' (v := (.slice (some ⟨go26, 0, none⟩) x7_1.length co28)) (by (with_reducible repeat (first | apply Kd.R_alloc | apply Kd.R_drewN | apply Kd.R_drew)); exact HO_6.out) (Kd.R_typed HO_7.out) (by decide) hg); have n1_ := Aside0.mk (hp_); have n2_ := Aside0.mk (IsS79.grown (by repeat (first | (with_reducible first | exact HI0.out | apply IsS79.alloc | apply IsS79.drewN | apply IsS79.drew | apply IsS79.set_1) | exact HI0.out)) hg (IsS79.own_ne HI0.out HO_7.out (by decide))); have n3_ := Aside0.mk (Kd.R_after (v := (.slice (some ⟨go26, 0, none⟩) x7_1.length co28)) (v1 := (.slice (some ⟨go26, 0, none⟩) x7_1.length co28)) (ok := (fun _ => True)) (by (with_reducible repeat (first | apply Kd.R_alloc | apply Kd.R_drewN | apply Kd.R_drew)); exact HO557.out) hg (.inl rfl)); have n4_ := Aside0.mk ((by rw [hw]; exact below_set (HB.out) (Nat.le_trans HL.out GB26.out) : Below w0.heap.size w0 w35)); have n5_ := Aside0.mk (KeepBut.trans (by repeat (first | (with_reducible first | exact HK.out | apply KeepBut.set_ | apply keep_drewN | apply keep_drew | apply keep_alloc) | exact HK.out)) (KeepBut.of_grown hg g) (Kd.R_base2 HO_7.out)); clear HO_6; clear HO_7; clear HI0; clear HO557; clear HB; clear HK; have HO_6 := n0_; have HO_7 := n1_; have HI0 := n2_; have HO557 := n3_; have HB := n4_; have HK := n5_; clear n0_ n1_ n2_ n3_ n4_ n5_; clear hg hw hp_)); try go_wp2_with (first | (go_at_call 81; (with_reducible refine (spec_l6Rd_pick.calls k1 g s0_0 x1001_1 30 t553 t554 w0 _ ?side1 ?side2 A18.out).mono ?_); (case side1 => repeat (first | (with_reducible first | exact HI0.out | apply IsS79.alloc | apply IsS79.drewN | apply IsS79.drew | apply IsS79.set_1) | exact HI0.out)); (case side2 => repeat (first | (with_reducible first | exact HB.out | apply below_alloc | apply pw_below_drewN | apply below_drew1 | refine below_set ?_ (IsS79.ge HI0.out)) | exact HB.out)); rintro e w29 ⟨rfl, hi, hb, hk⟩; have n0_ := Aside0.mk (Kd.R_mono (Kd.R_keep (IsS79.apart (show IsS79 w0 _ g s0_0 x1001_1 from by repeat (first | (with_reducible first | exact HI0.out | apply IsS79.alloc | apply IsS79.drewN | apply IsS79.drew | apply IsS79.set_1) | exact HI0.out)) (by (with_reducible repeat (first | apply Kd.R_alloc | apply Kd.R_drewN | apply Kd.R_drew)); exact HO_6.out) (by decide)) hk (fun _ h => h.2)) (fun _ h => h.1)); have n1_ := Aside0.mk (Kd.R_mono (Kd.R_keep (IsS79.apart (show IsS79 w0 _ g s0_0 x1001_1 from by repeat (first | (with_reducible first | exact HI0.out | apply IsS79.alloc | apply IsS79.drewN | apply IsS79.drew | apply IsS79.set_1) | exact HI0.out)) (by (with_reducible repeat (first | apply Kd.R_alloc | apply Kd.R_drewN | apply Kd.R_drew)); exact HO_7.out) (by decide)) hk (fun _ h => h.2)) (fun _ h => h.1)); have n2_ := Aside0.mk (KeepBut.trans (by repeat (first | (with_reducible first | exact HK.out | apply KeepBut.set_ | apply keep_drewN | apply keep_drew | apply keep_alloc) | exact HK.out)) hk (.inl rfl)); have n3_ := Aside0.mk (hb); have n4_ := Aside0.mk (hi); clear HO_6; clear HO_7; clear HK; clear HB; clear HI0; have HO_6 := n0_; have HO_7 := n1_; have HK := n2_; have HB := n3_; have HI0 := n4_; clear n0_ n1_ n2_ n3_ n4_; (try clear hb); (try clear hb2); (try clear hk); (try clear hi)) | ((with_reducible refine gate_dst (N := 43) rfl ?_); refine Kd.R_lit (Kd.int .i64) _ 3 ?hg (N := 43) ?hd (xs := ([(-2), (x7_1.length : Int), (-1)] : List Int)) (inner := [.int .i64 (-2), .int .i64 (x7_1.length : Int), .int .i64 (-1)]) (ok := fun _ => True) (okp := fun _ => True) ?hr ?hp (fun _ hk => hk) trivial (Below.refl _ _) (Nat.le_refl _) (by simp) ?_; (case hd => rfl); (case hg => rfl); (case hr => first | (go_simp; done) | (go_simp; rfl)); (case hp => exact (Reps.one (show Kd.M (Kd.int .i64) _ _ _ (-2) [.int .i64 (-2)] from rfl) (Reps.one (show Kd.M (Kd.int .i64) _ _ _ (x7_1.length : Int) [.int .i64 (x7_1.length : Int)] from rfl) (Reps.one (show Kd.M (Kd.int .i64) _ _ _ (-1) [.int .i64 (-1)] from rfl) (Reps.none _ _))))); intro v556 w30 ho31 hb hg_ hnew_; clear hg_ hnew_; (first | rw [← Ny555.out] at ho31 | (simp only [Int.reduceToNat] at ho31; rw [← Ny555.out] at ho31)); have n0_ := Aside0.mk (Kd.R_below (by (with_reducible repeat (first | apply Kd.R_alloc | apply Kd.R_drewN | apply Kd.R_drew)); exact HO_6.out) hb); have n1_ := Aside0.mk (Kd.R_elder' (by (with_reducible repeat (first | apply Kd.R_alloc | apply Kd.R_drewN | apply Kd.R_drew)); exact HO_7.out) (Kd.R_base ho31) hb); have n2_ := Aside0.mk (Kd.R_lower (Kd.R_new' ho31 (Kd.R_lt (by (with_reducible repeat (first | apply Kd.R_alloc | apply Kd.R_drewN | apply Kd.R_drew)); exact HO_7.out))) (keep_size (w := w) (g := g) (row := none) (by repeat (first | (with_reducible first | exact HK.out | apply KeepBut.set_ | apply keep_drewN | apply keep_drew | apply keep_alloc) | exact HK.out)))); have n3_ := Aside0.mk (IsS79.below (by repeat (first | (with_reducible first | exact HI0.out | apply IsS79.alloc | apply IsS79.drewN | apply IsS79.drew | apply IsS79.set_1) | exact HI0.out)) hb); have n4_ := Aside0.mk (KeepBut.trans (by repeat (first | (with_reducible first | exact HK.out | apply KeepBut.set_ | apply keep_drewN | apply keep_drew | apply keep_alloc) | exact HK.out)) (KeepBut.of_below hb g none) (.inl rfl)); have n5_ := Aside0.mk (below_step (by repeat (first | (with_reducible first | exact HB.out | apply below_alloc | apply pw_below_drewN | apply below_drew1 | refine below_set ?_ (IsS79.ge HI0.out)) | exact HB.out)) hb); clear HO_6; clear HO_7; clear HI0; clear HK; clear HB; have HO_6 := n0_; have HO_7 := n1_; have HO557 := n2_; have HI0 := n3_; have HK := n4_; have HB := n5_; clear n0_ n1_ n2_ n3_ n4_ n5_; clear hb ho31) | (go_at_call 81; (with_reducible refine (spec_l6Rd_pick.calls k1 g s0_0 t554 3 t558 t559 w0 _ ?side1 ?side2 A20.out).mono ?_); (case side1 => repeat (first | (with_reducible first | exact HI0.out | apply IsS79.alloc | apply IsS79.drewN | apply IsS79.drew | apply IsS79.set_1) | exact HI0.out)); (case side2 => repeat (first | (with_reducible first | exact HB.out | apply below_alloc | apply pw_below_drewN | apply below_drew1 | refine below_set ?_ (IsS79.ge HI0.out)) | exact HB.out)); rintro e w32 ⟨rfl, hi, hb, hk⟩; have n0_ := Aside0.mk (Kd.R_mono (Kd.R_keep (IsS79.apart (show IsS79 w0 _ g s0_0 t554 from by repeat (first | (with_reducible first | exact HI0.out | apply IsS79.alloc | apply IsS79.drewN | apply IsS79.drew | apply IsS79.set_1) | exact HI0.out)) (by (with_reducible repeat (first | apply Kd.R_alloc | apply Kd.R_drewN | apply Kd.R_drew)); exact HO_6.out) (by decide)) hk (fun _ h => h.2)) (fun _ h => h.1)); have n1_ := Aside0.mk (Kd.R_mono (Kd.R_keep (IsS79.apart (show IsS79 w0 _ g s0_0 t554 from by repeat (first | (with_reducible first | exact HI0.out | apply IsS79.alloc | apply IsS79.drewN | apply IsS79.drew | apply IsS79.set_1) | exact HI0.out)) (by (with_reducible repeat (first | apply Kd.R_alloc | apply Kd.R_drewN | apply Kd.R_drew)); exact HO_7.out) (by decide)) hk (fun _ h => h.2)) (fun _ h => h.1)); have n2_ := Aside0.mk (Kd.R_mono (Kd.R_keep (IsS79.apart (show IsS79 w0 _ g s0_0 t554 from by repeat (first | (with_reducible first | exact HI0.out | apply IsS79.alloc | apply IsS79.drewN | apply IsS79.drew | apply IsS79.set_1) | exact HI0.out)) (by (with_reducible repeat (first | apply Kd.R_alloc | apply Kd.R_drewN | apply Kd.R_drew)); exact HO557.out) (by decide)) hk (fun _ h => h.2)) (fun _ h => h.1)); have n3_ := Aside0.mk (KeepBut.trans (by repeat (first | (with_reducible first | exact HK.out | apply KeepBut.set_ | apply keep_drewN | apply keep_drew | apply keep_alloc) | exact HK.out)) hk (.inl rfl)); have n4_ := Aside0.mk (hb); have n5_ := Aside0.mk (hi); clear HO_6; clear HO_7; clear HO557; clear HK; clear HB; clear HI0; have HO_6 := n0_; have HO_7 := n1_; have HO557 := n2_; have HK := n3_; have HB := n4_; have HI0 := n5_; clear n0_ n1_ n2_ n3_ n4_ n5_; (try clear hb); (try clear hb2); (try clear hk); (try clear hi); obtain ⟨Ao33, co33, eo33⟩ := Kd.R_slice HO557.out; subst eo33; have p560 : 0 ≤ (t558 : Int) := of_decide_eq_true (by first | (with_reducible assumption) | assumption); have q560 : t558 < (y555.length : Int) := of_decide_eq_true (by first | (with_reducible assumption) | assumption); obtain ⟨ad560, e560, hx560_0⟩ := Kd.at_int (Kd.R_reads' HO557.out).2.2 t558 p560 q560; cases e560; replace p560 := eq_true p560; replace q560 := eq_true q560; have p26 : 0 ≤ ((ji23) : Int) := of_decide_eq_true (by first | (with_reducible assumption) | assumption); have q26 : ((ji23) : Int) < ((x7_1.length : Int) : Int) := of_decide_eq_true (by first | (with_reducible assumption) | assumption); obtain ⟨go26, co26, eo26, gb26, gl26, cl26, HG26⟩ := Kd.R_form HO_7.out (by omega); (first | cases eo26 | (injection eo26 with ea_ en_ ec_; (first | subst ea_ | (injection ea_ with ea_; subst ea_)); subst ec_; clear en_)); have GB26 := Aside0.mk gb26; have GG26 := Aside0.mk HG26; clear gb26 gl26 HG26; obtain ⟨hx26_0, hf26_0⟩ := Kd.R_celln 0 HO_7.out ((ji23) : Int) p26 q26; replace p26 := eq_true p26; replace q26 := eq_true q26; have n_ := Aside0.mk (Kd.R_mono (ok' := (fun k_ => some k_ ≠ (.slice (some ad560) y555.length co33 : Value).ownBlock)) HO_7.out (fun k_ hk => hk.2)); clear HO_7; have HO_7 := n_; clear n_; obtain ⟨hy34_, hz34_⟩ := Kd.R_celln 0 HO_7.out ((ji23) : Int) (of_decide_eq_true (by first | (with_reducible assumption) | assumption)) (of_decide_eq_true (by first | (with_reducible assumption) | assumption)); have HP34 := Kd.R_putg HO_7.out ((ji23) : Int) (rd y555 t558)) | ((with_reducible refine gate_store (t := 3) (p := 48) rfl ?_); (try (rw [drewN_self w32]; generalize hq_ : World.drewN w32 _ = w32; have n0_ := Aside0.mk (Kd.R_at hq_ HO_6.out); have n1_ := Aside0.mk (Kd.R_at hq_ HO_7.out); have n2_ := Aside0.mk (Kd.R_at hq_ HO557.out); have n3_ := Aside0.mk (IsS79.at_ hq_ HI0.out); have n4_ := Aside0.mk (keep_at hq_ HK.out); have n5_ := Aside0.mk (below_at hq_ HB.out); clear hq_ HO_6 HO_7 HO557 HI0 HK HB; have HO_6 := n0_; have HO_7 := n1_; have HO557 := n2_; have HI0 := n3_; have HK := n4_; have HB := n5_; clear n0_ n1_ n2_ n3_ n4_ n5_; (try (have n_ := Aside0.mk (Kd.R_mono (ok' := (fun k_ => some k_ ≠ (.slice (some ad560) y555.length co33 : Value).ownBlock)) HO_7.out (fun k_ hk => hk.2)); clear HO_7; have HO_7 := n_; clear n_)); (try (obtain ⟨hy34_, hz34_⟩ := Kd.R_celln 0 HO_7.out ((ji23) : Int) (of_decide_eq_true (by first | (with_reducible assumption) | assumption)) (of_decide_eq_true (by first | (with_reducible assumption) | assumption)))); (try (have HP34 := Kd.R_putg HO_7.out ((ji23) : Int) (rd y555 t558))))); refine store_event (t := 3) (p := 48) (v := ?vo_w35) (w1 := (w32.setCell ⟨go26, ((ji23) : Int).toNat, none⟩ (.int .i64 (rd y555 t558)))) ?hg ?ho ?hn ?hr ?_; (case ho => rfl); (case hg => rfl); (case hn => rfl); (case hr => first | (go_simp; done) | (go_simp; rfl)); intro w35 hw; have hg : w32.grownBy w35 (some go26) := (by rw [hw]; exact HP34.2); have hp_ : Kd.R (Kd.int .i64) 3 w35 w.heap.size (fun k_ => some k_ ≠ (.slice (some ad560) y555.length co33 : Value).ownBlock) (.slice (some ⟨go26, 0, none⟩) x7_1.length co28) y561 := (by rw [hw, Ny561.out]; exact HP34.1); clear HP34; have n0_ := Aside0.mk (Kd.R_over' (v := (.slice (some ⟨go26, 0, none⟩) x7_1.length co28)) (by (with_reducible repeat (first | apply Kd.R_alloc | apply Kd.R_drewN | apply Kd.R_drew)); exact HO_6.out) (Kd.R_typed HO_7.out) (by decide) hg); have n1_ := Aside0.mk (hp_); have n2_ := Aside0.mk (IsS79.grown (by repeat (first | (with_reducible first | exact HI0.out | apply IsS79.alloc | apply IsS79.drewN | apply IsS79.drew | apply IsS79.set_1) | exact HI0.out)) hg (IsS79.own_ne HI0.out HO_7.out (by decide))); have n3_ := Aside0.mk (Kd.R_after (v := (.slice (some ⟨go26, 0, none⟩) x7_1.length co28)) (v1 := (.slice (some ⟨go26, 0, none⟩) x7_1.length co28)) (ok := (fun _ => True)) (by (with_reducible repeat (first | apply Kd.R_alloc | apply Kd.R_drewN | apply Kd.R_drew)); exact HO557.out) hg (.inl rfl)); have n4_ := Aside0.mk ((by rw [hw]; exact below_set (HB.out) (Nat.le_trans HL.out GB26.out) : Below w0.heap.size w0 w35)); have n5_ := Aside0.mk (KeepBut.trans (by repeat (first | (with_reducible first | exact HK.out | apply KeepBut.set_ | apply keep_drewN | apply keep_drew | apply keep_alloc) | exact HK.out)) (KeepBut.of_grown hg g) (Kd.R_base2 HO_7.out)); clear HO_6; clear HO_7; clear HI0; clear HO557; clear HB; clear HK; have HO_6 := n0_; have HO_7 := n1_; have HI0 := n2_; have HO557 := n3_; have HB := n4_; have HK := n5_; clear n0_ n1_ n2_ n3_ n4_ n5_; clear hg hw hp_)))
   go_ret2
   exact ⟨_, _, by first | rfl | (simp [errW_none, errW_some] <;> rfl) | (simp only [← hji23]; first | rfl | (simp [errW_none, errW_some] <;> rfl)) | (simp [*, errW_none, errW_some] <;> rfl), by (with_reducible repeat (first | apply Kd.R_alloc | apply Kd.R_drewN | apply Kd.R_drew)); exact HO_6.out, Kd.Q_of_R (by (with_reducible repeat (first | apply Kd.R_alloc | apply Kd.R_drewN | apply Kd.R_drew)); exact Kd.R_mono HO_7.out (fun _ hk => trivial)), by repeat (first | (with_reducible first | exact HI0.out | apply IsS79.alloc | apply IsS79.drewN | apply IsS79.drew | apply IsS79.set_1) | exact HI0.out), by repeat (first | (with_reducible first | exact HB.out | apply below_alloc | apply pw_below_drewN | apply below_drew1 | refine below_set ?_ (IsS79.ge HI0.out)) | exact HB.out), by repeat (first | (with_reducible first | exact HK.out | apply KeepBut.set_ | apply keep_drewN | apply keep_drew | apply keep_alloc) | exact HK.out)⟩
end Go.Proofs.YtejoneninbdjbaaDoor.E
end
section
namespace Go.Proofs.YtejoneninbdjbaaDoor.E
open Go.RowKit Go.Proofs.YtejoneninbdjbaaDoorW.PrintWords Go.Proofs.YtejoneninbdjbaaDoorW.PrintLast Go.Proofs.YtejoneninbdjbaaDoorW.PrintMore
attribute [local go_sem] max2_int min2_int max_two min_two max_three min_three max_four min_four
set_option linter.unusedVariables false
set_option linter.unusedSimpArgs false
attribute [local go_sem] str_leq_ str_gtr_ str_geq_
def spec_DrawStemDepth.f (k : Nat) (l0 : List Int) : Option (List ByteArray × List Int × Int) := (spec_l6Open.f l0).bind fun bt565 => ((spec_l92Stem.f k bt565.1 bt565.2 true).bind fun bt568 => ((spec_l91At.f k bt565.1 bt568.2.2 (bt568.1.length : Int)).bind fun bt575 => (some (bt568.1, bt568.2.1, bt575.1))))
set_option maxHeartbeats 8000000 in
set_option maxRecDepth 100000 in
theorem spec_DrawStemDepth.calls (k : Nat) (A0 : Option Addr) (c0 : Nat) (l0 : List Int) (r1 : List ByteArray) (r2 : List Int) (r3 : Int) (w : World) (hr0 : Kd.C (Kd.int .u8) w A0 l0.length l0) (hc0 : l0.length ≤ c0) (h : spec_DrawStemDepth.f k l0 = some (r1, r2, r3)) :
  Calls Tryd.prog 47 #[.slice A0 l0.length c0] w fun e w' => ∃ v0_ v1_ : Value, e = .returned (.tuple #[v0_, v1_, .int .i64 r3]) ∧ Kd.R Kd.string 9 w' w.heap.size (fun _ => True) v0_ r1 ∧ Kd.Q (Kd.int .i64) 3 w' w.heap.size (fun _ => True) v1_ r2 ∧ Below w.heap.size w w' := by
 have HR0 := Aside0.mk hr0
 have HC0 := Aside0.mk hc0
 clear hr0 hc0
 have HB := Aside0.mk (Below.refl w.heap.size w)
 have H : ((spec_l6Open.f l0).bind fun bt565 => ((spec_l92Stem.f k bt565.1 bt565.2 true).bind fun bt568 => ((spec_l91At.f k bt565.1 bt568.2.2 (bt568.1.length : Int)).bind fun bt575 => (some (bt568.1, bt568.2.1, bt575.1))))) = some (r1, r2, r3) := h
 clear h
 replace H := Option.bind_eq_some_iff.mp H
 obtain ⟨⟨t565, t566⟩, A20, H⟩ := H
 replace H : ((spec_l92Stem.f k t565 t566 true).bind fun bt568 => ((spec_l91At.f k t565 bt568.2.2 (bt568.1.length : Int)).bind fun bt575 => (some (bt568.1, bt568.2.1, bt575.1)))) = some (r1, r2, r3) := H
 have A2 := Aside0.mk A20
 clear A20
 replace H := Option.bind_eq_some_iff.mp H
 obtain ⟨⟨t568, t571, t574⟩, A30, H⟩ := H
 replace H : ((spec_l91At.f k t565 t574 (t568.length : Int)).bind fun bt575 => (some (t568, t571, bt575.1))) = some (r1, r2, r3) := H
 have A3 := Aside0.mk A30
 clear A30
 replace H := Option.bind_eq_some_iff.mp H
 obtain ⟨⟨t575, t576⟩, A40, H⟩ := H
 replace H : (some (t568, t571, t575)) = some (r1, r2, r3) := H
 have A4 := Aside0.mk A40
 clear A40
 simp only [Option.some.injEq, Prod.mk.injEq] at H
 obtain ⟨rfl, rfl, rfl⟩ := H
 go_enter Tryd.func47, Tryd.ntmps47
 go_wp2_with (first | ((with_reducible refine gate_callee (f := 65) rfl ?_); refine goesL_ (some 9) rfl rfl Tryd.func65 (by kernel_rfl) rfl #[.slice A0 l0.length c0] rfl (by (try simp only [List.map_toArray, List.map_cons, List.map_nil]); first | done | rfl | (simp only [List.length_drop, List.length_take]; rfl)) ?_; (with_reducible refine (spec_l6Open.calls _ _ l0 t565 t566 w _ ?side1 ?side2 ?side3 A2.out).mono ?_); (case side1 => repeat (first | (with_reducible first | exact HB.out | apply below_alloc | apply pw_below_drewN | apply below_drew1) | exact HB.out)); (case side2 => exact HR0.out); (case side3 => exact HC0.out); rintro e w5 ⟨g567, rfl, hi, hb, hb2⟩; refine ⟨_, rfl, ?_⟩; have n0_ := Aside0.mk (hb); have n1_ := Aside0.mk (hi); clear HB; have HB := n0_; have HI567 := n1_; clear n0_ n1_; (try clear hb); (try clear hb2); (try clear hk); (try clear hi)) | ((with_reducible refine gate_callee (f := 72) rfl ?_); refine goesL_ (some 12) rfl rfl Tryd.func72 (by kernel_rfl) rfl #[.pointer (some ⟨g567, 0, none⟩), .bool true] rfl (by (try simp only [List.map_toArray, List.map_cons, List.map_nil]); first | done | rfl | (simp only [List.length_drop, List.length_take]; rfl)) ?_; (with_reducible refine (spec_l92Stem.calls k g567 t565 t566 true t568 t571 t574 w _ ?side1 ?side2 A3.out).mono ?_); (case side1 => repeat (first | (with_reducible first | exact HI567.out | apply IsS79.alloc | apply IsS79.drewN | apply IsS79.drew | apply IsS79.set_1) | exact HI567.out)); (case side2 => repeat (first | (with_reducible first | exact HB.out | apply below_alloc | apply pw_below_drewN | apply below_drew1 | refine below_set ?_ (IsS79.ge HI567.out)) | exact HB.out)); rintro e w6 ⟨v569, v572, rfl, ho0, ho1, hi, hb, hk⟩; refine ⟨_, rfl, ?_⟩; have n0_ := Aside0.mk (Kd.R_lower ho0 (below_size (by repeat (first | (with_reducible first | exact HB.out | apply below_alloc | apply pw_below_drewN | apply below_drew1 | refine below_set ?_ (IsS79.ge HI567.out)) | exact HB.out)))); have n1_ := Aside0.mk (Kd.Q_lower ho1 (below_size (by repeat (first | (with_reducible first | exact HB.out | apply below_alloc | apply pw_below_drewN | apply below_drew1 | refine below_set ?_ (IsS79.ge HI567.out)) | exact HB.out)))); have n2_ := Aside0.mk (hb); have n3_ := Aside0.mk (hi); clear HB; clear HI567; have HO570 := n0_; have HO573 := n1_; have HB := n2_; have HI567 := n3_; clear n0_ n1_ n2_ n3_; (try clear hb); (try clear hb2); (try clear hk); (try clear hi); (try clear ho0); (try clear ho1); obtain ⟨Ao7, co7, eo7⟩ := Kd.R_slice HO570.out; subst eo7) | ((with_reducible refine gate_callee (f := 67) rfl ?_); refine goesL_ (some 20) rfl rfl Tryd.func67 (by kernel_rfl) rfl #[.pointer (some ⟨g567, 0, none⟩), .int .i64 (t568.length : Int)] rfl (by (try simp only [List.map_toArray, List.map_cons, List.map_nil]); first | done | rfl | (simp only [List.length_drop, List.length_take]; rfl)) ?_; (with_reducible refine (spec_l91At.calls k g567 t565 t574 (t568.length : Int) t575 t576 w _ ?side1 ?side2 A4.out).mono ?_); (case side1 => repeat (first | (with_reducible first | exact HI567.out | apply IsS79.alloc | apply IsS79.drewN | apply IsS79.drew | apply IsS79.set_1) | exact HI567.out)); (case side2 => repeat (first | (with_reducible first | exact HB.out | apply below_alloc | apply pw_below_drewN | apply below_drew1 | refine below_set ?_ (IsS79.ge HI567.out)) | exact HB.out)); rintro e w8 ⟨rfl, hi, hb, hk⟩; refine ⟨_, rfl, ?_⟩; have n0_ := Aside0.mk (Kd.R_mono (Kd.R_keep (IsS79.apart (show IsS79 w _ g567 t565 t574 from by repeat (first | (with_reducible first | exact HI567.out | apply IsS79.alloc | apply IsS79.drewN | apply IsS79.drew | apply IsS79.set_1) | exact HI567.out)) (by (with_reducible repeat (first | apply Kd.R_alloc | apply Kd.R_drewN | apply Kd.R_drew)); exact HO570.out) (by decide)) hk (fun _ h => h.2)) (fun _ h => h.1)); have n1_ := Aside0.mk (Kd.Q_mono (Kd.Q_keep (IsS79.apartQ (show IsS79 w _ g567 t565 t574 from by repeat (first | (with_reducible first | exact HI567.out | apply IsS79.alloc | apply IsS79.drewN | apply IsS79.drew | apply IsS79.set_1) | exact HI567.out)) (by (with_reducible repeat (first | apply Kd.Q_alloc | apply Kd.Q_drewN | apply Kd.Q_drew)); exact HO573.out) (by decide)) hk (fun _ h => h.2)) (fun _ h => h.1)); have n2_ := Aside0.mk (hb); have n3_ := Aside0.mk (hi); clear HO570; clear HO573; clear HB; clear HI567; have HO570 := n0_; have HO573 := n1_; have HB := n2_; have HI567 := n3_; clear n0_ n1_ n2_ n3_; (try clear hb); (try clear hb2); (try clear hk); (try clear hi)))
 go_ret3
 exact ⟨_, _, by first | rfl | (simp [errW_none, errW_some] <;> rfl) | (simp [*, errW_none, errW_some] <;> rfl), by (with_reducible repeat (first | apply Kd.R_alloc | apply Kd.R_drewN | apply Kd.R_drew)); exact HO570.out, by (with_reducible repeat (first | apply Kd.Q_alloc | apply Kd.Q_drewN | apply Kd.Q_drew)); exact HO573.out, by repeat (first | (with_reducible first | exact HB.out | apply below_alloc | apply pw_below_drewN | apply below_drew1 | refine below_set ?_ (IsS79.ge HI567.out)) | exact HB.out)⟩
end Go.Proofs.YtejoneninbdjbaaDoor.E
end
section
namespace Go.Proofs.YtejoneninbdjbaaDoor.E
open Go.RowKit Go.Proofs.YtejoneninbdjbaaDoorW.PrintWords Go.Proofs.YtejoneninbdjbaaDoorW.PrintLast Go.Proofs.YtejoneninbdjbaaDoorW.PrintMore
attribute [local go_sem] max2_int min2_int max_two min_two max_three min_three max_four min_four
set_option linter.unusedVariables false
set_option linter.unusedSimpArgs false
attribute [local go_sem] str_leq_ str_gtr_ str_geq_
def laws_FnStemDepth.j0 : Nat → List ByteArray → List Int → Int → Int → Int → Bool → Option (Bool)
 | 0, _, _, _, _, _, _ => none
 | k + 1, x3, x4, x5, x6, x7, x31 => if x31 = true then (some (x6 == x7)) else (if x5 = 0 then (some (x6 == 0)) else (if x6 ≥ 1 then (if x6 < (x3.length : Int) then (if x6 ≤ x5 then (if 0 ≤ x5 then (if x5 < (x4.length : Int) then ((impl_StemDepth.f k x3 x4 (rd x4 x5)).bind fun t587 => (some (t587 == (wrap64 (x6 - 1))))) else (none)) else (none)) else (some false)) else (some false)) else (some false)))
def laws_FnStemDepth.f (k : Nat) (l0 : List Int) : Option (Bool) := if (l0.length : Int) > 1048576 then (some true) else ((spec_DrawStemDepth.f k l0).bind fun bt577 => ((impl_StemDepth.f k bt577.1 bt577.2.1 bt577.2.2).bind fun t584 => ((spec_StemDepth.f k bt577.1 bt577.2.1 bt577.2.2).bind fun t585 => (if t584 = t585 then (laws_FnStemDepth.j0 k bt577.1 bt577.2.1 bt577.2.2 t584 t585 (decide (t584 < 0))) else (laws_FnStemDepth.j0 k bt577.1 bt577.2.1 bt577.2.2 t584 t585 true)))))
set_option maxHeartbeats 8000000 in
set_option maxRecDepth 100000 in
theorem laws_FnStemDepth.calls (k : Nat) (A0 : Option Addr) (c0 : Nat) (l0 : List Int) (r : Bool) (w : World) (hr0 : Kd.C (Kd.int .u8) w A0 l0.length l0) (hc0 : l0.length ≤ c0) (h : laws_FnStemDepth.f k l0 = some r) :
  Calls Tryd.prog 13 #[.slice A0 l0.length c0] w fun e w' => e = .returned (.bool r) ∧ Below w.heap.size w w' := by
 have HR0 := Aside0.mk hr0
 have HC0 := Aside0.mk hc0
 clear hr0 hc0
 have HB := Aside0.mk (Below.refl w.heap.size w)
 have H : (if (l0.length : Int) > 1048576 then (some true) else ((spec_DrawStemDepth.f k l0).bind fun bt577 => ((impl_StemDepth.f k bt577.1 bt577.2.1 bt577.2.2).bind fun t584 => ((spec_StemDepth.f k bt577.1 bt577.2.1 bt577.2.2).bind fun t585 => (if t584 = t585 then (laws_FnStemDepth.j0 k bt577.1 bt577.2.1 bt577.2.2 t584 t585 (decide (t584 < 0))) else (laws_FnStemDepth.j0 k bt577.1 bt577.2.1 bt577.2.2 t584 t585 true)))))) = some r := h
 clear h
 by_cases c2 : (l0.length : Int) > 1048576
 ·rw [if_pos c2] at H
  have c2b0 : decide (1048576 < (l0.length : Int)) = true := decide_eq_true c2
  have c2b1 : decide (1048576 < l0.length) = true := decide_eq_true (by omega)
  clear c2
  obtain rfl := Option.some.inj H
  go_enter Tryd.func13, Tryd.ntmps13
  go_wp2
  go_ret
  exact ⟨by first | rfl | (simp [errW_none, errW_some] <;> rfl) | (simp [*, errW_none, errW_some] <;> rfl), by repeat (first | (with_reducible first | exact HB.out | apply below_alloc | apply pw_below_drewN | apply below_drew1) | exact HB.out)⟩
 rw [if_neg c2] at H
 have c2b0 : decide (1048576 < (l0.length : Int)) = false := decide_eq_false c2
 have c2b1 : decide (1048576 < l0.length) = false := decide_eq_false (by omega)
 clear c2
 replace H := Option.bind_eq_some_iff.mp H
 obtain ⟨⟨t577, t578, t579⟩, A30, H⟩ := H
 replace H : ((impl_StemDepth.f k t577 t578 t579).bind fun t584 => ((spec_StemDepth.f k t577 t578 t579).bind fun t585 => (if t584 = t585 then (laws_FnStemDepth.j0 k t577 t578 t579 t584 t585 (decide (t584 < 0))) else (laws_FnStemDepth.j0 k t577 t578 t579 t584 t585 true)))) = some r := H
 have A3 := Aside0.mk A30
 clear A30
 replace H := Option.bind_eq_some_iff.mp H
 obtain ⟨t584, A40, H⟩ := H
 replace H : ((spec_StemDepth.f k t577 t578 t579).bind fun t585 => (if t584 = t585 then (laws_FnStemDepth.j0 k t577 t578 t579 t584 t585 (decide (t584 < 0))) else (laws_FnStemDepth.j0 k t577 t578 t579 t584 t585 true))) = some r := H
 have A4 := Aside0.mk A40
 clear A40
 replace H := Option.bind_eq_some_iff.mp H
 obtain ⟨t585, A50, H⟩ := H
 replace H : (if t584 = t585 then (laws_FnStemDepth.j0 k t577 t578 t579 t584 t585 (decide (t584 < 0))) else (laws_FnStemDepth.j0 k t577 t578 t579 t584 t585 true)) = some r := H
 have A5 := Aside0.mk A50
 clear A50
 have HC6 := Aside0.mk H
 clear H
 go_enter Tryd.func13, Tryd.ntmps13
 go_upto_region 6 with (first | ((with_reducible refine gate_callee (f := 47) rfl ?_); refine goesL_ (some 13) rfl rfl Tryd.func47 (by kernel_rfl) rfl #[.slice A0 l0.length c0] rfl (by (try simp only [List.map_toArray, List.map_cons, List.map_nil]); first | done | rfl | (simp only [List.length_drop, List.length_take]; rfl)) ?_; (with_reducible refine (spec_DrawStemDepth.calls k _ _ l0 t577 t578 t579 _ ?side1 ?side2 A3.out).mono ?_); (case side1 => repeat (first | exact HR0.out | (with_reducible refine Kd.C_alloc ?_ _) | (with_reducible refine Kd.C_drewN ?_ _) | (with_reducible refine Kd.C_drew ?_))); (case side2 => exact HC0.out); rintro e w7 ⟨v580, v582, rfl, ho0, ho1, hb⟩; refine ⟨_, rfl, ?_⟩; have n0_ := Aside0.mk (Kd.R_lower ho0 (below_size (by repeat (first | (with_reducible first | exact HB.out | apply below_alloc | apply pw_below_drewN | apply below_drew1) | exact HB.out)))); have n1_ := Aside0.mk (Kd.Q_lower ho1 (below_size (by repeat (first | (with_reducible first | exact HB.out | apply below_alloc | apply pw_below_drewN | apply below_drew1) | exact HB.out)))); have n2_ := Aside0.mk (below_step (by repeat (first | (with_reducible first | exact HB.out | apply below_alloc | apply pw_below_drewN | apply below_drew1) | exact HB.out)) hb); clear HB; have HO581 := n0_; have HO583 := n1_; have HB := n2_; clear n0_ n1_ n2_; (try clear hb); (try clear hb2); (try clear hk); (try clear hi); (try clear ho0); (try clear ho1); obtain ⟨Ao8, co8, eo8⟩ := Kd.R_slice HO581.out; subst eo8; obtain ⟨Ao9, co9, eo9, _⟩ := Kd.Q_slice HO583.out; subst eo9) | ((with_reducible refine gate_callee (f := 36) rfl ?_); refine goesL_ (some 20) rfl rfl Tryd.func36 (by kernel_rfl) rfl #[.slice Ao8 t577.length co8, .slice Ao9 t578.length co9, .int .i64 t579] rfl (by (try simp only [List.map_toArray, List.map_cons, List.map_nil]); first | done | rfl | (simp only [List.length_drop, List.length_take]; rfl)) ?_; (with_reducible refine (impl_StemDepth.calls k _ _ t577 _ _ t578 t579 t584 _ ?side1 ?side2 ?side3 ?side4 A4.out).mono ?_); (case side1 => repeat (first | exact (Kd.R_reads' HO581.out).2.2 | (with_reducible refine Kd.C_alloc ?_ _) | (with_reducible refine Kd.C_drewN ?_ _) | (with_reducible refine Kd.C_drew ?_))); (case side2 => exact (Kd.R_reads' HO581.out).2.1); (case side3 => repeat (first | exact (Kd.Q_reads' HO583.out).2.2 | (with_reducible refine Kd.C_alloc ?_ _) | (with_reducible refine Kd.C_drewN ?_ _) | (with_reducible refine Kd.C_drew ?_))); (case side4 => exact (Kd.Q_reads' HO583.out).2.1); rintro e w10 ⟨rfl, hb⟩; refine ⟨_, rfl, ?_⟩; have n0_ := Aside0.mk (Kd.R_below (by (with_reducible repeat (first | apply Kd.R_alloc | apply Kd.R_drewN | apply Kd.R_drew)); exact HO581.out) hb); have n1_ := Aside0.mk (Kd.Q_below (by (with_reducible repeat (first | apply Kd.Q_alloc | apply Kd.Q_drewN | apply Kd.Q_drew)); exact HO583.out) hb); have n2_ := Aside0.mk (below_step (by repeat (first | (with_reducible first | exact HB.out | apply below_alloc | apply pw_below_drewN | apply below_drew1) | exact HB.out)) hb); clear HO581; clear HO583; clear HB; have HO581 := n0_; have HO583 := n1_; have HB := n2_; clear n0_ n1_ n2_; (try clear hb); (try clear hb2); (try clear hk); (try clear hi)) | ((with_reducible refine gate_callee (f := 35) rfl ?_); refine goesL_ (some 24) rfl rfl Tryd.func35 (by kernel_rfl) rfl #[.slice Ao8 t577.length co8, .slice Ao9 t578.length co9, .int .i64 t579] rfl (by (try simp only [List.map_toArray, List.map_cons, List.map_nil]); first | done | rfl | (simp only [List.length_drop, List.length_take]; rfl)) ?_; (with_reducible refine (spec_StemDepth.calls k _ _ t577 _ _ t578 t579 t585 _ ?side1 ?side2 ?side3 ?side4 A5.out).mono ?_); (case side1 => repeat (first | exact (Kd.R_reads' HO581.out).2.2 | (with_reducible refine Kd.C_alloc ?_ _) | (with_reducible refine Kd.C_drewN ?_ _) | (with_reducible refine Kd.C_drew ?_))); (case side2 => exact (Kd.R_reads' HO581.out).2.1); (case side3 => repeat (first | exact (Kd.Q_reads' HO583.out).2.2 | (with_reducible refine Kd.C_alloc ?_ _) | (with_reducible refine Kd.C_drewN ?_ _) | (with_reducible refine Kd.C_drew ?_))); (case side4 => exact (Kd.Q_reads' HO583.out).2.1); rintro e w' ⟨rfl, ⟨nd, rfl⟩⟩; refine ⟨_, rfl, ?_⟩))
 (try simp only [Act.put, List.setIfInBounds_toArray, List.set_cons_zero, List.set_cons_succ])
 go_cut [31] (fun v31 wc => ∃ (kq : Nat) (x31_5 : Bool), v31 = .bool x31_5 ∧ Aside0 (laws_FnStemDepth.j0 kq t577 t578 t579 t584 t585 x31_5 = some r) ∧ Aside0 (kq ≤ k) ∧ Aside0 (Kd.R Kd.string 9 wc w.heap.size (fun _ => True) (.slice Ao8 t577.length co8) t577) ∧ Aside0 (Kd.Q (Kd.int .i64) 3 wc w.heap.size (fun _ => True) (.slice Ao9 t578.length co9) t578) ∧ Aside0 (Below w.heap.size w wc))
 case first =>
  have H := HC6.out
  clear HC6
  by_cases c11 : t584 = t585
  rotate_left
  ·rw [if_neg c11] at H
   have c11b0 : (t584 == t585) = false := beq_eq_false_iff_ne.mpr c11
   have c11b1 : (t584 != t585) = true := bne_iff_ne.mpr c11
   (first | rw [c11b0] | (simp only [i64_w, i32_w]; rw [c11b0]) | skip)
   have H' := Aside0.mk H
   clear H
   go_wp2
   go_meet
   case rel => exact ⟨_, (true), (by first | rfl | (simp; done) | (simp [*]; done)), H', ⟨by first | omega | exact Nat.le_refl _⟩, ⟨by (with_reducible repeat (first | apply Kd.R_alloc | apply Kd.R_drewN | apply Kd.R_drew)); exact HO581.out⟩, ⟨by (with_reducible repeat (first | apply Kd.Q_alloc | apply Kd.Q_drewN | apply Kd.Q_drew)); exact HO583.out⟩, ⟨by repeat (first | (with_reducible first | exact HB.out | apply below_alloc | apply pw_below_drewN | apply below_drew1) | exact HB.out)⟩⟩
  rw [if_pos c11] at H
  have c11b0 : (t584 == t585) = true := beq_iff_eq.mpr c11
  have c11b1 : (t584 != t585) = false := bne_eq_false_iff_eq.mpr c11
  clear c11
  (first | rw [c11b0] | (simp only [i64_w, i32_w]; rw [c11b0]) | skip)
  have H' := Aside0.mk H
  clear H
  go_wp2
  go_meet
  case rel => exact ⟨_, (decide (t584 < 0)), (by first | rfl | (simp; done) | (simp [*]; done)), H', ⟨by first | omega | exact Nat.le_refl _⟩, ⟨by (with_reducible repeat (first | apply Kd.R_alloc | apply Kd.R_drewN | apply Kd.R_drew)); exact HO581.out⟩, ⟨by (with_reducible repeat (first | apply Kd.Q_alloc | apply Kd.Q_drewN | apply Kd.Q_drew)); exact HO583.out⟩, ⟨by repeat (first | (with_reducible first | exact HB.out | apply below_alloc | apply pw_below_drewN | apply below_drew1) | exact HB.out)⟩⟩
 case rest =>
  clear HC6
  try clear c1
  try clear c2
  try clear c2b0
  try clear c2b1
  try clear p2
  try clear c3
  try clear c4
  try clear c11
  try clear c11b0
  try clear c11b1
  obtain ⟨kq, x31_5, rfl, HA, HJ5, HO_3, HO_4, HB⟩ := hcut
  cases kq with
  | zero => exact absurd HA.out (by simp [laws_FnStemDepth.j0])
  | succ kj5 =>
   have H := HA.out
   clear HA
   simp only [laws_FnStemDepth.j0] at H
   by_cases c12 : x31_5 = true
   ·subst c12
    have H1 : (some (t584 == t585)) = some r := by rw [if_pos rfl] at H; exact H
    clear H
    have H := H1
    clear H1
    obtain rfl := Option.some.inj H
    go_wp2
    go_ret
    exact ⟨by first | rfl | (simp [errW_none, errW_some] <;> rfl) | (simp [*, errW_none, errW_some] <;> rfl), by repeat (first | (with_reducible first | exact HB.out | apply below_alloc | apply pw_below_drewN | apply below_drew1) | exact HB.out)⟩
   replace c12 := Bool.eq_false_iff.mpr c12
   subst c12
   have H1 : (if t579 = 0 then (some (t584 == 0)) else (if t584 ≥ 1 then (if t584 < (t577.length : Int) then (if t584 ≤ t579 then (if 0 ≤ t579 then (if t579 < (t578.length : Int) then ((impl_StemDepth.f kj5 t577 t578 (rd t578 t579)).bind fun t587 => (some (t587 == (wrap64 (t584 - 1))))) else (none)) else (none)) else (some false)) else (some false)) else (some false))) = some r := by rw [if_neg (show ¬ (false = true) by decide)] at H; exact H
   clear H
   have H := H1
   clear H1
   by_cases c13 : t579 = 0
   ·rw [if_pos c13] at H
    have c13b0 : (t579 == 0) = true := beq_iff_eq.mpr c13
    have c13b1 : (t579 != 0) = false := bne_eq_false_iff_eq.mpr c13
    clear c13
    obtain rfl := Option.some.inj H
    go_wp2
    go_ret
    exact ⟨by first | rfl | (simp [errW_none, errW_some] <;> rfl) | (simp [*, errW_none, errW_some] <;> rfl), by repeat (first | (with_reducible first | exact HB.out | apply below_alloc | apply pw_below_drewN | apply below_drew1) | exact HB.out)⟩
   rw [if_neg c13] at H
   have c13b0 : (t579 == 0) = false := beq_eq_false_iff_ne.mpr c13
   have c13b1 : (t579 != 0) = true := bne_iff_ne.mpr c13
   by_cases c14 : t584 ≥ 1
   rotate_left
   ·rw [if_neg c14] at H
    have c14b0 : decide (1 ≤ t584) = false := decide_eq_false c14
    clear c14
    obtain rfl := Option.some.inj H
    go_wp2
    go_ret
    exact ⟨by first | rfl | (simp [errW_none, errW_some] <;> rfl) | (simp [*, errW_none, errW_some] <;> rfl), by repeat (first | (with_reducible first | exact HB.out | apply below_alloc | apply pw_below_drewN | apply below_drew1) | exact HB.out)⟩
   rw [if_pos c14] at H
   have c14b0 : decide (1 ≤ t584) = true := decide_eq_true c14
   clear c14
   by_cases c15 : t584 < (t577.length : Int)
   rotate_left
   ·rw [if_neg c15] at H
    have c15b0 : decide (t584 < (t577.length : Int)) = false := decide_eq_false c15
    clear c15
    obtain rfl := Option.some.inj H
    go_wp2
    go_ret
    exact ⟨by first | rfl | (simp [errW_none, errW_some] <;> rfl) | (simp [*, errW_none, errW_some] <;> rfl), by repeat (first | (with_reducible first | exact HB.out | apply below_alloc | apply pw_below_drewN | apply below_drew1) | exact HB.out)⟩
   rw [if_pos c15] at H
   have c15b0 : decide (t584 < (t577.length : Int)) = true := decide_eq_true c15
   clear c15
   by_cases c16 : t584 ≤ t579
   rotate_left
   ·rw [if_neg c16] at H
    have c16b0 : decide (t584 ≤ t579) = false := decide_eq_false c16
    clear c16
    obtain rfl := Option.some.inj H
    go_wp2
    go_ret
    exact ⟨by first | rfl | (simp [errW_none, errW_some] <;> rfl) | (simp [*, errW_none, errW_some] <;> rfl), by repeat (first | (with_reducible first | exact HB.out | apply below_alloc | apply pw_below_drewN | apply below_drew1) | exact HB.out)⟩
   rw [if_pos c16] at H
   have c16b0 : decide (t584 ≤ t579) = true := decide_eq_true c16
   clear c16
   by_cases c17 : 0 ≤ t579
   rotate_left
   ·rw [if_neg c17] at H
    exact absurd H (by simp)
   rw [if_pos c17] at H
   have c17b0 : decide (0 ≤ t579) = true := decide_eq_true c17
   clear c17
   by_cases c18 : t579 < (t578.length : Int)
   rotate_left
   ·rw [if_neg c18] at H
    exact absurd H (by simp)
   rw [if_pos c18] at H
   have c18b0 : decide (t579 < (t578.length : Int)) = true := decide_eq_true c18
   clear c18
   replace H := Option.bind_eq_some_iff.mp H
   obtain ⟨t587, A190, H⟩ := H
   replace H : (some (t587 == (wrap64 (t584 - 1)))) = some r := H
   have A19 := Aside0.mk A190
   clear A190
   obtain rfl := Option.some.inj H
   have p586 : 0 ≤ (t579 : Int) := of_decide_eq_true (by first | (with_reducible assumption) | assumption)
   have q586 : t579 < (t578.length : Int) := of_decide_eq_true (by first | (with_reducible assumption) | assumption)
   obtain ⟨ad586, e586, hx586_0⟩ := Kd.at_int (Kd.Q_reads' HO_4.out).2.2 t579 p586 q586
   cases e586
   replace p586 := eq_true p586
   replace q586 := eq_true q586
   go_wp2_with (first | (go_at_call 36; (with_reducible refine (impl_StemDepth.calls kj5 _ _ t577 _ _ t578 (rd t578 t579) t587 _ ?side1 ?side2 ?side3 ?side4 A19.out).mono ?_); (case side1 => repeat (first | exact (Kd.R_reads' HO_3.out).2.2 | (with_reducible refine Kd.C_alloc ?_ _) | (with_reducible refine Kd.C_drewN ?_ _) | (with_reducible refine Kd.C_drew ?_))); (case side2 => exact (Kd.R_reads' HO_3.out).2.1); (case side3 => repeat (first | exact (Kd.Q_reads' HO_4.out).2.2 | (with_reducible refine Kd.C_alloc ?_ _) | (with_reducible refine Kd.C_drewN ?_ _) | (with_reducible refine Kd.C_drew ?_))); (case side4 => exact (Kd.Q_reads' HO_4.out).2.1); rintro e w20 ⟨rfl, hb⟩; have n0_ := Aside0.mk (Kd.R_below (by (with_reducible repeat (first | apply Kd.R_alloc | apply Kd.R_drewN | apply Kd.R_drew)); exact HO_3.out) hb); have n1_ := Aside0.mk (Kd.Q_below (by (with_reducible repeat (first | apply Kd.Q_alloc | apply Kd.Q_drewN | apply Kd.Q_drew)); exact HO_4.out) hb); have n2_ := Aside0.mk (below_step (by repeat (first | (with_reducible first | exact HB.out | apply below_alloc | apply pw_below_drewN | apply below_drew1) | exact HB.out)) hb); clear HO_3; clear HO_4; clear HB; have HO_3 := n0_; have HO_4 := n1_; have HB := n2_; clear n0_ n1_ n2_; (try clear hb); (try clear hb2); (try clear hk); (try clear hi)))
   go_ret
   exact ⟨by first | rfl | (simp [errW_none, errW_some] <;> rfl) | (simp [*, errW_none, errW_some] <;> rfl), by repeat (first | (with_reducible first | exact HB.out | apply below_alloc | apply pw_below_drewN | apply below_drew1) | exact HB.out)⟩
def laws_FnStemDepth.Pure : Prop := ∀ (l0 : List Int), l0.length ≤ maxLen → l0.length * 1 ≤ 140737488351232 → (∀ x ∈ l0, (Lit.int .u8 x).wf = true) → ∃ k, laws_FnStemDepth.f k l0 = some true
end Go.Proofs.YtejoneninbdjbaaDoor.E
end
section
namespace Go.Proofs.YtejoneninbdjbaaDoor.Pur
open Go.RowKit Go.Proofs.YtejoneninbdjbaaDoorW.PrintWords
def EvP {α : Type} (g : Nat → Option α) (P : α → Prop) : Prop := ∃ r, Ev g r ∧ P r
section
variable {α β : Type}
theorem EvP.bind {g : Nat → Option α} {f : Nat → α → Option β} {P : α → Prop} {Q : β → Prop} (h : EvP g P) (k : ∀ a, P a → EvP (fun n => f n a) Q) : EvP (fun n => (g n).bind (f n)) Q := by
  obtain ⟨a, ha, hp⟩ := h
  obtain ⟨b, hb, hq⟩ := k a hp
  exact ⟨b, Ev.bind ha hb, hq⟩
theorem EvP.ret {P : α → Prop} {r : α} (h : P r) : EvP (fun _ => some r) P := ⟨r, Ev.now r, h⟩
theorem EvP.con {o : Option α} {P : α → Prop} {r : α} (h : o = some r) (hp : P r) : EvP (fun _ => o) P := by subst h; exact .ret hp
theorem EvP.ite {c : Prop} [Decidable c] {f g : Nat → Option α} {P : α → Prop} (h : c → EvP f P) (k : ¬ c → EvP g P) : EvP (fun n => if c then f n else g n) P := by
  by_cases hc : c
  · obtain ⟨r, hr, hp⟩ := h hc
    exact ⟨r, Ev.congr (fun n => if_pos hc) hr, hp⟩
  · obtain ⟨r, hr, hp⟩ := k hc
    exact ⟨r, Ev.congr (fun n => if_neg hc) hr, hp⟩
theorem EvP.yes {c : Prop} [Decidable c] {f g : Nat → Option α} {P : α → Prop} (hc : c) (h : EvP f P) : EvP (fun n => if c then f n else g n) P := .ite (fun _ => h) (fun k => absurd hc k)
theorem EvP.no {c : Prop} [Decidable c] {f g : Nat → Option α} {P : α → Prop} (hc : ¬ c) (h : EvP g P) : EvP (fun n => if c then f n else g n) P := .ite (fun k => absurd k hc) (fun _ => h)
theorem EvP.step {g f : Nat → Option α} {P : α → Prop} (h : ∀ k, g (k + 1) = f k) (k : EvP f P) : EvP g P := by
  obtain ⟨r, hr, hp⟩ := k
  exact ⟨r, Ev.step h hr, hp⟩
theorem EvP.succ {g : Nat → Option α} {P : α → Prop} (k : EvP (fun n => g (n + 1)) P) : EvP g P := EvP.step (fun _ => rfl) k
theorem EvP.mono {g : Nat → Option α} {P Q : α → Prop} (h : EvP g P) (k : ∀ r, P r → Q r) : EvP g Q := by
  obtain ⟨r, hr, hp⟩ := h
  exact ⟨r, hr, k r hp⟩
theorem EvP.rounds {g : Nat → Option α} {r : α} (h : EvP g (· = r)) : ∃ k, g k = some r := by
  obtain ⟨_, hr, rfl⟩ := h
  exact hr.rounds
end
structure Hd (p : Prop) : Prop where mk :: (out : p)
theorem w64 {i : Int} (h0 : -9223372036854775808 ≤ i) (h1 : i ≤ 9223372036854775807) : wrap64 i = i := by unfold wrap64; omega
theorem tmod_pos {a : Int} (b : Int) (h : 0 ≤ a) : Int.tmod a b = a % b := Int.tmod_eq_emod_of_nonneg h
theorem tdiv_pos {a : Int} (b : Int) (h : 0 ≤ a) : Int.tdiv a b = a / b := Int.tdiv_eq_ediv_of_nonneg h
theorem toNat_nat (n : Nat) : ((n : Int)).toNat = n := rfl
end Go.Proofs.YtejoneninbdjbaaDoor.Pur
end
section
namespace Go.Proofs.YtejoneninbdjbaaDoor.Pur
open Go.RowKit Go.Proofs.YtejoneninbdjbaaDoorW.PrintWords Go.Proofs.YtejoneninbdjbaaDoorW.PrintMore Go.Proofs.YtejoneninbdjbaaDoor.E
def okB (B : List Int) : Prop := B.length ≤ 2000 ∧ ∀ x ∈ B, 0 ≤ x ∧ x ≤ 255
theorem byte_range {x : Int} (h : (Lit.int .u8 x).wf = true) : 0 ≤ x ∧ x ≤ 255 := by
  simp [Lit.wf, IntKind.min, IntKind.max, IntKind.signed, IntKind.bits] at h
  omega
theorem okB_rd {B : List Int} (h : okB B) (i : Int) : 0 ≤ rd B i ∧ rd B i ≤ 255 := by
  unfold rd
  rw [List.getD_eq_getElem?_getD]
  cases e : B[i.toNat]? with
  | none => simp
  | some v => simpa using h.2 v (List.mem_of_getElem? e)
theorem open_code (l : List Int) (h : ∀ x ∈ l, (Lit.int .u8 x).wf = true) : EvP (fun _ => spec_l6Open.f l) (fun r => okB r.1 ∧ r.2 = 0) := by
  unfold spec_l6Open.f
  refine EvP.ite (fun h1 => EvP.yes (by omega) (EvP.ret ⟨⟨by simp; omega, fun x hx => byte_range (h x (List.mem_of_mem_take hx))⟩, rfl⟩)) (fun h1 => EvP.ret ⟨⟨by dsimp only; omega, fun x hx => byte_range (h x hx)⟩, rfl⟩)
theorem xor_nn {x y : Int} (hx : 0 ≤ x) (hx' : x < 4611686018427387904) (hy : 0 ≤ y) (hy' : y < 4611686018427387904) : 0 ≤ Go.bits .xor .i64 x y := by
  obtain ⟨a, rfl⟩ := Int.eq_ofNat_of_zero_le hx
  obtain ⟨b, rfl⟩ := Int.eq_ofNat_of_zero_le hy
  have ha : a < 2 ^ 62 := by omega
  have hb : b < 2 ^ 62 := by omega
  have hx : a ^^^ b < 2 ^ 62 := Nat.xor_lt_two_pow ha hb
  have ea : a % 2 ^ IntKind.i64.bits = a := Nat.mod_eq_of_lt (by simp [IntKind.bits]; omega)
  have eb : b % 2 ^ IntKind.i64.bits = b := Nat.mod_eq_of_lt (by simp [IntKind.bits]; omega)
  simp only [Go.bits, BitVec.ofInt_natCast, BitVec.toNat_xor, BitVec.toNat_ofNat, ea, eb]
  rw [IntKind.wrap_i64]
  omega
theorem mix_ok (E n : Int) (h0 : 0 ≤ E) (h1 : E < 4611686018427387904) (hn : 1 ≤ n) :
    0 ≤ Int.tmod (Go.bits .xor .i64 E (wrap64 (Int.tdiv E 64))) n ∧ Int.tmod (Go.bits .xor .i64 E (wrap64 (Int.tdiv E 64))) n < n := by
  have hd : Int.tdiv E 64 = E / 64 := tdiv_pos 64 h0
  have h2 := xor_nn h0 h1 (y := wrap64 (Int.tdiv E 64)) (by rw [hd, w64 (by omega) (by omega)]; omega) (by rw [hd, w64 (by omega) (by omega)]; omega)
  exact ⟨Int.tmod_nonneg n h2, Int.tmod_lt_of_pos _ (by omega)⟩
theorem mixE (r1 r2 p q : Int) (a1 : 0 ≤ r1 ∧ r1 ≤ 255) (a2 : 0 ≤ r2 ∧ r2 ≤ 255) (hp : 0 ≤ p ∧ p ≤ 1000000000) (hq : 0 ≤ q ∧ q ≤ 1000000000) :
    (wrap64 ((wrap64 ((wrap64 ((wrap64 ((wrap64 r1) * 131)) + (wrap64 ((wrap64 r2) * 1117)))) + (wrap64 (p * 29)))) + (wrap64 ((wrap64 q) * 53)))) = r1 * 131 + r2 * 1117 + p * 29 + q * 53 := by
  rw [w64 (i := r1) (by omega) (by omega), w64 (i := r2) (by omega) (by omega), w64 (i := q) (by omega) (by omega), w64 (i := r1 * 131) (by omega) (by omega), w64 (i := r2 * 1117) (by omega) (by omega), w64 (i := p * 29) (by omega) (by omega),
    w64 (i := q * 53) (by omega) (by omega), w64 (i := r1 * 131 + r2 * 1117) (by omega) (by omega), w64 (i := r1 * 131 + r2 * 1117 + p * 29) (by omega) (by omega), w64 (by omega) (by omega)]
theorem pick_ok {B : List Int} (hB : okB B) (p n : Int) (hp : 0 ≤ p ∧ p ≤ 100000000) (hn : 1 ≤ n ∧ n ≤ 1000000) : EvP (fun k => spec_l6Rd_pick.f k B p n) (fun r => 0 ≤ r.1 ∧ r.1 < n ∧ r.2 = p + 1) := by
  unfold spec_l6Rd_pick.f
  have e1 : wrap64 (p + 1) = p + 1 := w64 (by omega) (by omega)
  have e2 : wrap64 (p + 1 - 1) = p := by rw [w64 (by omega) (by omega)]; omega
  have hl := hB.1
  rw [e1]
  refine EvP.no (by omega) ?_
  refine EvP.succ ?_
  simp only [spec_l6Rd_pick.j0, e2]
  clear e1 e2
  refine EvP.ite (fun h0 => EvP.ret ⟨by omega, by dsimp only; omega, rfl⟩) (fun h0 => ?_)
  have hpos : 0 < (B.length : Int) := by
    rw [beq_iff_eq] at h0
    omega
  refine EvP.ite (fun h1 => ?_) (fun h1 => ?_)
  · have hr := okB_rd hB p
    refine EvP.yes (by omega) (EvP.no (by omega) (EvP.ret ⟨?_, ?_, rfl⟩))
    · rw [w64 (by omega) (by omega)]; exact Int.tmod_nonneg n hr.1
    · exact Int.tmod_lt_of_pos _ (by omega)
  · refine EvP.no (by omega) ?_
    have m1 : Int.tmod p (B.length : Int) = p % (B.length : Int) := tmod_pos _ hp.1
    have hm1 : 0 ≤ Int.tmod p (B.length : Int) ∧ Int.tmod p (B.length : Int) < (B.length : Int) := by rw [m1]; exact ⟨Int.emod_nonneg _ (by omega), Int.emod_lt_of_pos _ hpos⟩
    have e3 : wrap64 ((wrap64 (p * 7)) + 3) = p * 7 + 3 := by rw [w64 (i := p * 7) (by omega) (by omega), w64 (by omega) (by omega)]
    rw [e3]
    clear e3
    have hm2 : 0 ≤ Int.tmod (p * 7 + 3) (B.length : Int) ∧ Int.tmod (p * 7 + 3) (B.length : Int) < (B.length : Int) := by rw [tmod_pos _ (by omega)]; exact ⟨Int.emod_nonneg _ (by omega), Int.emod_lt_of_pos _ hpos⟩
    have hq : 0 ≤ Int.tdiv p (B.length : Int) ∧ Int.tdiv p (B.length : Int) ≤ 1000000000 := by
      rw [tdiv_pos _ hp.1]
      have := Int.ediv_le_self (B.length : Int) hp.1
      exact ⟨Int.ediv_nonneg hp.1 (by omega), by omega⟩
    have a1 := okB_rd hB (Int.tmod p (B.length : Int))
    have a2 := okB_rd hB (Int.tmod (p * 7 + 3) (B.length : Int))
    refine EvP.yes hm1.1 (EvP.yes hm1.2 (EvP.yes hm2.1 (EvP.yes hm2.2 (EvP.no (by omega) ?_))))
    rw [mixE _ _ p _ a1 a2 (by omega) hq]
    have := mix_ok (rd B (Int.tmod p (B.length : Int)) * 131 + rd B (Int.tmod (p * 7 + 3) (B.length : Int)) * 1117 + p * 29 + Int.tdiv p (B.length : Int) * 53) n (by omega) (by omega) hn.1
    exact EvP.ret ⟨this.1, this.2, rfl⟩
end Go.Proofs.YtejoneninbdjbaaDoor.Pur
end
section
namespace Go.Proofs.YtejoneninbdjbaaDoor.Pur
open Go.RowKit Go.Proofs.YtejoneninbdjbaaDoorW.PrintWords Go.Proofs.YtejoneninbdjbaaDoorW.PrintMore Go.Proofs.YtejoneninbdjbaaDoor.E
theorem of_ok {B : List Int} (hB : okB B) (p : Int) (hp : 0 ≤ p ∧ p ≤ 1000000) (l : List ByteArray) (hl : 1 ≤ l.length ∧ l.length ≤ 1000) : EvP (fun k => spec_l6Rd_of.f k B p l) (fun r => (∃ i : Nat, i < l.length ∧ r.1 = l.getD i ByteArray.empty) ∧ r.2 = p + 1) := by
  unfold spec_l6Rd_of.f
  refine EvP.bind (pick_ok hB p (l.length : Int) (by omega) (by omega)) (fun r hr => ?_)
  exact EvP.yes hr.1 (EvP.yes hr.2.1 (EvP.ret ⟨⟨r.1.toNat, by omega, rfl⟩, hr.2.2⟩))
theorem of_size {B : List Int} (hB : okB B) (p : Int) (hp : 0 ≤ p ∧ p ≤ 1000000) (l : List ByteArray) (hl : 1 ≤ l.length ∧ l.length ≤ 1000) (n : Nat) (h : ∀ t ∈ l, t.size ≤ n) : EvP (fun k => spec_l6Rd_of.f k B p l) (fun r => r.1.size ≤ n ∧ r.1 ∈ l ∧ r.2 = p + 1) := by
  refine (of_ok hB p hp l hl).mono (fun r hr => ?_)
  obtain ⟨⟨i, hi, e⟩, e2⟩ := hr
  have hm : r.1 ∈ l := by
    rw [e, List.getD_eq_getElem?_getD, List.getElem?_eq_getElem hi]
    exact List.getElem_mem hi
  exact ⟨h _ hm, hm, e2⟩
end Go.Proofs.YtejoneninbdjbaaDoor.Pur
end
section
namespace Go.Proofs.YtejoneninbdjbaaDoor.Pur
open Go.RowKit Go.Proofs.YtejoneninbdjbaaDoorW.PrintWords Go.Proofs.YtejoneninbdjbaaDoorW.PrintMore Go.Proofs.YtejoneninbdjbaaDoor.E
theorem at_ok {B : List Int} (hB : okB B) (p n : Int) (hp : 0 ≤ p ∧ p ≤ 1000000) (hn : 0 ≤ n ∧ n ≤ 100000) : EvP (fun k => spec_l91At.f k B p n) (fun r => -1 ≤ r.1 ∧ r.1 ≤ n ∧ 0 ≤ r.2 ∧ r.2 ≤ p + 2) := by
  unfold spec_l91At.f
  have bad : ∀ q : Int, 0 ≤ q → q ≤ p + 1 → EvP (fun k => spec_l91At.j0 k n true B q) (fun r => -1 ≤ r.1 ∧ r.1 ≤ n ∧ 0 ≤ r.2 ∧ r.2 ≤ p + 2) := by
    intro q h0 h1
    refine EvP.succ ?_
    simp only [spec_l91At.j0]
    refine EvP.yes trivial ?_
    refine EvP.bind (P := (· = [(-1), n])) (EvP.con rfl rfl) (fun _ e => ?_)
    subst e
    refine EvP.bind (pick_ok hB q 2 (by omega) (by omega)) (fun r hr => ?_)
    have h2 : (([(-1), n] : List Int).length : Int) = 2 := rfl
    refine EvP.yes hr.1 (EvP.yes (by omega) (EvP.ret ?_))
    have : r.1 = 0 ∨ r.1 = 1 := by omega
    rcases this with e | e
    · rw [e]; exact ⟨by show -1 ≤ (-1 : Int); omega, by show (-1 : Int) ≤ n; omega, by dsimp only; omega, by dsimp only; omega⟩
    · rw [e]; exact ⟨by show -1 ≤ n; omega, by show n ≤ n; omega, by dsimp only; omega, by dsimp only; omega⟩
  refine EvP.ite (fun _ => bad p hp.1 (by omega)) (fun h0 => ?_)
  refine EvP.bind (pick_ok hB p 20 (by omega) (by omega)) (fun r hr => ?_)
  by_cases hz : r.1 = 0
  · rw [beq_iff_eq.mpr hz]
    exact bad r.2 (by omega) (by omega)
  · rw [beq_eq_false_iff_ne.mpr hz]
    refine EvP.succ ?_
    simp only [spec_l91At.j0]
    refine EvP.no (by decide) ?_
    refine EvP.bind (pick_ok hB r.2 n (by omega) (by omega)) (fun q hq => EvP.ret ⟨by dsimp only; omega, by dsimp only; omega, by dsimp only; omega, by dsimp only; omega⟩)
end Go.Proofs.YtejoneninbdjbaaDoor.Pur
end
section
namespace Go.Proofs.YtejoneninbdjbaaDoor.E
open Go.RowKit Go.Proofs.YtejoneninbdjbaaDoorW.PrintWords Go.Proofs.YtejoneninbdjbaaDoorW.PrintLast Go.Proofs.YtejoneninbdjbaaDoorW.PrintMore
attribute [local go_sem] max2_int min2_int max_two min_two max_three min_three max_four min_four
set_option linter.unusedVariables false
set_option linter.unusedSimpArgs false
attribute [local go_sem] str_leq_ str_gtr_ str_geq_
def impl_BooksValid.f (k : Nat) (l0 : List ByteArray) : Option (Bool) := (impl_lostOf.f k l0).bind fun bt125 => (if bt125.2 = true then (some (bt125.1 == 0)) else (some false))
end Go.Proofs.YtejoneninbdjbaaDoor.E
end
section
namespace Go.Proofs.YtejoneninbdjbaaDoor.E
open Go.RowKit Go.Proofs.YtejoneninbdjbaaDoorW.PrintWords Go.Proofs.YtejoneninbdjbaaDoorW.PrintLast Go.Proofs.YtejoneninbdjbaaDoorW.PrintMore
attribute [local go_sem] max2_int min2_int max_two min_two max_three min_three max_four min_four
set_option linter.unusedVariables false
set_option linter.unusedSimpArgs false
attribute [local go_sem] str_leq_ str_gtr_ str_geq_
def spec_BooksValid.f (k : Nat) (l0 : List ByteArray) : Option (Bool) := (spec_l7Books.f k l0).bind fun bt113 => (if bt113.2 = true then (some (bt113.1 == 0)) else (some false))
end Go.Proofs.YtejoneninbdjbaaDoor.E
end
section
namespace Go.Proofs.YtejoneninbdjbaaDoor.Pur
open Go.RowKit Go.Proofs.YtejoneninbdjbaaDoorW.PrintWords Go.Proofs.YtejoneninbdjbaaDoorW.PrintMore Go.Proofs.YtejoneninbdjbaaDoor.E
def lostB (t : ByteArray) : Bool := t.data.toList.all (fun b => b == 63)
def readB (t : ByteArray) : Bool := t.data.toList.all (fun b => decide (97 ≤ b.toNat) && decide (b.toNat ≤ 100))
theorem bt_at (t : ByteArray) (i : Nat) (h : i < t.size) : bt t (i : Int) = ((t.data.toList[i]'(by rw [Array.length_toList]; exact h)).toNat : Int) := by
  unfold bt
  rw [toNat_nat, dif_pos h, Array.getElem_toList]
  rfl
theorem list_len (t : ByteArray) : t.data.toList.length = t.size := Array.length_toList
theorem rd_at {l : List ByteArray} {i : Nat} (h : i < l.length) : rdOf ByteArray.empty l (i : Int) = l[i] := by
  unfold rdOf
  rw [toNat_nat, List.getD_eq_getElem?_getD, List.getElem?_eq_getElem h]
  rfl
theorem u8_eq {b : UInt8} {n : Nat} (hn : n < 256) : (b == UInt8.ofNat n) = decide (b.toNat = n) := by
  by_cases h : b.toNat = n
  · rw [decide_eq_true h, beq_iff_eq, ← UInt8.toNat_inj, h, UInt8.toNat_ofNat_of_lt' hn]
  · rw [decide_eq_false h, beq_eq_false_iff_ne]
    intro e
    rw [e, UInt8.toNat_ofNat_of_lt' hn] at h
    exact h rfl
theorem lost_loop (t : ByteArray) (ht : t.size ≤ 9223372036854775806) : ∀ d i : Nat, i + d = t.size → EvP (fun k => spec_l7Lost.l0 k t (i : Int)) (· = (t.data.toList.drop i).all (fun b => b == 63)) := by
  intro d
  induction d with
  | zero =>
    intro i hi
    refine EvP.succ ?_
    simp only [spec_l7Lost.l0]
    exact EvP.no (by omega) (EvP.ret (by rw [List.drop_of_length_le (by rw [list_len]; omega)]; rfl))
  | succ d ih =>
    intro i hi
    have hlt : i < t.size := by omega
    have hl : i < t.data.toList.length := by rw [list_len]; exact hlt
    have e2 : Hd (wrap64 ((i : Int) + 1) = ((i + 1 : Nat) : Int)) := ⟨w64 (by omega) (by omega)⟩
    refine EvP.succ ?_
    simp only [spec_l7Lost.l0]
    refine EvP.yes (by omega) (EvP.yes (by omega) ?_)
    rw [bt_at t i hlt, e2.out, List.drop_eq_getElem_cons hl, List.all_cons, show (63 : UInt8) = UInt8.ofNat 63 from rfl, u8_eq (by omega)]
    refine EvP.ite (fun h => ?_) (fun h => EvP.ret ?_)
    · rw [decide_eq_true (by omega), Bool.true_and]
      exact ih (i + 1) (by omega)
    · rw [decide_eq_false (by omega), Bool.false_and]
theorem spec_lost (t : ByteArray) (ht : t.size ≤ 9223372036854775806) : EvP (fun k => spec_l7Lost.f k t) (· = lostB t) := by
  unfold spec_l7Lost.f
  exact lost_loop t ht t.size 0 (by omega)
theorem read_loop (t : ByteArray) (ht : t.size ≤ 9223372036854775806) : ∀ d i : Nat, i + d = t.size → EvP (fun k => spec_l7Reading.l0 k t (i : Int)) (· = (t.data.toList.drop i).all (fun b => decide (97 ≤ b.toNat) && decide (b.toNat ≤ 100))) := by
  intro d
  induction d with
  | zero =>
    intro i hi
    refine EvP.succ ?_
    simp only [spec_l7Reading.l0]
    exact EvP.no (by omega) (EvP.ret (by rw [List.drop_of_length_le (by rw [list_len]; omega)]; rfl))
  | succ d ih =>
    intro i hi
    have hlt : i < t.size := by omega
    have hl : i < t.data.toList.length := by rw [list_len]; exact hlt
    have e2 : Hd (wrap64 ((i : Int) + 1) = ((i + 1 : Nat) : Int)) := ⟨w64 (by omega) (by omega)⟩
    refine EvP.succ ?_
    simp only [spec_l7Reading.l0]
    refine EvP.yes (by omega) (EvP.yes (by omega) ?_)
    rw [bt_at t i hlt, e2.out, List.drop_eq_getElem_cons hl, List.all_cons]
    refine EvP.ite (fun h => EvP.ret ?_) (fun h => EvP.ite (fun h' => EvP.ret ?_) (fun h' => ?_))
    · rw [decide_eq_false (by omega), Bool.false_and, Bool.false_and]
    · rw [decide_eq_false (p := _ ≤ 100) (by omega), Bool.and_false, Bool.false_and]
    · rw [decide_eq_true (by omega), decide_eq_true (by omega), Bool.true_and, Bool.true_and]
      exact ih (i + 1) (by omega)
theorem spec_read (t : ByteArray) (ht : t.size ≤ 9223372036854775806) : EvP (fun k => spec_l7Reading.f k t) (· = readB t) := by
  unfold spec_l7Reading.f
  exact read_loop t ht t.size 0 (by omega)
theorem dropWhile_nil {α : Type} (p : α → Bool) : ∀ l : List α, l.dropWhile p = [] ↔ l.all p = true
  | [] => by simp
  | a :: l => by
    by_cases h : p a = true
    · rw [List.dropWhile_cons_of_pos h, dropWhile_nil p l, List.all_cons, h, Bool.true_and]
    · rw [List.dropWhile_cons_of_neg h, List.all_cons, Bool.eq_false_iff.mpr h, Bool.false_and]; simp
theorem dropWhile_head {α : Type} (p : α → Bool) : ∀ l : List α, l.dropWhile p = [] ∨ ∃ a l', l.dropWhile p = a :: l' ∧ p a = false
  | [] => .inl rfl
  | a :: l => by
    by_cases h : p a = true
    · rw [List.dropWhile_cons_of_pos h]; exact dropWhile_head p l
    · rw [List.dropWhile_cons_of_neg h]; exact .inr ⟨a, l, rfl, Bool.eq_false_iff.mpr h⟩
theorem trim_nil (l cs : List UInt8) : Lib.trimS l cs = [] ↔ l.all (cs.contains ·) = true := by
  unfold Lib.trimS Lib.trimLeftS Lib.trimRightS
  rw [dropWhile_nil, List.all_reverse]
  refine ⟨fun h => ?_, fun h => ?_⟩
  · rcases dropWhile_head (cs.contains ·) l.reverse with e | ⟨a, l', e, ha⟩
    · rw [dropWhile_nil, List.all_reverse] at e; exact e
    · rw [e, List.all_cons, ha, Bool.false_and] at h; exact absurd h (by decide)
  · have : l.reverse.dropWhile (cs.contains ·) = [] := (dropWhile_nil _ _).mpr (by rw [List.all_reverse]; exact h)
    rw [this]; rfl
theorem trim_some (t c : ByteArray) (ht : t.size ≤ 9223372036854775806) (hc : c.size < 4294967281) (ha : c.data.toList.all (fun b => decide (b.toNat < 128)) = true) : strings_Trim.f t c = some ⟨(Lib.trimS t.data.toList c.data.toList).toArray⟩ := by
  unfold strings_Trim.f
  rw [if_pos (by omega), if_pos hc, if_pos ha]
theorem impl_lost (t : ByteArray) (ht : t.size ≤ 9223372036854775806) (h0 : t.size ≠ 0) : impl_isLost.f t = some (lostB t) := by
  unfold impl_isLost.f
  have hne : ¬ t.toList = ([] : List UInt8) := by
    rw [ByteArray.toList_eq]
    intro e
    have := congrArg List.length e
    rw [list_len] at this
    exact h0 this
  rw [if_neg hne, trim_some t _ ht (by decide) (by decide)]
  simp only [Option.bind_some]
  rw [ByteArray.toList_eq]
  congr 1
  show (Lib.trimS t.data.toList [63] == []) = lostB t
  have h := trim_nil t.data.toList [63]
  have e : (t.data.toList.all (fun b => [63].contains b)) = lostB t := by
    unfold lostB
    congr 1
    funext b
    rw [List.contains_cons]
    simp
  rw [e] at h
  by_cases hl : lostB t = true
  · rw [hl, beq_iff_eq]; exact h.mpr hl
  · rw [Bool.eq_false_iff.mpr hl, beq_eq_false_iff_ne]; exact fun e => hl (h.mp e)
theorem trim_read (t : ByteArray) (ht : t.size ≤ 9223372036854775806) : ∃ r, strings_Trim.f t (⟨#[97, 98, 99, 100]⟩ : ByteArray) = some r ∧ (r.toList = ([] : List UInt8) ↔ readB t = true) := by
  refine ⟨_, trim_some t _ ht (by decide) (by decide), ?_⟩
  rw [ByteArray.toList_eq]
  show Lib.trimS t.data.toList [97, 98, 99, 100] = [] ↔ _
  rw [trim_nil]
  have e : (t.data.toList.all (fun b => [97, 98, 99, 100].contains b)) = readB t := by
    unfold readB
    congr 1
    funext b
    have h : ∀ n : Nat, n < 256 → (b == UInt8.ofNat n) = decide (b.toNat = n) := fun n hn => u8_eq hn
    simp only [List.contains, List.elem]
    rw [show (97 : UInt8) = UInt8.ofNat 97 from rfl, show (98 : UInt8) = UInt8.ofNat 98 from rfl, show (99 : UInt8) = UInt8.ofNat 99 from rfl, show (100 : UInt8) = UInt8.ofNat 100 from rfl, h 97 (by omega), h 98 (by omega), h 99 (by omega), h 100 (by omega)]
    rcases Nat.lt_or_ge b.toNat 97 with g | g
    · rw [decide_eq_false (p := b.toNat = 97) (by omega), decide_eq_false (p := b.toNat = 98) (by omega), decide_eq_false (p := b.toNat = 99) (by omega), decide_eq_false (p := b.toNat = 100) (by omega), decide_eq_false (p := 97 ≤ b.toNat) (by omega)]; rfl
    · rcases Nat.lt_or_ge 100 b.toNat with g' | g'
      · rw [decide_eq_false (p := b.toNat = 97) (by omega), decide_eq_false (p := b.toNat = 98) (by omega), decide_eq_false (p := b.toNat = 99) (by omega), decide_eq_false (p := b.toNat = 100) (by omega), decide_eq_false (p := b.toNat ≤ 100) (by omega), Bool.and_false]
      · rw [decide_eq_true (p := 97 ≤ b.toNat) g, decide_eq_true (p := b.toNat ≤ 100) g', Bool.and_true]
        have : b.toNat = 97 ∨ b.toNat = 98 ∨ b.toNat = 99 ∨ b.toNat = 100 := by omega
        rcases this with e | e | e | e <;> rw [e] <;> rfl
  rw [e]
def goB (n : Nat) : List ByteArray → Int → Int × Bool
  | [], c => (c, true)
  | t :: ts, c => if t.size = n ∧ (readB t = true ∨ lostB t = true) then goB n ts (if lostB t = true then c + 1 else c) else (0, false)
def booksOf (l : List ByteArray) : Int × Bool := if 1 ≤ l.length ∧ l.length ≤ 6 ∧ 1 ≤ (l.getD 0 ByteArray.empty).size ∧ (l.getD 0 ByteArray.empty).size ≤ 8 then goB (l.getD 0 ByteArray.empty).size l 0 else (0, false)
theorem rd0 (l : List ByteArray) : rdOf ByteArray.empty l 0 = l.getD 0 ByteArray.empty := rfl
section
variable (l : List ByteArray) (hl : 1 ≤ l.length ∧ l.length ≤ 6) (hs : ∀ t ∈ l, t.size ≤ 9223372036854775806)
include hl hs
theorem spec_books_loop (_ : 1 ≤ (l.getD 0 ByteArray.empty).size ∧ (l.getD 0 ByteArray.empty).size ≤ 8) : ∀ (d i : Nat) (c : Int), i + d = l.length → 0 ≤ c → c ≤ i → EvP (fun k => spec_l7Books.l0 k l c (i : Int)) (· = goB (l.getD 0 ByteArray.empty).size (l.drop i) c) := by
  intro d
  induction d with
  | zero =>
    intro i c hi hc0 hc1
    refine EvP.succ ?_
    simp only [spec_l7Books.l0]
    exact EvP.no (by omega) (EvP.ret (by rw [List.drop_of_length_le (by omega)]; rfl))
  | succ d ih =>
    intro i c hi hc0 hc1
    have hlt : i < l.length := by omega
    have hsz := hs l[i] (List.getElem_mem hlt)
    have e1 : Hd (wrap64 (c + 1) = c + 1) := ⟨w64 (by omega) (by omega)⟩
    have e2 : Hd (wrap64 ((i : Int) + 1) = ((i + 1 : Nat) : Int)) := ⟨w64 (by omega) (by omega)⟩
    rw [List.drop_eq_getElem_cons hlt, goB]
    have J : ∀ B : Bool, (B = false ↔ (l[i].size = (l.getD 0 ByteArray.empty).size ∧ (readB l[i] = true ∨ lostB l[i] = true))) → EvP (fun k => spec_l7Books.j2 k l c (i : Int) B) (· = if l[i].size = (l.getD 0 ByteArray.empty).size ∧ (readB l[i] = true ∨ lostB l[i] = true) then goB (l.getD 0 ByteArray.empty).size (l.drop (i + 1)) (if lostB l[i] = true then c + 1 else c) else (0, false)) := by
      intro B hB
      refine EvP.succ ?_
      simp only [spec_l7Books.j2]
      refine EvP.ite (fun hb => EvP.ret ?_) (fun hb => ?_)
      · rw [if_neg (fun h => by rw [hB.mpr h] at hb; exact Bool.noConfusion hb)]
      · rw [if_pos (hB.mp (Bool.eq_false_iff.mpr hb))]
        refine EvP.yes (by omega) (EvP.yes (by omega) ?_)
        rw [rd_at hlt, e1.out, e2.out]
        refine EvP.bind (spec_lost _ hsz) (fun _ e => ?_)
        subst e
        refine EvP.ite (fun h => ?_) (fun h => ?_)
        · rw [if_pos h]; exact ih (i + 1) (c + 1) (by omega) (by omega) (by omega)
        · rw [if_neg h]; exact ih (i + 1) c (by omega) hc0 (by omega)
    refine EvP.succ ?_
    simp only [spec_l7Books.l0]
    refine EvP.yes (by omega) (EvP.yes (by omega) (EvP.yes (by omega) ?_))
    rw [rd_at hlt, rd0]
    refine EvP.ite (fun hz => ?_) (fun hz => J true ⟨fun h => Bool.noConfusion h, fun h => absurd (by rw [h.1]) hz⟩)
    have hz : l[i].size = (l.getD 0 ByteArray.empty).size := by omega
    refine EvP.bind (spec_read _ hsz) (fun _ e => ?_)
    subst e
    refine EvP.ite (fun h => J false ⟨fun _ => ⟨hz, .inl h⟩, fun _ => rfl⟩) (fun h => ?_)
    refine EvP.bind (spec_lost _ hsz) (fun _ e => ?_)
    subst e
    refine J _ ⟨fun h' => ⟨hz, .inr (by simpa using h')⟩, fun h' => ?_⟩
    rcases h'.2 with h' | h'
    · exact absurd h' h
    · rw [h']; rfl
theorem impl_books_loop : ∀ (d i : Nat) (c : Int), i + d = l.length → 0 ≤ c → c ≤ i → (i = 0 → 0 < d) → EvP (fun k => impl_lostOf.l0 k l c l (l.length : Int) (i : Int)) (· = if 1 ≤ (l.getD 0 ByteArray.empty).size ∧ (l.getD 0 ByteArray.empty).size ≤ 8 ∨ d = 0 then goB (l.getD 0 ByteArray.empty).size (l.drop i) c else (0, false)) := by
  intro d
  induction d with
  | zero =>
    intro i c hi hc0 hc1 _
    refine EvP.succ ?_
    simp only [impl_lostOf.l0]
    exact EvP.no (by omega) (EvP.ret (by rw [List.drop_of_length_le (by omega), if_pos (.inr trivial)]; rfl))
  | succ d ih =>
    intro i c hi hc0 hc1 _
    have hlt : i < l.length := by omega
    have hsz := hs l[i] (List.getElem_mem hlt)
    have e1 : Hd (wrap64 (c + 1) = c + 1) := ⟨w64 (by omega) (by omega)⟩
    have e2 : Hd (wrap64 ((i : Int) + 1) = ((i + 1 : Nat) : Int)) := ⟨w64 (by omega) (by omega)⟩
    rw [List.drop_eq_getElem_cons hlt, goB]
    have bad : ∀ v, v = ((0, false) : Int × Bool) → EvP (fun k => impl_lostOf.j2 k l c l[i] l (l.length : Int) (i : Int) true) (· = v) := by
      intro v hv
      refine EvP.succ ?_
      simp only [impl_lostOf.j2]
      exact EvP.yes trivial (EvP.ret hv.symm)
    refine EvP.succ ?_
    simp only [impl_lostOf.l0]
    refine EvP.yes (by omega) (EvP.yes (by omega) (EvP.yes (by omega) (EvP.yes (by omega) ?_)))
    rw [rd_at hlt, rd0]
    refine EvP.ite (fun hz => ?_) (fun hz => bad _ ?_)
    · have hz : l[i].size = (l.getD 0 ByteArray.empty).size := by omega
      refine EvP.ite (fun he => bad _ ?_) (fun he => ?_)
      · have : l[i].size = 0 := by
          rw [ByteArray.toList_eq] at he
          rw [← list_len, he]; rfl
        rw [if_neg (by omega)]
      · have hpos : l[i].size ≠ 0 := by
          intro h
          apply he
          rw [ByteArray.toList_eq]
          exact List.eq_nil_of_length_eq_zero (by rw [list_len]; exact h)
        by_cases h8 : (l[i].size : Int) > 8
        · rw [decide_eq_true h8]
          exact bad _ (by rw [if_neg (by omega)])
        · rw [decide_eq_false h8]
          rw [if_pos (.inl (by omega))]
          refine EvP.succ ?_
          simp only [impl_lostOf.j2]
          refine EvP.no (by decide) ?_
          rw [impl_lost _ hsz hpos, e1.out, e2.out]
          refine EvP.bind (P := (· = lostB l[i])) (EvP.ret rfl) (fun _ e => ?_)
          subst e
          refine EvP.ite (fun h => ?_) (fun h => ?_)
          · rw [if_pos ⟨hz, .inr h⟩, if_pos h]
            have := ih (i + 1) (c + 1) (by omega) (by omega) (by omega) (by omega)
            rw [if_pos (.inl (by omega))] at this
            exact this
          · obtain ⟨r, hr, hn⟩ := trim_read _ hsz
            rw [hr]
            refine EvP.bind (P := (· = r)) (EvP.ret rfl) (fun _ e => ?_)
            subst e
            refine EvP.ite (fun h' => ?_) (fun h' => EvP.ret ?_)
            · rw [if_pos ⟨hz, .inl (hn.mp h')⟩, if_neg h]
              have := ih (i + 1) c (by omega) hc0 (by omega) (by omega)
              rw [if_pos (.inl (by omega))] at this
              exact this
            · rw [if_neg (fun hh => hh.2.elim (fun a => h' (hn.mpr a)) (fun a => h a))]
    · rw [if_neg (fun h : l[i].size = _ ∧ _ => hz (by rw [h.1]))]
      split <;> rfl
end
theorem spec_books (l : List ByteArray) (hs : ∀ t ∈ l, t.size ≤ 9223372036854775806) : EvP (fun k => spec_l7Books.f k l) (· = booksOf l) := by
  unfold spec_l7Books.f spec_l6In.f
  have bad : ∀ v, v = ((0, false) : Int × Bool) → EvP (fun k => spec_l7Books.j0 k l 0 true) (· = v) := by
    intro v hv
    refine EvP.succ ?_
    simp only [spec_l7Books.j0]
    exact EvP.yes trivial (EvP.ret hv.symm)
  refine EvP.bind (P := (· = (decide (1 ≤ l.length ∧ l.length ≤ 6)))) ?_ (fun _ e => ?_)
  · refine EvP.ite (fun h => EvP.ret ?_) (fun h => EvP.ret ?_)
    · exact decide_eq_decide.mpr (by omega)
    · rw [decide_eq_false (by omega)]
  subst e
  refine EvP.ite (fun h => ?_) (fun h => bad _ ?_)
  · have hl := of_decide_eq_true h
    refine EvP.yes (by omega) ?_
    rw [rd0 l]
    refine EvP.bind (P := (· = (decide (1 ≤ (l.getD 0 ByteArray.empty).size ∧ (l.getD 0 ByteArray.empty).size ≤ 8)))) ?_ (fun _ e => ?_)
    · refine EvP.ite (fun h => EvP.ret ?_) (fun h => EvP.ret ?_)
      · exact decide_eq_decide.mpr (by omega)
      · rw [decide_eq_false (by omega)]
    subst e
    by_cases h8 : 1 ≤ (l.getD 0 ByteArray.empty).size ∧ (l.getD 0 ByteArray.empty).size ≤ 8
    · rw [decide_eq_true h8]
      refine EvP.succ ?_
      simp only [spec_l7Books.j0]
      refine EvP.no (by decide) ?_
      unfold booksOf
      rw [if_pos ⟨hl.1, hl.2, h8.1, h8.2⟩]
      exact spec_books_loop l hl hs h8 l.length 0 0 (by omega) (by omega) (by omega)
    · rw [decide_eq_false h8]
      refine bad _ ?_
      unfold booksOf
      rw [if_neg (fun hh => h8 ⟨hh.2.2.1, hh.2.2.2⟩)]
  · unfold booksOf
    rw [if_neg (fun hh => h (decide_eq_true ⟨hh.1, hh.2.1⟩))]
theorem impl_books (l : List ByteArray) (hs : ∀ t ∈ l, t.size ≤ 9223372036854775806) : EvP (fun k => impl_lostOf.f k l) (· = booksOf l) := by
  unfold impl_lostOf.f
  have bad : ∀ v, v = ((0, false) : Int × Bool) → EvP (fun k => impl_lostOf.j0 k l true) (· = v) := by
    intro v hv
    refine EvP.succ ?_
    simp only [impl_lostOf.j0]
    exact EvP.yes trivial (EvP.ret hv.symm)
  refine EvP.ite (fun h => bad _ ?_) (fun h => ?_)
  · unfold booksOf; rw [if_neg (fun hh => by omega)]
  by_cases h6 : (l.length : Int) > 6
  · rw [decide_eq_true h6]
    exact bad _ (by unfold booksOf; rw [if_neg (fun hh => by omega)])
  rw [decide_eq_false h6]
  have hl : 1 ≤ l.length ∧ l.length ≤ 6 := by omega
  refine EvP.succ ?_
  simp only [impl_lostOf.j0]
  refine EvP.no (by decide) ?_
  have := impl_books_loop l hl hs l.length 0 0 (by omega) (by omega) (by omega) (by omega)
  refine this.mono (fun r e => ?_)
  rw [e]
  unfold booksOf
  by_cases h8 : 1 ≤ (l.getD 0 ByteArray.empty).size ∧ (l.getD 0 ByteArray.empty).size ≤ 8
  · rw [if_pos (.inl h8), if_pos ⟨hl.1, hl.2, h8.1, h8.2⟩]; rfl
  · rw [if_neg (fun hh => hh.elim h8 (by omega)), if_neg (fun hh => h8 ⟨hh.2.2.1, hh.2.2.2⟩)]
def okBooks (l : List ByteArray) : Bool := (booksOf l).2 && ((booksOf l).1 == 0)
end Go.Proofs.YtejoneninbdjbaaDoor.Pur
end
section
namespace Go.Proofs.YtejoneninbdjbaaDoor.E
open Go.RowKit Go.Proofs.YtejoneninbdjbaaDoorW.PrintWords Go.Proofs.YtejoneninbdjbaaDoorW.PrintLast Go.Proofs.YtejoneninbdjbaaDoorW.PrintMore
attribute [local go_sem] max2_int min2_int max_two min_two max_three min_three max_four min_four
set_option linter.unusedVariables false
set_option linter.unusedSimpArgs false
attribute [local go_sem] str_leq_ str_gtr_ str_geq_
def laws_szStringS.l0 : Nat → List ByteArray → Int → Int → Option (Int)
 | 0, _, _, _ => none
 | k + 1, x0, x1, x5 => if x5 < (x0.length : Int) then (if 0 ≤ x5 then (if (wrap64 (x1 - ((rdOf ByteArray.empty x0 x5).size : Int))) < 0 then (some (-1)) else (laws_szStringS.l0 k x0 (wrap64 (x1 - ((rdOf ByteArray.empty x0 x5).size : Int))) (wrap64 (x5 + 1)))) else (none)) else (some x1)
def laws_szStringS.f (k : Nat) (l0 : List ByteArray) (a1 : Int) : Option (Int) := if (wrap64 (a1 - (l0.length : Int))) < 0 then (some (-1)) else (laws_szStringS.l0 k l0 (wrap64 (a1 - (l0.length : Int))) 0)
end Go.Proofs.YtejoneninbdjbaaDoor.E
end
section
namespace Go.Proofs.YtejoneninbdjbaaDoor.E
open Go.RowKit Go.Proofs.YtejoneninbdjbaaDoorW.PrintWords Go.Proofs.YtejoneninbdjbaaDoorW.PrintLast Go.Proofs.YtejoneninbdjbaaDoorW.PrintMore
attribute [local go_sem] max2_int min2_int max_two min_two max_three min_three max_four min_four
set_option linter.unusedVariables false
set_option linter.unusedSimpArgs false
attribute [local go_sem] str_leq_ str_gtr_ str_geq_
def laws_eqStringS.l0 : Nat → List ByteArray → List ByteArray → Int → Option (Bool)
 | 0, _, _, _ => none
 | k + 1, x0, x1, x5 => if x5 < (x0.length : Int) then (if 0 ≤ x5 then (if x5 < (x1.length : Int) then (if (rdOf ByteArray.empty x0 x5).toList = (rdOf ByteArray.empty x1 x5).toList then (laws_eqStringS.l0 k x0 x1 (wrap64 (x5 + 1))) else (some false)) else (none)) else (none)) else (some true)
def laws_eqStringS.f (k : Nat) (l0 : List ByteArray) (l1 : List ByteArray) : Option (Bool) := if (l0.length : Int) = (l1.length : Int) then (laws_eqStringS.l0 k l0 l1 0) else (some false)
end Go.Proofs.YtejoneninbdjbaaDoor.E
end
section
namespace Go.Proofs.YtejoneninbdjbaaDoor.E
open Go.RowKit Go.Proofs.YtejoneninbdjbaaDoorW.PrintWords Go.Proofs.YtejoneninbdjbaaDoorW.PrintLast Go.Proofs.YtejoneninbdjbaaDoorW.PrintMore
attribute [local go_sem] max2_int min2_int max_two min_two max_three min_three max_four min_four
set_option linter.unusedVariables false
set_option linter.unusedSimpArgs false
attribute [local go_sem] str_leq_ str_gtr_ str_geq_
def laws_toStringS.l0 : Nat → List ByteArray → List ByteArray → Int → Option (List ByteArray)
 | 0, _, _, _ => none
 | k + 1, x0, x3, x4 => if x4 < (x0.length : Int) then (if 0 ≤ x4 then (if x4 < (x3.length : Int) then (laws_toStringS.l0 k x0 (x3.set (x4 : Int).toNat (rdOf ByteArray.empty x0 x4)) (wrap64 (x4 + 1))) else (none)) else (none)) else (some x3)
def laws_toStringS.f (k : Nat) (l0 : List ByteArray) : Option (List ByteArray) := if 0 ≤ (l0.length : Int) then (if ((l0.length : Int) : Int).toNat ≤ 17592186044416 then (laws_toStringS.l0 k l0 (List.replicate ((l0.length : Int) : Int).toNat (⟨#[]⟩ : ByteArray)) 0) else (none)) else (none)
end Go.Proofs.YtejoneninbdjbaaDoor.E
end
section
namespace Go.Proofs.YtejoneninbdjbaaDoor.E
open Go.RowKit Go.Proofs.YtejoneninbdjbaaDoorW.PrintWords Go.Proofs.YtejoneninbdjbaaDoorW.PrintLast Go.Proofs.YtejoneninbdjbaaDoorW.PrintMore
attribute [local go_sem] max2_int min2_int max_two min_two max_three min_three max_four min_four
set_option linter.unusedVariables false
set_option linter.unusedSimpArgs false
attribute [local go_sem] str_leq_ str_gtr_ str_geq_
def spec_l7Far.l0 : Nat → ByteArray → ByteArray → Int → Int → Option (Int)
 | 0, _, _, _, _ => none
 | k + 1, x0, x1, x5, x6 => if x6 < (x0.size : Int) then (if 0 ≤ x6 then (if x6 < (x1.size : Int) then (if (bt x0 x6) = (bt x1 x6) then (spec_l7Far.l0 k x0 x1 x5 (wrap64 (x6 + 1))) else (spec_l7Far.l0 k x0 x1 (wrap64 (x5 + 1)) (wrap64 (x6 + 1)))) else (none)) else (none)) else (some x5)
def spec_l7Far.f (k : Nat) (a0 : ByteArray) (a1 : ByteArray) : Option (Int) := spec_l7Far.l0 k a0 a1 0 0
end Go.Proofs.YtejoneninbdjbaaDoor.E
end
section
namespace Go.Proofs.YtejoneninbdjbaaDoor.E
open Go.RowKit Go.Proofs.YtejoneninbdjbaaDoorW.PrintWords Go.Proofs.YtejoneninbdjbaaDoorW.PrintLast Go.Proofs.YtejoneninbdjbaaDoorW.PrintMore
attribute [local go_sem] max2_int min2_int max_two min_two max_three min_three max_four min_four
set_option linter.unusedVariables false
set_option linter.unusedSimpArgs false
attribute [local go_sem] str_leq_ str_gtr_ str_geq_
def spec_BooksFar.f (k : Nat) (l0 : List ByteArray) (a1 : Int) (a2 : Int) : Option (Int) := (spec_BooksValid.f k l0).bind fun t142 => (if t142 = true then ((spec_l6In.f a1 0 (wrap64 ((l0.length : Int) - 1))).bind fun t143 => (if t143 = true then ((spec_l6In.f a2 0 (wrap64 ((l0.length : Int) - 1))).bind fun t144 => (if t144 = true then (if 0 ≤ a1 then (if a1 < (l0.length : Int) then (if 0 ≤ a2 then (if a2 < (l0.length : Int) then ((spec_l7Far.f k (rdOf ByteArray.empty l0 a1) (rdOf ByteArray.empty l0 a2)).bind fun t147 => (some t147)) else (none)) else (none)) else (none)) else (none)) else (some (-1)))) else (some (-1)))) else (some (-1)))
end Go.Proofs.YtejoneninbdjbaaDoor.E
end
section
namespace Go.Proofs.YtejoneninbdjbaaDoor.E
open Go.RowKit Go.Proofs.YtejoneninbdjbaaDoorW.PrintWords Go.Proofs.YtejoneninbdjbaaDoorW.PrintLast Go.Proofs.YtejoneninbdjbaaDoorW.PrintMore
attribute [local go_sem] max2_int min2_int max_two min_two max_three min_three max_four min_four
set_option linter.unusedVariables false
set_option linter.unusedSimpArgs false
attribute [local go_sem] str_leq_ str_gtr_ str_geq_
def impl_farBetween.l0 : Nat → ByteArray → ByteArray → Int → Int → Int → Option (Int)
 | 0, _, _, _, _, _ => none
 | k + 1, x0, x1, x5, x8, x9 => if x9 < x8 then (if 0 ≤ x9 then (if x9 < (x0.size : Int) then (if x9 < (x1.size : Int) then (if (bt x0 x9) = (bt x1 x9) then (impl_farBetween.l0 k x0 x1 x5 x8 (wrap64 (x9 + 1))) else (impl_farBetween.l0 k x0 x1 (wrap64 (x5 + 1)) x8 (wrap64 (x9 + 1)))) else (none)) else (none)) else (none)) else (some x5)
def impl_farBetween.f (k : Nat) (a0 : ByteArray) (a1 : ByteArray) : Option (Int) := impl_farBetween.l0 k a0 a1 0 (a0.size : Int) 0
end Go.Proofs.YtejoneninbdjbaaDoor.E
end
section
namespace Go.Proofs.YtejoneninbdjbaaDoor.E
open Go.RowKit Go.Proofs.YtejoneninbdjbaaDoorW.PrintWords Go.Proofs.YtejoneninbdjbaaDoorW.PrintLast Go.Proofs.YtejoneninbdjbaaDoorW.PrintMore
attribute [local go_sem] max2_int min2_int max_two min_two max_three min_three max_four min_four
set_option linter.unusedVariables false
set_option linter.unusedSimpArgs false
attribute [local go_sem] str_leq_ str_gtr_ str_geq_
def impl_BooksFar.f (k : Nat) (l0 : List ByteArray) (a1 : Int) (a2 : Int) : Option (Int) := (impl_BooksValid.f k l0).bind fun t148 => (if t148 = true then (if (mn a1 a2) < 0 then (some (-1)) else (if (mx a1 a2) ≥ (l0.length : Int) then (some (-1)) else (if 0 ≤ a1 then (if a1 < (l0.length : Int) then (if 0 ≤ a2 then (if a2 < (l0.length : Int) then ((impl_farBetween.f k (rdOf ByteArray.empty l0 a1) (rdOf ByteArray.empty l0 a2)).bind fun t151 => (some t151)) else (none)) else (none)) else (none)) else (none)))) else (some (-1)))
end Go.Proofs.YtejoneninbdjbaaDoor.E
end
section
namespace Go.Proofs.YtejoneninbdjbaaDoor.E
open Go.RowKit Go.Proofs.YtejoneninbdjbaaDoorW.PrintWords Go.Proofs.YtejoneninbdjbaaDoorW.PrintLast Go.Proofs.YtejoneninbdjbaaDoorW.PrintMore
attribute [local go_sem] max2_int min2_int max_two min_two max_three min_three max_four min_four
set_option linter.unusedVariables false
set_option linter.unusedSimpArgs false
attribute [local go_sem] str_leq_ str_gtr_ str_geq_
def laws_FnExactBooksFar.f (k : Nat) (l0 : List ByteArray) (a1 : Int) (a2 : Int) : Option (Bool) := (laws_szStringS.f k l0 1048576).bind fun t152 => (if t152 < 0 then (some true) else ((laws_toStringS.f k l0).bind fun t153 => ((spec_BooksFar.f k t153 a1 a2).bind fun t156 => ((laws_toStringS.f k l0).bind fun t157 => ((impl_BooksFar.f k t157 a1 a2).bind fun t160 => (if t160 = t156 then ((laws_toStringS.f k l0).bind fun t161 => ((laws_eqStringS.f k t157 t161).bind fun t164 => (if t164 = true then (some true) else (some false)))) else (some false)))))))
end Go.Proofs.YtejoneninbdjbaaDoor.E
end
section
namespace Go.Proofs.YtejoneninbdjbaaDoor.Pur
open Go.RowKit Go.Proofs.YtejoneninbdjbaaDoorW.PrintWords Go.Proofs.YtejoneninbdjbaaDoorW.PrintMore Go.Proofs.YtejoneninbdjbaaDoor.E
def diffs : List UInt8 → List UInt8 → Nat
  | a :: x, b :: y => (if a = b then 0 else 1) + diffs x y
  | _, _ => 0
def farT (s t : ByteArray) : Int := (diffs s.data.toList t.data.toList : Nat)
theorem goB_ok (n : Nat) : ∀ (l : List ByteArray) (c : Int), (goB n l c).2 = true → ∀ t ∈ l, t.size = n ∧ (readB t = true ∨ lostB t = true)
  | [], _, _, _, h => by cases h
  | t :: ts, c, h, x, hx => by
    rw [goB] at h
    by_cases g : t.size = n ∧ (readB t = true ∨ lostB t = true)
    · rw [if_pos g] at h
      rcases List.mem_cons.mp hx with rfl | hx
      · exact g
      · exact goB_ok n ts _ h x hx
    · rw [if_neg g] at h
      exact absurd h (by decide)
theorem books_ok {l : List ByteArray} (h : (booksOf l).2 = true) : 1 ≤ l.length ∧ l.length ≤ 6 ∧ ∃ n : Nat, 1 ≤ n ∧ n ≤ 8 ∧ ∀ t ∈ l, t.size = n ∧ (readB t = true ∨ lostB t = true) := by
  unfold booksOf at h
  by_cases g : 1 ≤ l.length ∧ l.length ≤ 6 ∧ 1 ≤ (l.getD 0 ByteArray.empty).size ∧ (l.getD 0 ByteArray.empty).size ≤ 8
  · rw [if_pos g] at h
    exact ⟨g.1, g.2.1, _, g.2.2.1, g.2.2.2, goB_ok _ l 0 h⟩
  · rw [if_neg g] at h
    exact absurd h (by decide)
def farOf (l : List ByteArray) (i k : Int) : Int := if okBooks l = true ∧ 0 ≤ i ∧ i < l.length ∧ 0 ≤ k ∧ k < l.length then farT (rdOf ByteArray.empty l i) (rdOf ByteArray.empty l k) else -1
theorem rd_mem {l : List ByteArray} {i : Int} (h0 : 0 ≤ i) (h1 : i < l.length) : rdOf ByteArray.empty l i ∈ l := by
  obtain ⟨j, rfl⟩ := Int.eq_ofNat_of_zero_le h0
  rw [rd_at (by omega)]
  exact List.getElem_mem _
end Go.Proofs.YtejoneninbdjbaaDoor.Pur
end
section
namespace Go.Proofs.YtejoneninbdjbaaDoor.Pur
open Go.RowKit Go.Proofs.YtejoneninbdjbaaDoorW.PrintWords Go.Proofs.YtejoneninbdjbaaDoorW.PrintMore Go.Proofs.YtejoneninbdjbaaDoor.E
def FewB (q : Int) (r : List ByteArray × Int) : Prop := r.1.length ≤ 5 ∧ (∀ t ∈ r.1, t.size ≤ 5) ∧ 0 ≤ r.2 ∧ r.2 ≤ q
section
variable {B : List Int} (hB : okB B) (lost : Bool) (n m : Nat) (hn : 1 ≤ n ∧ n ≤ 5) (hm : 1 ≤ m ∧ m ≤ 4)
include hB hn hm
theorem books_end (acc : List ByteArray) (ha : acc.length = n) (hs : ∀ t ∈ acc, t.size = m) (p q : Int) (hp : 0 ≤ p ∧ p ≤ 100000) (hq : p + 1 ≤ q) : EvP (fun k => spec_l92Books.l0 k lost acc (n : Int) (m : Int) (n : Int) B p) (FewB q) := by
  have hs5 : ∀ t ∈ acc, t.size ≤ 5 := fun t ht => by rw [hs t ht]; omega
  have set5 : ∀ (j : Nat) (v : ByteArray), v.size ≤ 5 → ∀ t ∈ acc.set j v, t.size ≤ 5 := by
    intro j v hv t ht
    rcases List.mem_or_eq_of_mem_set ht with h | h
    · exact hs5 t h
    · rw [h]; exact hv
  refine EvP.succ ?_
  simp only [spec_l92Books.l0]
  refine EvP.no (by omega) ?_
  refine EvP.bind (pick_ok hB p 40 (by omega) (by omega)) (fun r hr => ?_)
  have m0 := hs _ (rd_mem (l := acc) (i := 0) (by omega) (by omega))
  have m1 := hs _ (rd_mem (l := acc) (i := ((n - 1 : Nat) : Int)) (by omega) (by omega))
  have e1 : Hd (wrap64 ((n : Int) - 1) = ((n - 1 : Nat) : Int)) := ⟨by rw [w64 (by omega) (by omega)]; omega⟩
  simp only [e1.out]
  refine EvP.ite (fun _ => EvP.yes (by omega) (EvP.yes (by omega) (EvP.ret ⟨by simp; omega, set5 _ _ (by rw [ByteArray.size_append]; show _ + 1 ≤ 5; omega), by dsimp only; omega, by dsimp only; omega⟩))) (fun _ => ?_)
  refine EvP.ite (fun _ => ?_) (fun _ => EvP.ite (fun _ => EvP.ret ⟨by simp, (fun t ht => (by cases ht)), by dsimp only; omega, by dsimp only; omega⟩) (fun _ => EvP.ret ⟨by dsimp only; omega, hs5, by dsimp only; omega, by dsimp only; omega⟩))
  refine EvP.yes (by omega) (EvP.yes (by omega) (EvP.yes (by omega) (EvP.yes (by rw [ByteArray.size_extract]; omega) (EvP.ret ⟨by simp; omega, set5 _ _ (by rw [ByteArray.size_append, ByteArray.size_extract]; show 1 + _ ≤ 5; omega), by dsimp only; omega, by dsimp only; omega⟩))))
theorem letters_loop (acc : List ByteArray) (i : Nat) (hi : i < n) (ha : acc.length = i) (hs : ∀ t ∈ acc, t.size = m) (Q : List ByteArray × Int → Prop) (p0 : Int) (next : ∀ (t : ByteArray) (p : Int), t.size = m → 0 ≤ p → p ≤ p0 + 9 → EvP (fun k => spec_l92Books.l0 k lost (acc ++ [t]) (n : Int) (m : Int) ((i + 1 : Nat) : Int) B p) Q) :
    ∀ (d j : Nat) (s : ByteArray) (p : Int), j + d = m → s.size = j → 0 ≤ p → p ≤ p0 + 2 * j → p0 ≤ 90000 → EvP (fun k => spec_l92Books.l1 k lost acc (n : Int) (m : Int) (i : Int) s (j : Int) B p) Q := by
  intro d
  induction d with
  | zero =>
    intro j s p hj hsz hp0 hp1 hb
    have e1 : Hd (wrap64 ((i : Int) + 1) = ((i + 1 : Nat) : Int)) := ⟨w64 (by omega) (by omega)⟩
    refine EvP.succ ?_
    simp only [spec_l92Books.l1, e1.out]
    refine EvP.no (by omega) (EvP.ite (fun _ => ?_) (fun _ => EvP.yes (by omega) (next s p (by omega) hp0 (by omega))))
    refine EvP.bind (pick_ok hB p 3 (by omega) (by omega)) (fun r hr => ?_)
    refine EvP.ite (fun _ => EvP.yes (by omega) (EvP.yes (by omega) (EvP.yes (by omega) (next _ r.2 ?_ (by omega) (by omega))))) (fun _ => EvP.yes (by omega) (next s r.2 (by omega) (by omega) (by omega)))
    rw [ByteArray.size_extract, toNat_nat]
    show min m 4 - 0 = m
    omega
  | succ d ih =>
    intro j s p hj hsz hp0 hp1 hb
    have e1 : Hd (wrap64 ((j : Int) + 1) = ((j + 1 : Nat) : Int)) := ⟨w64 (by omega) (by omega)⟩
    have letter : ∀ p' : Int, 0 ≤ p' → p' ≤ p0 + 2 * j + 1 → EvP (fun k => (spec_l6Rd_of.f k B p' (([(⟨#[97]⟩ : ByteArray), (⟨#[98]⟩ : ByteArray), (⟨#[99]⟩ : ByteArray), (⟨#[97]⟩ : ByteArray), (⟨#[100]⟩ : ByteArray)] : List ByteArray))).bind fun bt => (if s.size + bt.1.size ≤ 9223372036854775807 then (spec_l92Books.l1 k lost acc (n : Int) (m : Int) (i : Int) (s ++ bt.1) ((j + 1 : Nat) : Int) B bt.2) else (none))) Q := by
      intro p' h0 h1
      refine EvP.bind (of_size hB p' (by omega) _ (by simp) 1 (by intro t ht; simp only [List.mem_cons, List.not_mem_nil, or_false] at ht; rcases ht with rfl | rfl | rfl | rfl | rfl <;> exact Nat.le_refl 1)) (fun r hr => ?_)
      have h1' : r.1.size = 1 := by
        have := hr.2.1
        simp only [List.mem_cons, List.not_mem_nil, or_false] at this
        rcases this with e | e | e | e | e <;> rw [e] <;> rfl
      exact EvP.yes (by omega) (ih (j + 1) _ r.2 (by omega) (by rw [ByteArray.size_append]; omega) (by omega) (by omega) hb)
    refine EvP.succ ?_
    simp only [spec_l92Books.l1, e1.out]
    refine EvP.yes (by omega) (EvP.ite (fun hpos => ?_) (fun _ => letter p hp0 (by omega)))
    have e3 : Hd (wrap64 ((i : Int) - 1) = ((i - 1 : Nat) : Int)) := ⟨by rw [w64 (by omega) (by omega)]; omega⟩
    have mm := hs _ (rd_mem (l := acc) (i := ((i - 1 : Nat) : Int)) (by omega) (by omega))
    simp only [e3.out]
    refine EvP.bind (pick_ok hB p 3 (by omega) (by omega)) (fun r hr => ?_)
    refine EvP.ite (fun _ => ?_) (fun _ => letter r.2 (by omega) (by omega))
    refine EvP.yes (by omega) (EvP.yes (by omega) (EvP.yes (by omega) (EvP.yes (by omega) (EvP.ite (fun _ => letter r.2 (by omega) (by omega)) (fun _ => ?_)))))
    have es : ((rdOf ByteArray.empty acc ((i - 1 : Nat) : Int)).extract j (j + 1)).size = 1 := by rw [ByteArray.size_extract]; omega
    rw [toNat_nat, toNat_nat]
    exact EvP.yes (by omega) (EvP.yes (by omega) (EvP.yes (by omega) (ih (j + 1) _ r.2 (by omega) (by rw [ByteArray.size_append, es]; omega) (by omega) (by omega) hb)))
theorem books_loop (q : Int) (hq : q ≤ 90000) : ∀ (d i : Nat) (acc : List ByteArray) (p : Int), i + d = n → acc.length = i → (∀ t ∈ acc, t.size = m) → 0 ≤ p → p + 9 * (d : Int) + 1 ≤ q → EvP (fun k => spec_l92Books.l0 k lost acc (n : Int) (m : Int) (i : Int) B p) (FewB q) := by
  intro d
  induction d with
  | zero =>
    intro i acc p hi ha hs hp0 hp1
    obtain rfl : i = n := by omega
    exact books_end hB lost i m hn hm acc ha hs p q (by omega) (by omega)
  | succ d ih =>
    intro i acc p hi ha hs hp0 hp1
    refine EvP.succ ?_
    simp only [spec_l92Books.l0]
    refine EvP.yes (by omega) ?_
    refine letters_loop hB lost n m hn hm acc i (by omega) ha hs _ p (fun t p' ht h0 h1 => ?_) m 0 ⟨#[]⟩ p (by omega) rfl hp0 (by omega) (by omega)
    refine ih (i + 1) _ p' (by omega) (by simp; omega) (fun x hx => ?_) h0 (by omega)
    rcases List.mem_append.mp hx with hx | hx
    · exact hs x hx
    · rw [List.mem_singleton.mp hx]; exact ht
end
theorem drawn_books {B : List Int} (hB : okB B) (lost : Bool) (p : Int) (hp : 0 ≤ p ∧ p ≤ 1000) : EvP (fun k => spec_l92Books.f k B p lost) (FewB (p + 60)) := by
  unfold spec_l92Books.f
  refine EvP.bind (pick_ok hB p 5 (by omega) (by omega)) (fun r hr => ?_)
  refine EvP.bind (pick_ok hB r.2 4 (by omega) (by omega)) (fun q hq => ?_)
  obtain ⟨n, hn⟩ := Int.eq_ofNat_of_zero_le hr.1
  obtain ⟨m, hm⟩ := Int.eq_ofNat_of_zero_le hq.1
  rw [show wrap64 (1 + r.1) = ((n + 1 : Nat) : Int) by rw [w64 (by omega) (by omega)]; omega, show wrap64 (1 + q.1) = ((m + 1 : Nat) : Int) by rw [w64 (by omega) (by omega)]; omega]
  exact books_loop hB lost (n + 1) (m + 1) (by omega) (by omega) (p + 60) (by omega) (n + 1) 0 [] q.2 (by omega) rfl (fun t ht => by cases ht) (by omega) (by omega)
end Go.Proofs.YtejoneninbdjbaaDoor.Pur
end
