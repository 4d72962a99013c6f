/- Texts of this claim, joined by a program of this session's (wip/tools/pack.py). -/
import Derived.Test.YtldepdaglapdeaaDoorRowFnGroupsReadK1
section
namespace Go.Proofs.YtldepdaglapdeaaDoor.E
open Go.RowKit Go.Proofs.YtldepdaglapdeaaDoorW.PrintWords Go.Proofs.YtldepdaglapdeaaDoorW.PrintLast Go.Proofs.YtldepdaglapdeaaDoorW.PrintMore
attribute [local go_sem] max2_int min2_int max_two min_two max_three min_three max_four min_four
set_option linter.unusedVariables false
set_option linter.unusedSimpArgs false
attribute [local go_sem] str_leq_ str_gtr_ str_geq_
def spec_l91Groups.l0 : Nat → List (S56) → List (S42) → Int → List Int → Int → Option ((List (S56)) × (List (S42)) × Int)
 | 0, _, _, _, _, _ => none
 | k + 1, x4, x5, x6, x1000, x1001 => if x6 > 0 then ((spec_l6Rd_pick.f k x1000 x1001 (mn x6 4)).bind fun bt300 => ((spec_l6Rd_pick.f k x1000 bt300.2 4).bind fun bt302 => (if x5.length < 8796093022208 then (spec_l91Groups.l0 k x4 (x5 ++ [(⟨wrap64 (1 + bt300.1), (bt302.1 == 0)⟩ : S42)]) (wrap64 (x6 - (wrap64 (1 + bt300.1)))) x1000 bt302.2) else (none)))) else (if (x5.length : Int) > 0 then ((spec_l6Rd_pick.f k x1000 x1001 30).bind fun bt307 => (if bt307.1 = 0 then ((some (([0, 5, (-1)] : List Int) : List Int)).bind fun y309 => ((spec_l6Rd_pick.f k x1000 bt307.2 3).bind fun bt312 => (if 0 ≤ bt312.1 then (if bt312.1 < (y309.length : Int) then (if 0 < (x5.length : Int) then (some (x4, (x5.set (0 : Int).toNat (⟨rd y309 bt312.1, (rd_T42 x5 0).f1⟩ : S42)), bt312.2)) else (none)) else (none)) else (none)))) else (if bt307.1 = 1 then (if 1 ≤ (x5.length : Int) then (some (x4, (x5.drop (1 : Int).toNat), bt307.2)) else (none)) else (some (x4, x5, bt307.2))))) else (some (x4, x5, x1001)))
def spec_l91Groups.f (k : Nat) (s0_0 : List Int) (s0_1 : Int) : Option ((List (S56)) × (List (S42)) × Int) := (spec_l91Melody.f k s0_0 s0_1 10).bind fun bt293 => (spec_l91Groups.l0 k bt293.1 (([] : List (S42))) (bt293.1.length : Int) s0_0 bt293.2)
set_option maxHeartbeats 8000000 in
set_option maxRecDepth 100000 in
theorem spec_l91Groups.calls (k : Nat) (g : Nat) (s0_0 : List Int) (s0_1 : Int) (r1 : List (S56)) (r2 : List (S42)) (r3 : Int) (w0 w : World) (hI : IsS104 w0 w g s0_0 s0_1) (hB : Below w0.heap.size w0 w) (h : spec_l91Groups.f k s0_0 s0_1 = some (r1, r2, r3)) :
  Calls Tryd.prog 43 #[.pointer (some ⟨g, 0, none⟩)] w fun e w' => ∃ v0_ v1_ : Value, e = .returned (.tuple #[v0_, v1_]) ∧ Kd.R k56 56 w' w.heap.size (fun _ => True) v0_ r1 ∧ Kd.Q k42 42 w' w.heap.size (fun _ => True) v1_ r2 ∧ IsS104 w0 w' g s0_0 r3 ∧ Below w0.heap.size w0 w' ∧ KeepBut w w' g none := by
 have hu42 := Tryd.underlying42
 have HI0 := Aside0.mk hI
 have HK := Aside0.mk (KeepBut.refl w g none)
 have HL := Aside0.mk hB.size
 clear hI
 have HW0 := Aside0.mk hB.size
 have HB := Aside0.mk hB
 clear hB
 have H : ((spec_l91Melody.f k s0_0 s0_1 10).bind fun bt293 => (spec_l91Groups.l0 k bt293.1 (([] : List (S42))) (bt293.1.length : Int) s0_0 bt293.2)) = some (r1, r2, r3) := h
 clear h
 replace H := Option.bind_eq_some_iff.mp H
 obtain ⟨⟨t293, t296⟩, A20, H⟩ := H
 replace H : (spec_l91Groups.l0 k t293 (([] : List (S42))) (t293.length : Int) s0_0 t296) = some (r1, r2, r3) := H
 have A2 := Aside0.mk A20
 clear A20
 obtain ⟨y297, hy297⟩ : ∃ y_ : List (S42), y_ = (([] : List (S42))) := ⟨_, rfl⟩
 replace H : (spec_l91Groups.l0 k t293 y297 (t293.length : Int) s0_0 t296) = some (r1, r2, r3) := by first | (rw [hy297]; with_reducible exact H) | (have H2_ := (Option.bind_some _ _).symm.trans H; rw [hy297]; with_reducible exact H2_) | (have H2_ := (Option.bind_some _ _).symm.trans H; with_reducible exact H2_) | with_reducible exact H | (rw [hy297]; exact H) | exact H
 have Ny297 := Aside0.mk hy297
 clear hy297
 have H' := Aside0.mk H
 clear H
 go_enter Tryd.func43, Tryd.ntmps43
 go_wp2_with (first | (go_at_call 63; (with_reducible refine (spec_l91Melody.calls k g s0_0 s0_1 10 t293 t296 w0 _ ?side1 ?side2 A2.out).mono ?_); (case side1 => repeat (first | (with_reducible first | exact HI0.out | apply IsS104.alloc | apply IsS104.drewN | apply IsS104.drew | apply IsS104.set_1) | exact HI0.out)); (case side2 => repeat (first | (with_reducible first | exact HB.out | apply below_alloc | apply pw_below_drewN | apply below_drew1 | refine below_set ?_ (IsS104.ge HI0.out)) | exact HB.out)); rintro e w3 ⟨v294, rfl, ho0, hi, hb, hk⟩; have n0_ := Aside0.mk (Kd.R_lower ho0 (keep_size (w := w) (g := g) (row := none) (by repeat (first | (with_reducible first | exact HK.out | apply KeepBut.set_ | apply keep_drewN | apply keep_drew | apply keep_alloc) | exact HK.out)))); have n1_ := Aside0.mk (KeepBut.trans (by repeat (first | (with_reducible first | exact HK.out | apply KeepBut.set_ | apply keep_drewN | apply keep_drew | apply keep_alloc) | exact HK.out)) hk (.inl rfl)); have n2_ := Aside0.mk (hb); have n3_ := Aside0.mk (hi); clear HK; clear HB; clear HI0; have HO295 := n0_; have HK := n1_; have HB := n2_; have HI0 := n3_; clear n0_ n1_ n2_ n3_; (try clear hb); (try clear hb2); (try clear hk); (try clear hi); (try clear ho0)) | ((with_reducible refine gate_dst (N := 10) rfl ?_); refine Kd.R_lit k42 _ 42 ?hg (N := 10) ?hd (xs := ([] : List (S42))) (inner := []) (ok := fun _ => True) (okp := fun _ => True) ?hr ?hp (fun _ hk => hk) trivial (Below.refl _ _) (Nat.le_refl _) (by simp) ?_; (case hd => rfl); (case hg => rfl); (case hr => first | (go_simp; done) | (go_simp; rfl)); (case hp => exact (Reps.none _ _)); intro v298 w4 ho5 hb hg_ hnew_; clear hg_ hnew_; (first | rw [← Ny297.out] at ho5 | (simp only [Int.reduceToNat] at ho5; rw [← Ny297.out] at ho5)); have n0_ := Aside0.mk (Kd.R_below (by (with_reducible repeat (first | apply Kd.R_alloc | apply Kd.R_drewN | apply Kd.R_drew)); exact HO295.out) hb); have n1_ := Aside0.mk (Kd.R_lower ho5 (keep_size (w := w) (g := g) (row := none) (by repeat (first | (with_reducible first | exact HK.out | apply KeepBut.set_ | apply keep_drewN | apply keep_drew | apply keep_alloc) | exact HK.out)))); have n2_ := Aside0.mk (IsS104.below (by repeat (first | (with_reducible first | exact HI0.out | apply IsS104.alloc | apply IsS104.drewN | apply IsS104.drew | apply IsS104.set_1) | exact HI0.out)) hb); have n3_ := Aside0.mk (KeepBut.trans (by repeat (first | (with_reducible first | exact HK.out | apply KeepBut.set_ | apply keep_drewN | apply keep_drew | apply keep_alloc) | exact HK.out)) (KeepBut.of_below hb g none) (.inl rfl)); have n4_ := Aside0.mk (below_step (by repeat (first | (with_reducible first | exact HB.out | apply below_alloc | apply pw_below_drewN | apply below_drew1 | refine below_set ?_ (IsS104.ge HI0.out)) | exact HB.out)) hb); clear HO295; clear HI0; clear HK; clear HB; have HO295 := n0_; have HO299 := n1_; have HI0 := n2_; have HK := n3_; have HB := n4_; clear n0_ n1_ n2_ n3_ n4_; clear hb ho5; obtain ⟨Ao6, co6, eo6⟩ := Kd.R_slice HO295.out; subst eo6))
 repeat (go_quiet (first | (go_at_call 63; (with_reducible refine (spec_l91Melody.calls k g s0_0 s0_1 10 t293 t296 w0 _ ?side1 ?side2 A2.out).mono ?_); (case side1 => repeat (first | (with_reducible first | exact HI0.out | apply IsS104.alloc | apply IsS104.drewN | apply IsS104.drew | apply IsS104.set_1) | exact HI0.out)); (case side2 => repeat (first | (with_reducible first | exact HB.out | apply below_alloc | apply pw_below_drewN | apply below_drew1 | refine below_set ?_ (IsS104.ge HI0.out)) | exact HB.out)); rintro e w3 ⟨v294, rfl, ho0, hi, hb, hk⟩; have n0_ := Aside0.mk (Kd.R_lower ho0 (keep_size (w := w) (g := g) (row := none) (by repeat (first | (with_reducible first | exact HK.out | apply KeepBut.set_ | apply keep_drewN | apply keep_drew | apply keep_alloc) | exact HK.out)))); have n1_ := Aside0.mk (KeepBut.trans (by repeat (first | (with_reducible first | exact HK.out | apply KeepBut.set_ | apply keep_drewN | apply keep_drew | apply keep_alloc) | exact HK.out)) hk (.inl rfl)); have n2_ := Aside0.mk (hb); have n3_ := Aside0.mk (hi); clear HK; clear HB; clear HI0; have HO295 := n0_; have HK := n1_; have HB := n2_; have HI0 := n3_; clear n0_ n1_ n2_ n3_; (try clear hb); (try clear hb2); (try clear hk); (try clear hi); (try clear ho0)) | ((with_reducible refine gate_dst (N := 10) rfl ?_); refine Kd.R_lit k42 _ 42 ?hg (N := 10) ?hd (xs := ([] : List (S42))) (inner := []) (ok := fun _ => True) (okp := fun _ => True) ?hr ?hp (fun _ hk => hk) trivial (Below.refl _ _) (Nat.le_refl _) (by simp) ?_; (case hd => rfl); (case hg => rfl); (case hr => first | (go_simp; done) | (go_simp; rfl)); (case hp => exact (Reps.none _ _)); intro v298 w4 ho5 hb hg_ hnew_; clear hg_ hnew_; (first | rw [← Ny297.out] at ho5 | (simp only [Int.reduceToNat] at ho5; rw [← Ny297.out] at ho5)); have n0_ := Aside0.mk (Kd.R_below (by (with_reducible repeat (first | apply Kd.R_alloc | apply Kd.R_drewN | apply Kd.R_drew)); exact HO295.out) hb); have n1_ := Aside0.mk (Kd.R_lower ho5 (keep_size (w := w) (g := g) (row := none) (by repeat (first | (with_reducible first | exact HK.out | apply KeepBut.set_ | apply keep_drewN | apply keep_drew | apply keep_alloc) | exact HK.out)))); have n2_ := Aside0.mk (IsS104.below (by repeat (first | (with_reducible first | exact HI0.out | apply IsS104.alloc | apply IsS104.drewN | apply IsS104.drew | apply IsS104.set_1) | exact HI0.out)) hb); have n3_ := Aside0.mk (KeepBut.trans (by repeat (first | (with_reducible first | exact HK.out | apply KeepBut.set_ | apply keep_drewN | apply keep_drew | apply keep_alloc) | exact HK.out)) (KeepBut.of_below hb g none) (.inl rfl)); have n4_ := Aside0.mk (below_step (by repeat (first | (with_reducible first | exact HB.out | apply below_alloc | apply pw_below_drewN | apply below_drew1 | refine below_set ?_ (IsS104.ge HI0.out)) | exact HB.out)) hb); clear HO295; clear HI0; clear HK; clear HB; have HO295 := n0_; have HO299 := n1_; have HI0 := n2_; have HK := n3_; have HB := n4_; clear n0_ n1_ n2_ n3_ n4_; clear hb ho5; obtain ⟨Ao6, co6, eo6⟩ := Kd.R_slice HO295.out; subst eo6)); try go_wp2_with (first | (go_at_call 63; (with_reducible refine (spec_l91Melody.calls k g s0_0 s0_1 10 t293 t296 w0 _ ?side1 ?side2 A2.out).mono ?_); (case side1 => repeat (first | (with_reducible first | exact HI0.out | apply IsS104.alloc | apply IsS104.drewN | apply IsS104.drew | apply IsS104.set_1) | exact HI0.out)); (case side2 => repeat (first | (with_reducible first | exact HB.out | apply below_alloc | apply pw_below_drewN | apply below_drew1 | refine below_set ?_ (IsS104.ge HI0.out)) | exact HB.out)); rintro e w3 ⟨v294, rfl, ho0, hi, hb, hk⟩; have n0_ := Aside0.mk (Kd.R_lower ho0 (keep_size (w := w) (g := g) (row := none) (by repeat (first | (with_reducible first | exact HK.out | apply KeepBut.set_ | apply keep_drewN | apply keep_drew | apply keep_alloc) | exact HK.out)))); have n1_ := Aside0.mk (KeepBut.trans (by repeat (first | (with_reducible first | exact HK.out | apply KeepBut.set_ | apply keep_drewN | apply keep_drew | apply keep_alloc) | exact HK.out)) hk (.inl rfl)); have n2_ := Aside0.mk (hb); have n3_ := Aside0.mk (hi); clear HK; clear HB; clear HI0; have HO295 := n0_; have HK := n1_; have HB := n2_; have HI0 := n3_; clear n0_ n1_ n2_ n3_; (try clear hb); (try clear hb2); (try clear hk); (try clear hi); (try clear ho0)) | ((with_reducible refine gate_dst (N := 10) rfl ?_); refine Kd.R_lit k42 _ 42 ?hg (N := 10) ?hd (xs := ([] : List (S42))) (inner := []) (ok := fun _ => True) (okp := fun _ => True) ?hr ?hp (fun _ hk => hk) trivial (Below.refl _ _) (Nat.le_refl _) (by simp) ?_; (case hd => rfl); (case hg => rfl); (case hr => first | (go_simp; done) | (go_simp; rfl)); (case hp => exact (Reps.none _ _)); intro v298 w4 ho5 hb hg_ hnew_; clear hg_ hnew_; (first | rw [← Ny297.out] at ho5 | (simp only [Int.reduceToNat] at ho5; rw [← Ny297.out] at ho5)); have n0_ := Aside0.mk (Kd.R_below (by (with_reducible repeat (first | apply Kd.R_alloc | apply Kd.R_drewN | apply Kd.R_drew)); exact HO295.out) hb); have n1_ := Aside0.mk (Kd.R_lower ho5 (keep_size (w := w) (g := g) (row := none) (by repeat (first | (with_reducible first | exact HK.out | apply KeepBut.set_ | apply keep_drewN | apply keep_drew | apply keep_alloc) | exact HK.out)))); have n2_ := Aside0.mk (IsS104.below (by repeat (first | (with_reducible first | exact HI0.out | apply IsS104.alloc | apply IsS104.drewN | apply IsS104.drew | apply IsS104.set_1) | exact HI0.out)) hb); have n3_ := Aside0.mk (KeepBut.trans (by repeat (first | (with_reducible first | exact HK.out | apply KeepBut.set_ | apply keep_drewN | apply keep_drew | apply keep_alloc) | exact HK.out)) (KeepBut.of_below hb g none) (.inl rfl)); have n4_ := Aside0.mk (below_step (by repeat (first | (with_reducible first | exact HB.out | apply below_alloc | apply pw_below_drewN | apply below_drew1 | refine below_set ?_ (IsS104.ge HI0.out)) | exact HB.out)) hb); clear HO295; clear HI0; clear HK; clear HB; have HO295 := n0_; have HO299 := n1_; have HI0 := n2_; have HK := n3_; have HB := n4_; clear n0_ n1_ n2_ n3_ n4_; clear hb ho5; obtain ⟨Ao6, co6, eo6⟩ := Kd.R_slice HO295.out; subst eo6)))
 go_loopg [5, 6] k (fun kq v5 v6 w' => ∃ (x5_1 : List (S42)) (x6_1 : Int) (x1001_1 : Int), v6 = .int .i64 x6_1 ∧ Aside0 (spec_l91Groups.l0 kq t293 x5_1 x6_1 s0_0 x1001_1 = some (r1, r2, r3)) ∧ Aside0 (kq ≤ k) ∧ Aside0 (Kd.R k56 56 w' w.heap.size (fun _ => True) (.slice Ao6 t293.length co6) t293) ∧ Aside0 (Kd.R k42 42 w' w.heap.size (fun _ => True) v5 x5_1) ∧ Aside0 (IsS104 w0 w' g s0_0 x1001_1) ∧ Aside0 (KeepBut w w' g none) ∧ Aside0 (Below w0.heap.size w0 w'))
 case atStart => exact ⟨(y297), ((t293.length : Int)), (t296), (by first | rfl | (simp; done) | (simp [*]; done)), H', ⟨Nat.le_refl _⟩, ⟨by (with_reducible repeat (first | apply Kd.R_alloc | apply Kd.R_drewN | apply Kd.R_drew)); exact HO295.out⟩, ⟨by (with_reducible repeat (first | apply Kd.R_alloc | apply Kd.R_drewN | apply Kd.R_drew)); exact HO299.out⟩, ⟨by repeat (first | (with_reducible first | exact HI0.out | apply IsS104.alloc | apply IsS104.drewN | apply IsS104.drew | apply IsS104.set_1) | exact HI0.out)⟩, ⟨by repeat (first | (with_reducible first | exact HK.out | apply KeepBut.set_ | apply keep_drewN | apply keep_drew | apply keep_alloc) | exact HK.out)⟩, ⟨by repeat (first | (with_reducible first | exact HB.out | apply below_alloc | apply pw_below_drewN | apply below_drew1 | refine below_set ?_ (IsS104.ge HI0.out)) | exact HB.out)⟩⟩
 case round =>
  clear H'
  try clear p2
  try clear c4
  obtain ⟨x5_1, x6_1, x1001_1, rfl, HA, HK1, HO_4, HO_5, HI0, HK, HB⟩ := hrel
  cases gk with
  | zero => exact absurd HA.out (by simp [spec_l91Groups.l0])
  | succ k1 =>
   have H := HA.out
   clear HA
   simp only [spec_l91Groups.l0] at H
   by_cases c7 : x6_1 > 0
   ·rw [if_pos c7] at H
    have c7b0 : decide (0 < x6_1) = true := decide_eq_true c7
    clear c7
    obtain ⟨ji8, hji8⟩ : ∃ j_ : Int, (mn x6_1 4) = j_ := ⟨_, rfl⟩
    replace H : ((spec_l6Rd_pick.f k1 s0_0 x1001_1 (ji8)).bind fun bt300 => ((spec_l6Rd_pick.f k1 s0_0 bt300.2 4).bind fun bt302 => (if x5_1.length < 8796093022208 then (spec_l91Groups.l0 k1 t293 (x5_1 ++ [(⟨wrap64 (1 + bt300.1), (bt302.1 == 0)⟩ : S42)]) (wrap64 (x6_1 - (wrap64 (1 + bt300.1)))) s0_0 bt302.2) else (none)))) = some (r1, r2, r3) := by first | (rw [hji8] at H; exact H) | (simp only [hji8] at H ⊢; exact H)
    have hji8_ : (if 4 < x6_1 then 4 else x6_1) = ji8 := hji8
    replace H := Option.bind_eq_some_iff.mp H
    obtain ⟨⟨t300, t301⟩, A90, H⟩ := H
    replace H : ((spec_l6Rd_pick.f k1 s0_0 t301 4).bind fun bt302 => (if x5_1.length < 8796093022208 then (spec_l91Groups.l0 k1 t293 (x5_1 ++ [(⟨wrap64 (1 + t300), (bt302.1 == 0)⟩ : S42)]) (wrap64 (x6_1 - (wrap64 (1 + t300)))) s0_0 bt302.2) else (none))) = some (r1, r2, r3) := H
    have A9 := Aside0.mk A90
    clear A90
    replace H := Option.bind_eq_some_iff.mp H
    obtain ⟨⟨t302, t303⟩, A100, H⟩ := H
    replace H : (if x5_1.length < 8796093022208 then (spec_l91Groups.l0 k1 t293 (x5_1 ++ [(⟨wrap64 (1 + t300), (t302 == 0)⟩ : S42)]) (wrap64 (x6_1 - (wrap64 (1 + t300)))) s0_0 t303) else (none)) = some (r1, r2, r3) := H
    have A10 := Aside0.mk A100
    clear A100
    by_cases c11 : x5_1.length < 8796093022208
    rotate_left
    ·rw [if_neg c11] at H
     exact absurd H (by simp)
    rw [if_pos c11] at H
    have LMc11 := Aside0.mk c11
    clear c11
    obtain ⟨y304, hy304⟩ : ∃ y_ : List (S42), y_ = (x5_1 ++ [(⟨wrap64 (1 + t300), (t302 == 0)⟩ : S42)]) := ⟨_, rfl⟩
    replace H : (spec_l91Groups.l0 k1 t293 y304 (wrap64 (x6_1 - (wrap64 (1 + t300)))) s0_0 t303) = some (r1, r2, r3) := by first | (rw [hy304]; with_reducible exact H) | (have H2_ := (Option.bind_some _ _).symm.trans H; rw [hy304]; with_reducible exact H2_) | (have H2_ := (Option.bind_some _ _).symm.trans H; with_reducible exact H2_) | with_reducible exact H | (rw [hy304]; exact H) | exact H
    have Ny304 := Aside0.mk hy304
    clear hy304
    have H' := Aside0.mk H
    clear H
    go_wp2_with (first | (go_at_call 51; (with_reducible refine (spec_l6Rd_pick.calls k1 g s0_0 x1001_1 ji8 t300 t301 w0 _ ?side1 ?side2 A9.out).mono ?_); (case side1 => repeat (first | (with_reducible first | exact HI0.out | apply IsS104.alloc | apply IsS104.drewN | apply IsS104.drew | apply IsS104.set_1) | exact HI0.out)); (case side2 => repeat (first | (with_reducible first | exact HB.out | apply below_alloc | apply pw_below_drewN | apply below_drew1 | refine below_set ?_ (IsS104.ge HI0.out)) | exact HB.out)); rintro e w12 ⟨rfl, hi, hb, hk⟩; have n0_ := Aside0.mk (Kd.R_mono (Kd.R_keep (IsS104.apart (show IsS104 w0 _ g s0_0 x1001_1 from by repeat (first | (with_reducible first | exact HI0.out | apply IsS104.alloc | apply IsS104.drewN | apply IsS104.drew | apply IsS104.set_1) | exact HI0.out)) (by (with_reducible repeat (first | apply Kd.R_alloc | apply Kd.R_drewN | apply Kd.R_drew)); exact HO_4.out) (by decide)) hk (fun _ h => h.2)) (fun _ h => h.1)); have n1_ := Aside0.mk (Kd.R_mono (Kd.R_keep (IsS104.apart (show IsS104 w0 _ g s0_0 x1001_1 from by repeat (first | (with_reducible first | exact HI0.out | apply IsS104.alloc | apply IsS104.drewN | apply IsS104.drew | apply IsS104.set_1) | exact HI0.out)) (by (with_reducible repeat (first | apply Kd.R_alloc | apply Kd.R_drewN | apply Kd.R_drew)); exact HO_5.out) (by decide)) hk (fun _ h => h.2)) (fun _ h => h.1)); have n2_ := Aside0.mk (KeepBut.trans (by repeat (first | (with_reducible first | exact HK.out | apply KeepBut.set_ | apply keep_drewN | apply keep_drew | apply keep_alloc) | exact HK.out)) hk (.inl rfl)); have n3_ := Aside0.mk (hb); have n4_ := Aside0.mk (hi); clear HO_4; clear HO_5; clear HK; clear HB; clear HI0; have HO_4 := n0_; have HO_5 := n1_; have HK := n2_; have HB := n3_; have HI0 := n4_; clear n0_ n1_ n2_ n3_ n4_; (try clear hb); (try clear hb2); (try clear hk); (try clear hi)) | (go_at_call 51; (with_reducible refine (spec_l6Rd_pick.calls k1 g s0_0 t301 4 t302 t303 w0 _ ?side1 ?side2 A10.out).mono ?_); (case side1 => repeat (first | (with_reducible first | exact HI0.out | apply IsS104.alloc | apply IsS104.drewN | apply IsS104.drew | apply IsS104.set_1) | exact HI0.out)); (case side2 => repeat (first | (with_reducible first | exact HB.out | apply below_alloc | apply pw_below_drewN | apply below_drew1 | refine below_set ?_ (IsS104.ge HI0.out)) | exact HB.out)); rintro e w13 ⟨rfl, hi, hb, hk⟩; have n0_ := Aside0.mk (Kd.R_mono (Kd.R_keep (IsS104.apart (show IsS104 w0 _ g s0_0 t301 from by repeat (first | (with_reducible first | exact HI0.out | apply IsS104.alloc | apply IsS104.drewN | apply IsS104.drew | apply IsS104.set_1) | exact HI0.out)) (by (with_reducible repeat (first | apply Kd.R_alloc | apply Kd.R_drewN | apply Kd.R_drew)); exact HO_4.out) (by decide)) hk (fun _ h => h.2)) (fun _ h => h.1)); have n1_ := Aside0.mk (Kd.R_mono (Kd.R_keep (IsS104.apart (show IsS104 w0 _ g s0_0 t301 from by repeat (first | (with_reducible first | exact HI0.out | apply IsS104.alloc | apply IsS104.drewN | apply IsS104.drew | apply IsS104.set_1) | exact HI0.out)) (by (with_reducible repeat (first | apply Kd.R_alloc | apply Kd.R_drewN | apply Kd.R_drew)); exact HO_5.out) (by decide)) hk (fun _ h => h.2)) (fun _ h => h.1)); have n2_ := Aside0.mk (KeepBut.trans (by repeat (first | (with_reducible first | exact HK.out | apply KeepBut.set_ | apply keep_drewN | apply keep_drew | apply keep_alloc) | exact HK.out)) hk (.inl rfl)); have n3_ := Aside0.mk (hb); have n4_ := Aside0.mk (hi); clear HO_4; clear HO_5; clear HK; clear HB; clear HI0; have HO_4 := n0_; have HO_5 := n1_; have HK := n2_; have HB := n3_; have HI0 := n4_; clear n0_ n1_ n2_ n3_ n4_; (try clear hb); (try clear hb2); (try clear hk); (try clear hi)) | ((with_reducible refine gate_builtin (b := .append) (xs := #[.tmp 20, .tmp 26]) rfl ?_); at_builtin; refine Kd.R_append k42 w.heap.size rfl (.tmp 20) (.tmp 26) 29 42 (.agg #[(.int .i64 0), (.bool false)]) 16 rfl Tryd.underlying29 info42 rfl (by decide) (by omega) u5 x5_1 (⟨wrap64 (1 + t300), (t302 == 0)⟩ : S42) [.int .i64 (wrap64 (1 + t300)), .bool (t302 == 0)] (fun _ => True) (fun _ => False) rfl rfl ?aP (fun _ hk => hk.elim) ?aF ?aO (Below.refl _ _) ?aS ?aL ?_; (case aP => exact k42_mkM _ _ _ (⟨wrap64 (1 + t300), (t302 == 0)⟩ : S42)); (case aF => exact (fun _ _ => trivial)); (case aO => exact (by (with_reducible repeat (first | apply Kd.R_alloc | apply Kd.R_drewN | apply Kd.R_drew)); exact HO_5.out)); (case aS => exact (keep_size (w := w) (g := g) (row := none) (by repeat (first | (with_reducible first | exact HK.out | apply KeepBut.set_ | apply keep_drewN | apply keep_drew | apply keep_alloc) | exact HK.out)))); (case aL => have := LMc11.out; omega); intro v305 w14 ho hb hg hat; rw [← Ny304.out] at ho; have n0_ := Aside0.mk (Kd.R_over' (by (with_reducible repeat (first | apply Kd.R_alloc | apply Kd.R_drewN | apply Kd.R_drew)); exact HO_4.out) (Kd.R_typed (by (with_reducible repeat (first | apply Kd.R_alloc | apply Kd.R_drewN | apply Kd.R_drew)); exact HO_5.out)) (by decide) hg); have n1_ := Aside0.mk (IsS104.grown (by repeat (first | (with_reducible first | exact HI0.out | apply IsS104.alloc | apply IsS104.drewN | apply IsS104.drew | apply IsS104.set_1) | exact HI0.out)) hg (IsS104.own_ne HI0.out HO_5.out (by decide))); have n2_ := Aside0.mk (below_weaken (by repeat (first | (with_reducible first | exact HB.out | apply below_alloc | apply pw_below_drewN | apply below_drew1 | refine below_set ?_ (IsS104.ge HI0.out)) | exact HB.out)) HL.out hb); have n3_ := Aside0.mk (KeepBut.trans (by repeat (first | (with_reducible first | exact HK.out | apply KeepBut.set_ | apply keep_drewN | apply keep_drew | apply keep_alloc) | exact HK.out)) (KeepBut.of_grown hg g) (Kd.R_base2 HO_5.out)); have n4_ := Aside0.mk (ho); clear HO_4; clear HI0; clear HB; clear HK; clear HO_5; have HO_4 := n0_; have HI0 := n1_; have HB := n2_; have HK := n3_; have HO306 := n4_; clear n0_ n1_ n2_ n3_ n4_; clear ho hb hg hat))
    repeat (go_quiet (first | (go_at_call 51; (with_reducible refine (spec_l6Rd_pick.calls k1 g s0_0 x1001_1 ji8 t300 t301 w0 _ ?side1 ?side2 A9.out).mono ?_); (case side1 => repeat (first | (with_reducible first | exact HI0.out | apply IsS104.alloc | apply IsS104.drewN | apply IsS104.drew | apply IsS104.set_1) | exact HI0.out)); (case side2 => repeat (first | (with_reducible first | exact HB.out | apply below_alloc | apply pw_below_drewN | apply below_drew1 | refine below_set ?_ (IsS104.ge HI0.out)) | exact HB.out)); rintro e w12 ⟨rfl, hi, hb, hk⟩; have n0_ := Aside0.mk (Kd.R_mono (Kd.R_keep (IsS104.apart (show IsS104 w0 _ g s0_0 x1001_1 from by repeat (first | (with_reducible first | exact HI0.out | apply IsS104.alloc | apply IsS104.drewN | apply IsS104.drew | apply IsS104.set_1) | exact HI0.out)) (by (with_reducible repeat (first | apply Kd.R_alloc | apply Kd.R_drewN | apply Kd.R_drew)); exact HO_4.out) (by decide)) hk (fun _ h => h.2)) (fun _ h => h.1)); have n1_ := Aside0.mk (Kd.R_mono (Kd.R_keep (IsS104.apart (show IsS104 w0 _ g s0_0 x1001_1 from by repeat (first | (with_reducible first | exact HI0.out | apply IsS104.alloc | apply IsS104.drewN | apply IsS104.drew | apply IsS104.set_1) | exact HI0.out)) (by (with_reducible repeat (first | apply Kd.R_alloc | apply Kd.R_drewN | apply Kd.R_drew)); exact HO_5.out) (by decide)) hk (fun _ h => h.2)) (fun _ h => h.1)); have n2_ := Aside0.mk (KeepBut.trans (by repeat (first | (with_reducible first | exact HK.out | apply KeepBut.set_ | apply keep_drewN | apply keep_drew | apply keep_alloc) | exact HK.out)) hk (.inl rfl)); have n3_ := Aside0.mk (hb); have n4_ := Aside0.mk (hi); clear HO_4; clear HO_5; clear HK; clear HB; clear HI0; have HO_4 := n0_; have HO_5 := n1_; have HK := n2_; have HB := n3_; have HI0 := n4_; clear n0_ n1_ n2_ n3_ n4_; (try clear hb); (try clear hb2); (try clear hk); (try clear hi)) | (go_at_call 51; (with_reducible refine (spec_l6Rd_pick.calls k1 g s0_0 t301 4 t302 t303 w0 _ ?side1 ?side2 A10.out).mono ?_); (case side1 => repeat (first | (with_reducible first | exact HI0.out | apply IsS104.alloc | apply IsS104.drewN | apply IsS104.drew | apply IsS104.set_1) | exact HI0.out)); (case side2 => repeat (first | (with_reducible first | exact HB.out | apply below_alloc | apply pw_below_drewN | apply below_drew1 | refine below_set ?_ (IsS104.ge HI0.out)) | exact HB.out)); rintro e w13 ⟨rfl, hi, hb, hk⟩; have n0_ := Aside0.mk (Kd.R_mono (Kd.R_keep (IsS104.apart (show IsS104 w0 _ g s0_0 t301 from by repeat (first | (with_reducible first | exact HI0.out | apply IsS104.alloc | apply IsS104.drewN | apply IsS104.drew | apply IsS104.set_1) | exact HI0.out)) (by (with_reducible repeat (first | apply Kd.R_alloc | apply Kd.R_drewN | apply Kd.R_drew)); exact HO_4.out) (by decide)) hk (fun _ h => h.2)) (fun _ h => h.1)); have n1_ := Aside0.mk (Kd.R_mono (Kd.R_keep (IsS104.apart (show IsS104 w0 _ g s0_0 t301 from by repeat (first | (with_reducible first | exact HI0.out | apply IsS104.alloc | apply IsS104.drewN | apply IsS104.drew | apply IsS104.set_1) | exact HI0.out)) (by (with_reducible repeat (first | apply Kd.R_alloc | apply Kd.R_drewN | apply Kd.R_drew)); exact HO_5.out) (by decide)) hk (fun _ h => h.2)) (fun _ h => h.1)); have n2_ := Aside0.mk (KeepBut.trans (by repeat (first | (with_reducible first | exact HK.out | apply KeepBut.set_ | apply keep_drewN | apply keep_drew | apply keep_alloc) | exact HK.out)) hk (.inl rfl)); have n3_ := Aside0.mk (hb); have n4_ := Aside0.mk (hi); clear HO_4; clear HO_5; clear HK; clear HB; clear HI0; have HO_4 := n0_; have HO_5 := n1_; have HK := n2_; have HB := n3_; have HI0 := n4_; clear n0_ n1_ n2_ n3_ n4_; (try clear hb); (try clear hb2); (try clear hk); (try clear hi)) | ((with_reducible refine gate_builtin (b := .append) (xs := #[.tmp 20, .tmp 26]) rfl ?_); at_builtin; refine Kd.R_append k42 w.heap.size rfl (.tmp 20) (.tmp 26) 29 42 (.agg #[(.int .i64 0), (.bool false)]) 16 rfl Tryd.underlying29 info42 rfl (by decide) (by omega) u5 x5_1 (⟨wrap64 (1 + t300), (t302 == 0)⟩ : S42) [.int .i64 (wrap64 (1 + t300)), .bool (t302 == 0)] (fun _ => True) (fun _ => False) rfl rfl ?aP (fun _ hk => hk.elim) ?aF ?aO (Below.refl _ _) ?aS ?aL ?_; (case aP => exact k42_mkM _ _ _ (⟨wrap64 (1 + t300), (t302 == 0)⟩ : S42)); (case aF => exact (fun _ _ => trivial)); (case aO => exact (by (with_reducible repeat (first | apply Kd.R_alloc | apply Kd.R_drewN | apply Kd.R_drew)); exact HO_5.out)); (case aS => exact (keep_size (w := w) (g := g) (row := none) (by repeat (first | (with_reducible first | exact HK.out | apply KeepBut.set_ | apply keep_drewN | apply keep_drew | apply keep_alloc) | exact HK.out)))); (case aL => have := LMc11.out; omega); intro v305 w14 ho hb hg hat; rw [← Ny304.out] at ho; have n0_ := Aside0.mk (Kd.R_over' (by (with_reducible repeat (first | apply Kd.R_alloc | apply Kd.R_drewN | apply Kd.R_drew)); exact HO_4.out) (Kd.R_typed (by (with_reducible repeat (first | apply Kd.R_alloc | apply Kd.R_drewN | apply Kd.R_drew)); exact HO_5.out)) (by decide) hg); have n1_ := Aside0.mk (IsS104.grown (by repeat (first | (with_reducible first | exact HI0.out | apply IsS104.alloc | apply IsS104.drewN | apply IsS104.drew | apply IsS104.set_1) | exact HI0.out)) hg (IsS104.own_ne HI0.out HO_5.out (by decide))); have n2_ := Aside0.mk (below_weaken (by repeat (first | (with_reducible first | exact HB.out | apply below_alloc | apply pw_below_drewN | apply below_drew1 | refine below_set ?_ (IsS104.ge HI0.out)) | exact HB.out)) HL.out hb); have n3_ := Aside0.mk (KeepBut.trans (by repeat (first | (with_reducible first | exact HK.out | apply KeepBut.set_ | apply keep_drewN | apply keep_drew | apply keep_alloc) | exact HK.out)) (KeepBut.of_grown hg g) (Kd.R_base2 HO_5.out)); have n4_ := Aside0.mk (ho); clear HO_4; clear HI0; clear HB; clear HK; clear HO_5; have HO_4 := n0_; have HI0 := n1_; have HB := n2_; have HK := n3_; have HO306 := n4_; clear n0_ n1_ n2_ n3_ n4_; clear ho hb hg hat)); try go_wp2_with (first | (go_at_call 51; (with_reducible refine (spec_l6Rd_pick.calls k1 g s0_0 x1001_1 ji8 t300 t301 w0 _ ?side1 ?side2 A9.out).mono ?_); (case side1 => repeat (first | (with_reducible first | exact HI0.out | apply IsS104.alloc | apply IsS104.drewN | apply IsS104.drew | apply IsS104.set_1) | exact HI0.out)); (case side2 => repeat (first | (with_reducible first | exact HB.out | apply below_alloc | apply pw_below_drewN | apply below_drew1 | refine below_set ?_ (IsS104.ge HI0.out)) | exact HB.out)); rintro e w12 ⟨rfl, hi, hb, hk⟩; have n0_ := Aside0.mk (Kd.R_mono (Kd.R_keep (IsS104.apart (show IsS104 w0 _ g s0_0 x1001_1 from by repeat (first | (with_reducible first | exact HI0.out | apply IsS104.alloc | apply IsS104.drewN | apply IsS104.drew | apply IsS104.set_1) | exact HI0.out)) (by (with_reducible repeat (first | apply Kd.R_alloc | apply Kd.R_drewN | apply Kd.R_drew)); exact HO_4.out) (by decide)) hk (fun _ h => h.2)) (fun _ h => h.1)); have n1_ := Aside0.mk (Kd.R_mono (Kd.R_keep (IsS104.apart (show IsS104 w0 _ g s0_0 x1001_1 from by repeat (first | (with_reducible first | exact HI0.out | apply IsS104.alloc | apply IsS104.drewN | apply IsS104.drew | apply IsS104.set_1) | exact HI0.out)) (by (with_reducible repeat (first | apply Kd.R_alloc | apply Kd.R_drewN | apply Kd.R_drew)); exact HO_5.out) (by decide)) hk (fun _ h => h.2)) (fun _ h => h.1)); have n2_ := Aside0.mk (KeepBut.trans (by repeat (first | (with_reducible first | exact HK.out | apply KeepBut.set_ | apply keep_drewN | apply keep_drew | apply keep_alloc) | exact HK.out)) hk (.inl rfl)); have n3_ := Aside0.mk (hb); have n4_ := Aside0.mk (hi); clear HO_4; clear HO_5; clear HK; clear HB; clear HI0; have HO_4 := n0_; have HO_5 := n1_; have HK := n2_; have HB := n3_; have HI0 := n4_; clear n0_ n1_ n2_ n3_ n4_; (try clear hb); (try clear hb2); (try clear hk); (try clear hi)) | (go_at_call 51; (with_reducible refine (spec_l6Rd_pick.calls k1 g s0_0 t301 4 t302 t303 w0 _ ?side1 ?side2 A10.out).mono ?_); (case side1 => repeat (first | (with_reducible first | exact HI0.out | apply IsS104.alloc | apply IsS104.drewN | apply IsS104.drew | apply IsS104.set_1) | exact HI0.out)); (case side2 => repeat (first | (with_reducible first | exact HB.out | apply below_alloc | apply pw_below_drewN | apply below_drew1 | refine below_set ?_ (IsS104.ge HI0.out)) | exact HB.out)); rintro e w13 ⟨rfl, hi, hb, hk⟩; have n0_ := Aside0.mk (Kd.R_mono (Kd.R_keep (IsS104.apart (show IsS104 w0 _ g s0_0 t301 from by repeat (first | (with_reducible first | exact HI0.out | apply IsS104.alloc | apply IsS104.drewN | apply IsS104.drew | apply IsS104.set_1) | exact HI0.out)) (by (with_reducible repeat (first | apply Kd.R_alloc | apply Kd.R_drewN | apply Kd.R_drew)); exact HO_4.out) (by decide)) hk (fun _ h => h.2)) (fun _ h => h.1)); have n1_ := Aside0.mk (Kd.R_mono (Kd.R_keep (IsS104.apart (show IsS104 w0 _ g s0_0 t301 from by repeat (first | (with_reducible first | exact HI0.out | apply IsS104.alloc | apply IsS104.drewN | apply IsS104.drew | apply IsS104.set_1) | exact HI0.out)) (by (with_reducible repeat (first | apply Kd.R_alloc | apply Kd.R_drewN | apply Kd.R_drew)); exact HO_5.out) (by decide)) hk (fun _ h => h.2)) (fun _ h => h.1)); have n2_ := Aside0.mk (KeepBut.trans (by repeat (first | (with_reducible first | exact HK.out | apply KeepBut.set_ | apply keep_drewN | apply keep_drew | apply keep_alloc) | exact HK.out)) hk (.inl rfl)); have n3_ := Aside0.mk (hb); have n4_ := Aside0.mk (hi); clear HO_4; clear HO_5; clear HK; clear HB; clear HI0; have HO_4 := n0_; have HO_5 := n1_; have HK := n2_; have HB := n3_; have HI0 := n4_; clear n0_ n1_ n2_ n3_ n4_; (try clear hb); (try clear hb2); (try clear hk); (try clear hi)) | ((with_reducible refine gate_builtin (b := .append) (xs := #[.tmp 20, .tmp 26]) rfl ?_); at_builtin; refine Kd.R_append k42 w.heap.size rfl (.tmp 20) (.tmp 26) 29 42 (.agg #[(.int .i64 0), (.bool false)]) 16 rfl Tryd.underlying29 info42 rfl (by decide) (by omega) u5 x5_1 (⟨wrap64 (1 + t300), (t302 == 0)⟩ : S42) [.int .i64 (wrap64 (1 + t300)), .bool (t302 == 0)] (fun _ => True) (fun _ => False) rfl rfl ?aP (fun _ hk => hk.elim) ?aF ?aO (Below.refl _ _) ?aS ?aL ?_; (case aP => exact k42_mkM _ _ _ (⟨wrap64 (1 + t300), (t302 == 0)⟩ : S42)); (case aF => exact (fun _ _ => trivial)); (case aO => exact (by (with_reducible repeat (first | apply Kd.R_alloc | apply Kd.R_drewN | apply Kd.R_drew)); exact HO_5.out)); (case aS => exact (keep_size (w := w) (g := g) (row := none) (by repeat (first | (with_reducible first | exact HK.out | apply KeepBut.set_ | apply keep_drewN | apply keep_drew | apply keep_alloc) | exact HK.out)))); (case aL => have := LMc11.out; omega); intro v305 w14 ho hb hg hat; rw [← Ny304.out] at ho; have n0_ := Aside0.mk (Kd.R_over' (by (with_reducible repeat (first | apply Kd.R_alloc | apply Kd.R_drewN | apply Kd.R_drew)); exact HO_4.out) (Kd.R_typed (by (with_reducible repeat (first | apply Kd.R_alloc | apply Kd.R_drewN | apply Kd.R_drew)); exact HO_5.out)) (by decide) hg); have n1_ := Aside0.mk (IsS104.grown (by repeat (first | (with_reducible first | exact HI0.out | apply IsS104.alloc | apply IsS104.drewN | apply IsS104.drew | apply IsS104.set_1) | exact HI0.out)) hg (IsS104.own_ne HI0.out HO_5.out (by decide))); have n2_ := Aside0.mk (below_weaken (by repeat (first | (with_reducible first | exact HB.out | apply below_alloc | apply pw_below_drewN | apply below_drew1 | refine below_set ?_ (IsS104.ge HI0.out)) | exact HB.out)) HL.out hb); have n3_ := Aside0.mk (KeepBut.trans (by repeat (first | (with_reducible first | exact HK.out | apply KeepBut.set_ | apply keep_drewN | apply keep_drew | apply keep_alloc) | exact HK.out)) (KeepBut.of_grown hg g) (Kd.R_base2 HO_5.out)); have n4_ := Aside0.mk (ho); clear HO_4; clear HI0; clear HB; clear HK; clear HO_5; have HO_4 := n0_; have HI0 := n1_; have HB := n2_; have HK := n3_; have HO306 := n4_; clear n0_ n1_ n2_ n3_ n4_; clear ho hb hg hat)))
    first | go_roundg k1 | ((try simp only [← hji8] at H' ⊢); go_roundg k1)
    case measure => have := HK1.out; omega
    case rel => exact ⟨(y304), (wrap64 (x6_1 - (wrap64 (1 + t300)))), (t303), (by first | rfl | (simp; done) | (simp [*]; done)), H', ⟨by have := HK1.out; omega⟩, ⟨by (with_reducible repeat (first | apply Kd.R_alloc | apply Kd.R_drewN | apply Kd.R_drew)); exact HO_4.out⟩, ⟨by (with_reducible repeat (first | apply Kd.R_alloc | apply Kd.R_drewN | apply Kd.R_drew)); exact HO306.out⟩, ⟨by repeat (first | (with_reducible first | exact HI0.out | apply IsS104.alloc | apply IsS104.drewN | apply IsS104.drew | apply IsS104.set_1) | exact HI0.out)⟩, ⟨by repeat (first | (with_reducible first | exact HK.out | apply KeepBut.set_ | apply keep_drewN | apply keep_drew | apply keep_alloc) | exact HK.out)⟩, ⟨by repeat (first | (with_reducible first | exact HB.out | apply below_alloc | apply pw_below_drewN | apply below_drew1 | refine below_set ?_ (IsS104.ge HI0.out)) | exact HB.out)⟩⟩
   rw [if_neg c7] at H
   have c7b0 : decide (0 < x6_1) = false := decide_eq_false c7
   clear c7
   by_cases c15 : (x5_1.length : Int) > 0
   rotate_left
   ·rw [if_neg c15] at H
    have c15b0 : decide (0 < (x5_1.length : Int)) = false := decide_eq_false c15
    have c15b1 : decide (0 < x5_1.length) = false := decide_eq_false (by omega)
    clear c15
    simp only [Option.some.injEq, Prod.mk.injEq] at H
    obtain ⟨rfl, rfl, rfl⟩ := H
    obtain ⟨Ao38, co38, eo38⟩ := Kd.R_slice HO_5.out
    subst eo38
    go_wp2
    repeat (go_quiet (fail); try go_wp2)
    go_ret2
    exact ⟨_, _, by first | rfl | (simp [errW_none, errW_some] <;> rfl) | (simp [*, errW_none, errW_some] <;> rfl), by (with_reducible repeat (first | apply Kd.R_alloc | apply Kd.R_drewN | apply Kd.R_drew)); exact HO_4.out, Kd.Q_of_R (by (with_reducible repeat (first | apply Kd.R_alloc | apply Kd.R_drewN | apply Kd.R_drew)); exact HO_5.out), by repeat (first | (with_reducible first | exact HI0.out | apply IsS104.alloc | apply IsS104.drewN | apply IsS104.drew | apply IsS104.set_1) | exact HI0.out), by repeat (first | (with_reducible first | exact HB.out | apply below_alloc | apply pw_below_drewN | apply below_drew1 | refine below_set ?_ (IsS104.ge HI0.out)) | exact HB.out), by repeat (first | (with_reducible first | exact HK.out | apply KeepBut.set_ | apply keep_drewN | apply keep_drew | apply keep_alloc) | exact HK.out)⟩
   rw [if_pos c15] at H
   have c15b0 : decide (0 < (x5_1.length : Int)) = true := decide_eq_true c15
   have c15b1 : decide (0 < x5_1.length) = true := decide_eq_true (by omega)
   clear c15
   replace H := Option.bind_eq_some_iff.mp H
   obtain ⟨⟨t307, t308⟩, A160, H⟩ := H
   replace H : (if t307 = 0 then ((some (([0, 5, (-1)] : List Int) : List Int)).bind fun y309 => ((spec_l6Rd_pick.f k1 s0_0 t308 3).bind fun bt312 => (if 0 ≤ bt312.1 then (if bt312.1 < (y309.length : Int) then (if 0 < (x5_1.length : Int) then (some (t293, (x5_1.set (0 : Int).toNat (⟨rd y309 bt312.1, (rd_T42 x5_1 0).f1⟩ : S42)), bt312.2)) else (none)) else (none)) else (none)))) else (if t307 = 1 then (if 1 ≤ (x5_1.length : Int) then (some (t293, (x5_1.drop (1 : Int).toNat), t308)) else (none)) else (some (t293, x5_1, t308)))) = some (r1, r2, r3) := H
   have A16 := Aside0.mk A160
   clear A160
   by_cases c17 : t307 = 0
   rotate_left
   ·rw [if_neg c17] at H
    have c17b0 : (t307 == 0) = false := beq_eq_false_iff_ne.mpr c17
    have c17b1 : (t307 != 0) = true := bne_iff_ne.mpr c17
    by_cases c31 : t307 = 1
    rotate_left
    ·rw [if_neg c31] at H
     have c31b0 : (t307 == 1) = false := beq_eq_false_iff_ne.mpr c31
     have c31b1 : (t307 != 1) = true := bne_iff_ne.mpr c31
     simp only [Option.some.injEq, Prod.mk.injEq] at H
     obtain ⟨rfl, rfl, rfl⟩ := H
     obtain ⟨Ao36, co36, eo36⟩ := Kd.R_slice HO_5.out
     subst eo36
     go_wp2_with (first | (go_at_call 51; (with_reducible refine (spec_l6Rd_pick.calls k1 g s0_0 x1001_1 30 t307 t308 w0 _ ?side1 ?side2 A16.out).mono ?_); (case side1 => repeat (first | (with_reducible first | exact HI0.out | apply IsS104.alloc | apply IsS104.drewN | apply IsS104.drew | apply IsS104.set_1) | exact HI0.out)); (case side2 => repeat (first | (with_reducible first | exact HB.out | apply below_alloc | apply pw_below_drewN | apply below_drew1 | refine below_set ?_ (IsS104.ge HI0.out)) | exact HB.out)); rintro e w37 ⟨rfl, hi, hb, hk⟩; have n0_ := Aside0.mk (Kd.R_mono (Kd.R_keep (IsS104.apart (show IsS104 w0 _ g s0_0 x1001_1 from by repeat (first | (with_reducible first | exact HI0.out | apply IsS104.alloc | apply IsS104.drewN | apply IsS104.drew | apply IsS104.set_1) | exact HI0.out)) (by (with_reducible repeat (first | apply Kd.R_alloc | apply Kd.R_drewN | apply Kd.R_drew)); exact HO_4.out) (by decide)) hk (fun _ h => h.2)) (fun _ h => h.1)); have n1_ := Aside0.mk (Kd.R_mono (Kd.R_keep (IsS104.apart (show IsS104 w0 _ g s0_0 x1001_1 from by repeat (first | (with_reducible first | exact HI0.out | apply IsS104.alloc | apply IsS104.drewN | apply IsS104.drew | apply IsS104.set_1) | exact HI0.out)) (by (with_reducible repeat (first | apply Kd.R_alloc | apply Kd.R_drewN | apply Kd.R_drew)); exact HO_5.out) (by decide)) hk (fun _ h => h.2)) (fun _ h => h.1)); have n2_ := Aside0.mk (KeepBut.trans (by repeat (first | (with_reducible first | exact HK.out | apply KeepBut.set_ | apply keep_drewN | apply keep_drew | apply keep_alloc) | exact HK.out)) hk (.inl rfl)); have n3_ := Aside0.mk (hb); have n4_ := Aside0.mk (hi); clear HO_4; clear HO_5; clear HK; clear HB; clear HI0; have HO_4 := n0_; have HO_5 := n1_; have HK := n2_; have HB := n3_; have HI0 := n4_; clear n0_ n1_ n2_ n3_ n4_; (try clear hb); (try clear hb2); (try clear hk); (try clear hi)))
     repeat (go_quiet (first | (go_at_call 51; (with_reducible refine (spec_l6Rd_pick.calls k1 g s0_0 x1001_1 30 t307 t308 w0 _ ?side1 ?side2 A16.out).mono ?_); (case side1 => repeat (first | (with_reducible first | exact HI0.out | apply IsS104.alloc | apply IsS104.drewN | apply IsS104.drew | apply IsS104.set_1) | exact HI0.out)); (case side2 => repeat (first | (with_reducible first | exact HB.out | apply below_alloc | apply pw_below_drewN | apply below_drew1 | refine below_set ?_ (IsS104.ge HI0.out)) | exact HB.out)); rintro e w37 ⟨rfl, hi, hb, hk⟩; have n0_ := Aside0.mk (Kd.R_mono (Kd.R_keep (IsS104.apart (show IsS104 w0 _ g s0_0 x1001_1 from by repeat (first | (with_reducible first | exact HI0.out | apply IsS104.alloc | apply IsS104.drewN | apply IsS104.drew | apply IsS104.set_1) | exact HI0.out)) (by (with_reducible repeat (first | apply Kd.R_alloc | apply Kd.R_drewN | apply Kd.R_drew)); exact HO_4.out) (by decide)) hk (fun _ h => h.2)) (fun _ h => h.1)); have n1_ := Aside0.mk (Kd.R_mono (Kd.R_keep (IsS104.apart (show IsS104 w0 _ g s0_0 x1001_1 from by repeat (first | (with_reducible first | exact HI0.out | apply IsS104.alloc | apply IsS104.drewN | apply IsS104.drew | apply IsS104.set_1) | exact HI0.out)) (by (with_reducible repeat (first | apply Kd.R_alloc | apply Kd.R_drewN | apply Kd.R_drew)); exact HO_5.out) (by decide)) hk (fun _ h => h.2)) (fun _ h => h.1)); have n2_ := Aside0.mk (KeepBut.trans (by repeat (first | (with_reducible first | exact HK.out | apply KeepBut.set_ | apply keep_drewN | apply keep_drew | apply keep_alloc) | exact HK.out)) hk (.inl rfl)); have n3_ := Aside0.mk (hb); have n4_ := Aside0.mk (hi); clear HO_4; clear HO_5; clear HK; clear HB; clear HI0; have HO_4 := n0_; have HO_5 := n1_; have HK := n2_; have HB := n3_; have HI0 := n4_; clear n0_ n1_ n2_ n3_ n4_; (try clear hb); (try clear hb2); (try clear hk); (try clear hi))); try go_wp2_with (first | (go_at_call 51; (with_reducible refine (spec_l6Rd_pick.calls k1 g s0_0 x1001_1 30 t307 t308 w0 _ ?side1 ?side2 A16.out).mono ?_); (case side1 => repeat (first | (with_reducible first | exact HI0.out | apply IsS104.alloc | apply IsS104.drewN | apply IsS104.drew | apply IsS104.set_1) | exact HI0.out)); (case side2 => repeat (first | (with_reducible first | exact HB.out | apply below_alloc | apply pw_below_drewN | apply below_drew1 | refine below_set ?_ (IsS104.ge HI0.out)) | exact HB.out)); rintro e w37 ⟨rfl, hi, hb, hk⟩; have n0_ := Aside0.mk (Kd.R_mono (Kd.R_keep (IsS104.apart (show IsS104 w0 _ g s0_0 x1001_1 from by repeat (first | (with_reducible first | exact HI0.out | apply IsS104.alloc | apply IsS104.drewN | apply IsS104.drew | apply IsS104.set_1) | exact HI0.out)) (by (with_reducible repeat (first | apply Kd.R_alloc | apply Kd.R_drewN | apply Kd.R_drew)); exact HO_4.out) (by decide)) hk (fun _ h => h.2)) (fun _ h => h.1)); have n1_ := Aside0.mk (Kd.R_mono (Kd.R_keep (IsS104.apart (show IsS104 w0 _ g s0_0 x1001_1 from by repeat (first | (with_reducible first | exact HI0.out | apply IsS104.alloc | apply IsS104.drewN | apply IsS104.drew | apply IsS104.set_1) | exact HI0.out)) (by (with_reducible repeat (first | apply Kd.R_alloc | apply Kd.R_drewN | apply Kd.R_drew)); exact HO_5.out) (by decide)) hk (fun _ h => h.2)) (fun _ h => h.1)); have n2_ := Aside0.mk (KeepBut.trans (by repeat (first | (with_reducible first | exact HK.out | apply KeepBut.set_ | apply keep_drewN | apply keep_drew | apply keep_alloc) | exact HK.out)) hk (.inl rfl)); have n3_ := Aside0.mk (hb); have n4_ := Aside0.mk (hi); clear HO_4; clear HO_5; clear HK; clear HB; clear HI0; have HO_4 := n0_; have HO_5 := n1_; have HK := n2_; have HB := n3_; have HI0 := n4_; clear n0_ n1_ n2_ n3_ n4_; (try clear hb); (try clear hb2); (try clear hk); (try clear hi))))
     go_ret2
     exact ⟨_, _, by first | rfl | (simp [errW_none, errW_some] <;> rfl) | (simp [*, errW_none, errW_some] <;> rfl), by (with_reducible repeat (first | apply Kd.R_alloc | apply Kd.R_drewN | apply Kd.R_drew)); exact HO_4.out, Kd.Q_of_R (by (with_reducible repeat (first | apply Kd.R_alloc | apply Kd.R_drewN | apply Kd.R_drew)); exact HO_5.out), by repeat (first | (with_reducible first | exact HI0.out | apply IsS104.alloc | apply IsS104.drewN | apply IsS104.drew | apply IsS104.set_1) | exact HI0.out), by repeat (first | (with_reducible first | exact HB.out | apply below_alloc | apply pw_below_drewN | apply below_drew1 | refine below_set ?_ (IsS104.ge HI0.out)) | exact HB.out), by repeat (first | (with_reducible first | exact HK.out | apply KeepBut.set_ | apply keep_drewN | apply keep_drew | apply keep_alloc) | exact HK.out)⟩
    rw [if_pos c31] at H
    have c31b0 : (t307 == 1) = true := beq_iff_eq.mpr c31
    have c31b1 : (t307 != 1) = false := bne_eq_false_iff_eq.mpr c31
    clear c31
    by_cases c32 : 1 ≤ (x5_1.length : Int)
    rotate_left
    ·rw [if_neg c32] at H
     exact absurd H (by simp)
    rw [if_pos c32] at H
    have c32b0 := eq_true c32
    have c32b1 : decide (1 ≤ (x5_1.length : Int)) = true := decide_eq_true c32
    clear c32
    obtain ⟨y316, hy316⟩ : ∃ y_ : List (S42), y_ = (x5_1.drop (1 : Int).toNat) := ⟨_, rfl⟩
    replace H : (some (t293, y316, t308)) = some (r1, r2, r3) := by first | (rw [hy316]; with_reducible exact H) | (have H2_ := (Option.bind_some _ _).symm.trans H; rw [hy316]; with_reducible exact H2_) | (have H2_ := (Option.bind_some _ _).symm.trans H; with_reducible exact H2_) | with_reducible exact H | (rw [hy316]; exact H) | exact H
    have Ny316 := Aside0.mk hy316
    clear hy316
    simp only [Option.some.injEq, Prod.mk.injEq] at H
    obtain ⟨rfl, rfl, rfl⟩ := H
    obtain ⟨Ao33, co33, eo33⟩ := Kd.R_slice HO_5.out
    subst eo33
    go_wp2_with (first | (go_at_call 51; (with_reducible refine (spec_l6Rd_pick.calls k1 g s0_0 x1001_1 30 t307 t308 w0 _ ?side1 ?side2 A16.out).mono ?_); (case side1 => repeat (first | (with_reducible first | exact HI0.out | apply IsS104.alloc | apply IsS104.drewN | apply IsS104.drew | apply IsS104.set_1) | exact HI0.out)); (case side2 => repeat (first | (with_reducible first | exact HB.out | apply below_alloc | apply pw_below_drewN | apply below_drew1 | refine below_set ?_ (IsS104.ge HI0.out)) | exact HB.out)); rintro e w34 ⟨rfl, hi, hb, hk⟩; have n0_ := Aside0.mk (Kd.R_mono (Kd.R_keep (IsS104.apart (show IsS104 w0 _ g s0_0 x1001_1 from by repeat (first | (with_reducible first | exact HI0.out | apply IsS104.alloc | apply IsS104.drewN | apply IsS104.drew | apply IsS104.set_1) | exact HI0.out)) (by (with_reducible repeat (first | apply Kd.R_alloc | apply Kd.R_drewN | apply Kd.R_drew)); exact HO_4.out) (by decide)) hk (fun _ h => h.2)) (fun _ h => h.1)); have n1_ := Aside0.mk (Kd.R_mono (Kd.R_keep (IsS104.apart (show IsS104 w0 _ g s0_0 x1001_1 from by repeat (first | (with_reducible first | exact HI0.out | apply IsS104.alloc | apply IsS104.drewN | apply IsS104.drew | apply IsS104.set_1) | exact HI0.out)) (by (with_reducible repeat (first | apply Kd.R_alloc | apply Kd.R_drewN | apply Kd.R_drew)); exact HO_5.out) (by decide)) hk (fun _ h => h.2)) (fun _ h => h.1)); have n2_ := Aside0.mk (KeepBut.trans (by repeat (first | (with_reducible first | exact HK.out | apply KeepBut.set_ | apply keep_drewN | apply keep_drew | apply keep_alloc) | exact HK.out)) hk (.inl rfl)); have n3_ := Aside0.mk (hb); have n4_ := Aside0.mk (hi); clear HO_4; clear HO_5; clear HK; clear HB; clear HI0; have HO_4 := n0_; have HO_5 := n1_; have HK := n2_; have HB := n3_; have HI0 := n4_; clear n0_ n1_ n2_ n3_ n4_; (try clear hb); (try clear hb2); (try clear hk); (try clear hi); have q35 : (1 : Int) ≤ ((x5_1.length : Int) : Int) := of_decide_eq_true (by first | (with_reducible assumption) | assumption); obtain ⟨i035, hi035, _, hsz35, _⟩ := info_parts info42; have hcut35 := cut_from (P := Tryd.prog) 29 42 .i64 Tryd.underlying29 hi035 2 hsz35 Ao33 x5_1.length co33 1 (by omega) q35; have hr35 := Kd.Q_drop (k := (1 : Int).toNat) (Kd.Q_of_R HO_5.out) (by omega); obtain ⟨A35, hA35⟩ : ∃ Az_, Az_ = (if co33 = (1 : Int).toNat then Ao33 else (Ao33 : Option Addr).map (·.add ((1 : Int).toNat * 2))) := ⟨_, rfl⟩; obtain ⟨c35, hc35⟩ : ∃ cz_, cz_ = co33 - (1 : Int).toNat := ⟨_, rfl⟩; have hy35 : y316.length = x5_1.length - (1 : Int).toNat := (by rw [Ny316.out, List.length_drop]); rw [← Ny316.out] at hr35; rw [← hy35, ← hA35, ← hc35] at hcut35; replace hr35 : Kd.Q k42 42 w34 w.heap.size (fun _ => True) (.slice A35 y316.length c35) y316 := (by rw [hA35, hc35, hy35]; exact hr35); have HE35 : Aside0 ((Value.slice A35 y316.length c35).ownBlock = (.slice Ao33 x5_1.length co33 : Value).ownBlock) := ⟨by rw [hA35]; split <;> (cases (Ao33 : Option Addr) <;> rfl)⟩; clear hy35 hi035 hsz35 HO_5 hA35 hc35; have HO318 := Aside0.mk hr35; clear hr35; replace q35 := eq_true q35))
    repeat (go_quiet (first | (go_at_call 51; (with_reducible refine (spec_l6Rd_pick.calls k1 g s0_0 x1001_1 30 t307 t308 w0 _ ?side1 ?side2 A16.out).mono ?_); (case side1 => repeat (first | (with_reducible first | exact HI0.out | apply IsS104.alloc | apply IsS104.drewN | apply IsS104.drew | apply IsS104.set_1) | exact HI0.out)); (case side2 => repeat (first | (with_reducible first | exact HB.out | apply below_alloc | apply pw_below_drewN | apply below_drew1 | refine below_set ?_ (IsS104.ge HI0.out)) | exact HB.out)); rintro e w34 ⟨rfl, hi, hb, hk⟩; have n0_ := Aside0.mk (Kd.R_mono (Kd.R_keep (IsS104.apart (show IsS104 w0 _ g s0_0 x1001_1 from by repeat (first | (with_reducible first | exact HI0.out | apply IsS104.alloc | apply IsS104.drewN | apply IsS104.drew | apply IsS104.set_1) | exact HI0.out)) (by (with_reducible repeat (first | apply Kd.R_alloc | apply Kd.R_drewN | apply Kd.R_drew)); exact HO_4.out) (by decide)) hk (fun _ h => h.2)) (fun _ h => h.1)); have n1_ := Aside0.mk (Kd.R_mono (Kd.R_keep (IsS104.apart (show IsS104 w0 _ g s0_0 x1001_1 from by repeat (first | (with_reducible first | exact HI0.out | apply IsS104.alloc | apply IsS104.drewN | apply IsS104.drew | apply IsS104.set_1) | exact HI0.out)) (by (with_reducible repeat (first | apply Kd.R_alloc | apply Kd.R_drewN | apply Kd.R_drew)); exact HO_5.out) (by decide)) hk (fun _ h => h.2)) (fun _ h => h.1)); have n2_ := Aside0.mk (KeepBut.trans (by repeat (first | (with_reducible first | exact HK.out | apply KeepBut.set_ | apply keep_drewN | apply keep_drew | apply keep_alloc) | exact HK.out)) hk (.inl rfl)); have n3_ := Aside0.mk (hb); have n4_ := Aside0.mk (hi); clear HO_4; clear HO_5; clear HK; clear HB; clear HI0; have HO_4 := n0_; have HO_5 := n1_; have HK := n2_; have HB := n3_; have HI0 := n4_; clear n0_ n1_ n2_ n3_ n4_; (try clear hb); (try clear hb2); (try clear hk); (try clear hi); have q35 : (1 : Int) ≤ ((x5_1.length : Int) : Int) := of_decide_eq_true (by first | (with_reducible assumption) | assumption); obtain ⟨i035, hi035, _, hsz35, _⟩ := info_parts info42; have hcut35 := cut_from (P := Tryd.prog) 29 42 .i64 Tryd.underlying29 hi035 2 hsz35 Ao33 x5_1.length co33 1 (by omega) q35; have hr35 := Kd.Q_drop (k := (1 : Int).toNat) (Kd.Q_of_R HO_5.out) (by omega); obtain ⟨A35, hA35⟩ : ∃ Az_, Az_ = (if co33 = (1 : Int).toNat then Ao33 else (Ao33 : Option Addr).map (·.add ((1 : Int).toNat * 2))) := ⟨_, rfl⟩; obtain ⟨c35, hc35⟩ : ∃ cz_, cz_ = co33 - (1 : Int).toNat := ⟨_, rfl⟩; have hy35 : y316.length = x5_1.length - (1 : Int).toNat := (by rw [Ny316.out, List.length_drop]); rw [← Ny316.out] at hr35; rw [← hy35, ← hA35, ← hc35] at hcut35; replace hr35 : Kd.Q k42 42 w34 w.heap.size (fun _ => True) (.slice A35 y316.length c35) y316 := (by rw [hA35, hc35, hy35]; exact hr35); have HE35 : Aside0 ((Value.slice A35 y316.length c35).ownBlock = (.slice Ao33 x5_1.length co33 : Value).ownBlock) := ⟨by rw [hA35]; split <;> (cases (Ao33 : Option Addr) <;> rfl)⟩; clear hy35 hi035 hsz35 HO_5 hA35 hc35; have HO318 := Aside0.mk hr35; clear hr35; replace q35 := eq_true q35)); try go_wp2_with (first | (go_at_call 51; (with_reducible refine (spec_l6Rd_pick.calls k1 g s0_0 x1001_1 30 t307 t308 w0 _ ?side1 ?side2 A16.out).mono ?_); (case side1 => repeat (first | (with_reducible first | exact HI0.out | apply IsS104.alloc | apply IsS104.drewN | apply IsS104.drew | apply IsS104.set_1) | exact HI0.out)); (case side2 => repeat (first | (with_reducible first | exact HB.out | apply below_alloc | apply pw_below_drewN | apply below_drew1 | refine below_set ?_ (IsS104.ge HI0.out)) | exact HB.out)); rintro e w34 ⟨rfl, hi, hb, hk⟩; have n0_ := Aside0.mk (Kd.R_mono (Kd.R_keep (IsS104.apart (show IsS104 w0 _ g s0_0 x1001_1 from by repeat (first | (with_reducible first | exact HI0.out | apply IsS104.alloc | apply IsS104.drewN | apply IsS104.drew | apply IsS104.set_1) | exact HI0.out)) (by (with_reducible repeat (first | apply Kd.R_alloc | apply Kd.R_drewN | apply Kd.R_drew)); exact HO_4.out) (by decide)) hk (fun _ h => h.2)) (fun _ h => h.1)); have n1_ := Aside0.mk (Kd.R_mono (Kd.R_keep (IsS104.apart (show IsS104 w0 _ g s0_0 x1001_1 from by repeat (first | (with_reducible first | exact HI0.out | apply IsS104.alloc | apply IsS104.drewN | apply IsS104.drew | apply IsS104.set_1) | exact HI0.out)) (by (with_reducible repeat (first | apply Kd.R_alloc | apply Kd.R_drewN | apply Kd.R_drew)); exact HO_5.out) (by decide)) hk (fun _ h => h.2)) (fun _ h => h.1)); have n2_ := Aside0.mk (KeepBut.trans (by repeat (first | (with_reducible first | exact HK.out | apply KeepBut.set_ | apply keep_drewN | apply keep_drew | apply keep_alloc) | exact HK.out)) hk (.inl rfl)); have n3_ := Aside0.mk (hb); have n4_ := Aside0.mk (hi); clear HO_4; clear HO_5; clear HK; clear HB; clear HI0; have HO_4 := n0_; have HO_5 := n1_; have HK := n2_; have HB := n3_; have HI0 := n4_; clear n0_ n1_ n2_ n3_ n4_; (try clear hb); (try clear hb2); (try clear hk); (try clear hi); have q35 : (1 : Int) ≤ ((x5_1.length : Int) : Int) := of_decide_eq_true (by first | (with_reducible assumption) | assumption); obtain ⟨i035, hi035, _, hsz35, _⟩ := info_parts info42; have hcut35 := cut_from (P := Tryd.prog) 29 42 .i64 Tryd.underlying29 hi035 2 hsz35 Ao33 x5_1.length co33 1 (by omega) q35; have hr35 := Kd.Q_drop (k := (1 : Int).toNat) (Kd.Q_of_R HO_5.out) (by omega); obtain ⟨A35, hA35⟩ : ∃ Az_, Az_ = (if co33 = (1 : Int).toNat then Ao33 else (Ao33 : Option Addr).map (·.add ((1 : Int).toNat * 2))) := ⟨_, rfl⟩; obtain ⟨c35, hc35⟩ : ∃ cz_, cz_ = co33 - (1 : Int).toNat := ⟨_, rfl⟩; have hy35 : y316.length = x5_1.length - (1 : Int).toNat := (by rw [Ny316.out, List.length_drop]); rw [← Ny316.out] at hr35; rw [← hy35, ← hA35, ← hc35] at hcut35; replace hr35 : Kd.Q k42 42 w34 w.heap.size (fun _ => True) (.slice A35 y316.length c35) y316 := (by rw [hA35, hc35, hy35]; exact hr35); have HE35 : Aside0 ((Value.slice A35 y316.length c35).ownBlock = (.slice Ao33 x5_1.length co33 : Value).ownBlock) := ⟨by rw [hA35]; split <;> (cases (Ao33 : Option Addr) <;> rfl)⟩; clear hy35 hi035 hsz35 HO_5 hA35 hc35; have HO318 := Aside0.mk hr35; clear hr35; replace q35 := eq_true q35)))
    go_ret2
    exact ⟨_, _, by first | rfl | (simp [errW_none, errW_some] <;> rfl) | (simp [*, errW_none, errW_some] <;> rfl), by (with_reducible repeat (first | apply Kd.R_alloc | apply Kd.R_drewN | apply Kd.R_drew)); exact HO_4.out, by (with_reducible repeat (first | apply Kd.Q_alloc | apply Kd.Q_drewN | apply Kd.Q_drew)); exact HO318.out, by repeat (first | (with_reducible first | exact HI0.out | apply IsS104.alloc | apply IsS104.drewN | apply IsS104.drew | apply IsS104.set_1) | exact HI0.out), by repeat (first | (with_reducible first | exact HB.out | apply below_alloc | apply pw_below_drewN | apply below_drew1 | refine below_set ?_ (IsS104.ge HI0.out)) | exact HB.out), by repeat (first | (with_reducible first | exact HK.out | apply KeepBut.set_ | apply keep_drewN | apply keep_drew | apply keep_alloc) | exact HK.out)⟩
   rw [if_pos c17] at H
   have c17b0 : (t307 == 0) = true := beq_iff_eq.mpr c17
   have c17b1 : (t307 != 0) = false := bne_eq_false_iff_eq.mpr c17
   clear c17
   obtain ⟨y309, hy309⟩ : ∃ y_ : List Int, y_ = (([0, 5, (-1)] : List Int)) := ⟨_, rfl⟩
   replace H : ((spec_l6Rd_pick.f k1 s0_0 t308 3).bind fun bt312 => (if 0 ≤ bt312.1 then (if bt312.1 < (y309.length : Int) then (if 0 < (x5_1.length : Int) then (some (t293, (x5_1.set (0 : Int).toNat (⟨rd y309 bt312.1, (rd_T42 x5_1 0).f1⟩ : S42)), bt312.2)) else (none)) else (none)) else (none))) = some (r1, r2, r3) := by first | (rw [hy309]; with_reducible exact H) | (have H2_ := (Option.bind_some _ _).symm.trans H; rw [hy309]; with_reducible exact H2_) | (have H2_ := (Option.bind_some _ _).symm.trans H; with_reducible exact H2_) | with_reducible exact H | (rw [hy309]; exact H) | exact H
   have Ny309 := Aside0.mk hy309
   clear hy309
   replace H := Option.bind_eq_some_iff.mp H
   obtain ⟨⟨t312, t313⟩, A180, H⟩ := H
   replace H : (if 0 ≤ t312 then (if t312 < (y309.length : Int) then (if 0 < (x5_1.length : Int) then (some (t293, (x5_1.set (0 : Int).toNat (⟨rd y309 t312, (rd_T42 x5_1 0).f1⟩ : S42)), t313)) else (none)) else (none)) else (none)) = some (r1, r2, r3) := H
   have A18 := Aside0.mk A180
   clear A180
   by_cases c19 : 0 ≤ t312
   rotate_left
   ·rw [if_neg c19] at H
    exact absurd H (by simp)
   rw [if_pos c19] at H
   have c19b0 : decide (0 ≤ t312) = true := decide_eq_true c19
   clear c19
   by_cases c20 : t312 < (y309.length : Int)
   rotate_left
   ·rw [if_neg c20] at H
    exact absurd H (by simp)
   rw [if_pos c20] at H
   have c20b0 : decide (t312 < (y309.length : Int)) = true := decide_eq_true c20
   clear c20
   by_cases c21 : 0 < (x5_1.length : Int)
   rotate_left
   ·rw [if_neg c21] at H
    exact absurd H (by simp)
   rw [if_pos c21] at H
   have c21b0 : decide (0 < (x5_1.length : Int)) = true := decide_eq_true c21
   have c21b1 : decide (0 < x5_1.length) = true := decide_eq_true (by omega)
   clear c21
   obtain ⟨y315, hy315⟩ : ∃ y_ : List (S42), y_ = (x5_1.set (0 : Int).toNat (⟨rd y309 t312, (rd_T42 x5_1 0).f1⟩ : S42)) := ⟨_, rfl⟩
   replace H : (some (t293, y315, t313)) = some (r1, r2, r3) := by first | (rw [hy315]; with_reducible exact H) | (have H2_ := (Option.bind_some _ _).symm.trans H; rw [hy315]; with_reducible exact H2_) | (have H2_ := (Option.bind_some _ _).symm.trans H; with_reducible exact H2_) | with_reducible exact H | (rw [hy315]; exact H) | exact H
   have Ny315 := Aside0.mk hy315
   clear hy315
   simp only [Option.some.injEq, Prod.mk.injEq] at H
   obtain ⟨rfl, rfl, rfl⟩ := H
   obtain ⟨Ao23, co23, eo23⟩ := Kd.R_slice HO_5.out
   subst eo23
   go_wp2_with (first | (go_at_call 51; (with_reducible refine (spec_l6Rd_pick.calls k1 g s0_0 x1001_1 30 t307 t308 w0 _ ?side1 ?side2 A16.out).mono ?_); (case side1 => repeat (first | (with_reducible first | exact HI0.out | apply IsS104.alloc | apply IsS104.drewN | apply IsS104.drew | apply IsS104.set_1) | exact HI0.out)); (case side2 => repeat (first | (with_reducible first | exact HB.out | apply below_alloc | apply pw_below_drewN | apply below_drew1 | refine below_set ?_ (IsS104.ge HI0.out)) | exact HB.out)); rintro e w24 ⟨rfl, hi, hb, hk⟩; have n0_ := Aside0.mk (Kd.R_mono (Kd.R_keep (IsS104.apart (show IsS104 w0 _ g s0_0 x1001_1 from by repeat (first | (with_reducible first | exact HI0.out | apply IsS104.alloc | apply IsS104.drewN | apply IsS104.drew | apply IsS104.set_1) | exact HI0.out)) (by (with_reducible repeat (first | apply Kd.R_alloc | apply Kd.R_drewN | apply Kd.R_drew)); exact HO_4.out) (by decide)) hk (fun _ h => h.2)) (fun _ h => h.1)); have n1_ := Aside0.mk (Kd.R_mono (Kd.R_keep (IsS104.apart (show IsS104 w0 _ g s0_0 x1001_1 from by repeat (first | (with_reducible first | exact HI0.out | apply IsS104.alloc | apply IsS104.drewN | apply IsS104.drew | apply IsS104.set_1) | exact HI0.out)) (by (with_reducible repeat (first | apply Kd.R_alloc | apply Kd.R_drewN | apply Kd.R_drew)); exact HO_5.out) (by decide)) hk (fun _ h => h.2)) (fun _ h => h.1)); have n2_ := Aside0.mk (KeepBut.trans (by repeat (first | (with_reducible first | exact HK.out | apply KeepBut.set_ | apply keep_drewN | apply keep_drew | apply keep_alloc) | exact HK.out)) hk (.inl rfl)); have n3_ := Aside0.mk (hb); have n4_ := Aside0.mk (hi); clear HO_4; clear HO_5; clear HK; clear HB; clear HI0; have HO_4 := n0_; have HO_5 := n1_; have HK := n2_; have HB := n3_; have HI0 := n4_; clear n0_ n1_ n2_ n3_ n4_; (try clear hb); (try clear hb2); (try clear hk); (try clear hi)) | ((with_reducible refine gate_dst (N := 39) rfl ?_); refine Kd.R_lit (Kd.int .i64) _ 3 ?hg (N := 39) ?hd (xs := ([0, 5, (-1)] : List Int)) (inner := [.int .i64 0, .int .i64 5, .int .i64 (-1)]) (ok := fun _ => True) (okp := fun _ => True) ?hr ?hp (fun _ hk => hk) trivial (Below.refl _ _) (Nat.le_refl _) (by simp) ?_; (case hd => rfl); (case hg => rfl); (case hr => first | (go_simp; done) | (go_simp; rfl)); (case hp => exact (Reps.one (show Kd.M (Kd.int .i64) _ _ _ 0 [.int .i64 0] from rfl) (Reps.one (show Kd.M (Kd.int .i64) _ _ _ 5 [.int .i64 5] from rfl) (Reps.one (show Kd.M (Kd.int .i64) _ _ _ (-1) [.int .i64 (-1)] from rfl) (Reps.none _ _))))); intro v310 w25 ho26 hb hg_ hnew_; clear hg_ hnew_; (first | rw [← Ny309.out] at ho26 | (simp only [Int.reduceToNat] at ho26; rw [← Ny309.out] at ho26)); have n0_ := Aside0.mk (Kd.R_below (by (with_reducible repeat (first | apply Kd.R_alloc | apply Kd.R_drewN | apply Kd.R_drew)); exact HO_4.out) hb); have n1_ := Aside0.mk (Kd.R_below (by (with_reducible repeat (first | apply Kd.R_alloc | apply Kd.R_drewN | apply Kd.R_drew)); exact HO_5.out) hb); have n2_ := Aside0.mk (Kd.R_lower ho26 (keep_size (w := w) (g := g) (row := none) (by repeat (first | (with_reducible first | exact HK.out | apply KeepBut.set_ | apply keep_drewN | apply keep_drew | apply keep_alloc) | exact HK.out)))); have n3_ := Aside0.mk (IsS104.below (by repeat (first | (with_reducible first | exact HI0.out | apply IsS104.alloc | apply IsS104.drewN | apply IsS104.drew | apply IsS104.set_1) | exact HI0.out)) hb); have n4_ := Aside0.mk (KeepBut.trans (by repeat (first | (with_reducible first | exact HK.out | apply KeepBut.set_ | apply keep_drewN | apply keep_drew | apply keep_alloc) | exact HK.out)) (KeepBut.of_below hb g none) (.inl rfl)); have n5_ := Aside0.mk (below_step (by repeat (first | (with_reducible first | exact HB.out | apply below_alloc | apply pw_below_drewN | apply below_drew1 | refine below_set ?_ (IsS104.ge HI0.out)) | exact HB.out)) hb); clear HO_4; clear HO_5; clear HI0; clear HK; clear HB; have HO_4 := n0_; have HO_5 := n1_; have HO311 := n2_; have HI0 := n3_; have HK := n4_; have HB := n5_; clear n0_ n1_ n2_ n3_ n4_ n5_; clear hb ho26) | (go_at_call 51; (with_reducible refine (spec_l6Rd_pick.calls k1 g s0_0 t308 3 t312 t313 w0 _ ?side1 ?side2 A18.out).mono ?_); (case side1 => repeat (first | (with_reducible first | exact HI0.out | apply IsS104.alloc | apply IsS104.drewN | apply IsS104.drew | apply IsS104.set_1) | exact HI0.out)); (case side2 => repeat (first | (with_reducible first | exact HB.out | apply below_alloc | apply pw_below_drewN | apply below_drew1 | refine below_set ?_ (IsS104.ge HI0.out)) | exact HB.out)); rintro e w27 ⟨rfl, hi, hb, hk⟩; have n0_ := Aside0.mk (Kd.R_mono (Kd.R_keep (IsS104.apart (show IsS104 w0 _ g s0_0 t308 from by repeat (first | (with_reducible first | exact HI0.out | apply IsS104.alloc | apply IsS104.drewN | apply IsS104.drew | apply IsS104.set_1) | exact HI0.out)) (by (with_reducible repeat (first | apply Kd.R_alloc | apply Kd.R_drewN | apply Kd.R_drew)); exact HO_4.out) (by decide)) hk (fun _ h => h.2)) (fun _ h => h.1)); have n1_ := Aside0.mk (Kd.R_mono (Kd.R_keep (IsS104.apart (show IsS104 w0 _ g s0_0 t308 from by repeat (first | (with_reducible first | exact HI0.out | apply IsS104.alloc | apply IsS104.drewN | apply IsS104.drew | apply IsS104.set_1) | exact HI0.out)) (by (with_reducible repeat (first | apply Kd.R_alloc | apply Kd.R_drewN | apply Kd.R_drew)); exact HO_5.out) (by decide)) hk (fun _ h => h.2)) (fun _ h => h.1)); have n2_ := Aside0.mk (Kd.R_mono (Kd.R_keep (IsS104.apart (show IsS104 w0 _ g s0_0 t308 from by repeat (first | (with_reducible first | exact HI0.out | apply IsS104.alloc | apply IsS104.drewN | apply IsS104.drew | apply IsS104.set_1) | exact HI0.out)) (by (with_reducible repeat (first | apply Kd.R_alloc | apply Kd.R_drewN | apply Kd.R_drew)); exact HO311.out) (by decide)) hk (fun _ h => h.2)) (fun _ h => h.1)); have n3_ := Aside0.mk (KeepBut.trans (by repeat (first | (with_reducible first | exact HK.out | apply KeepBut.set_ | apply keep_drewN | apply keep_drew | apply keep_alloc) | exact HK.out)) hk (.inl rfl)); have n4_ := Aside0.mk (hb); have n5_ := Aside0.mk (hi); clear HO_4; clear HO_5; clear HO311; clear HK; clear HB; clear HI0; have HO_4 := n0_; have HO_5 := n1_; have HO311 := n2_; have HK := n3_; have HB := n4_; have HI0 := n5_; clear n0_ n1_ n2_ n3_ n4_ n5_; (try clear hb); (try clear hb2); (try clear hk); (try clear hi); obtain ⟨Ao28, co28, eo28⟩ := Kd.R_slice HO311.out; subst eo28; have p314 : 0 ≤ (t312 : Int) := of_decide_eq_true (by first | (with_reducible assumption) | assumption); have q314 : t312 < (y309.length : Int) := of_decide_eq_true (by first | (with_reducible assumption) | assumption); obtain ⟨ad314, e314, hx314_0⟩ := Kd.at_int (Kd.R_reads' HO311.out).2.2 t312 p314 q314; cases e314; replace p314 := eq_true p314; replace q314 := eq_true q314; have p22 : 0 ≤ (0 : Int) := (by omega); have q22 : (0 : Int) < ((x5_1.length : Int) : Int) := of_decide_eq_true (by first | (with_reducible assumption) | assumption); have qi22 : (0 < x5_1.length) = True := eq_true (by omega); obtain ⟨go22, co22, eo22, gb22, gl22, cl22, HG22⟩ := Kd.R_form HO_5.out (by omega); (first | cases eo22 | (injection eo22 with ea_ en_ ec_; (first | subst ea_ | (injection ea_ with ea_; subst ea_)); subst ec_; clear en_)); have GB22 := Aside0.mk gb22; have GG22 := Aside0.mk HG22; clear gb22 gl22 HG22; obtain ⟨ce22, hcl22, hM22, hcc22, hfr22⟩ := Kd.R_elem HO_5.out z42 (0 : Int) p22 q22; obtain rfl := k42_openM hM22; have hx22_0 : w27.cell? ⟨go22, (0 : Int).toNat * 2, none⟩ = some (.int .i64 ((rd_T42 x5_1 0).f0)) := hcc22 0 _ rfl; have hx22_1 : w27.cell? ⟨go22, (0 : Int).toNat * 2 + 1, none⟩ = some (.bool ((rd_T42 x5_1 0).f1)) := hcc22 1 _ rfl; have hf22_0 : w27.frozen? ⟨go22, (0 : Int).toNat * 2, none⟩ = false := hfr22 0; have hf22_1 : w27.frozen? ⟨go22, (0 : Int).toNat * 2 + 1, none⟩ = false := hfr22 1; (try clear hM22); clear hcl22 hcc22 hfr22; (try rw [show ((0 : Int)).toNat = 0 from rfl] at hx22_0); (try simp only [Nat.reduceMul, Nat.zero_mul, Nat.zero_add, Nat.reduceAdd] at hx22_0); (try rw [show ((0 : Int)).toNat = 0 from rfl] at hf22_0); (try simp only [Nat.reduceMul, Nat.zero_mul, Nat.zero_add, Nat.reduceAdd] at hf22_0); (try rw [show ((0 : Int)).toNat = 0 from rfl] at hx22_1); (try simp only [Nat.reduceMul, Nat.zero_mul, Nat.zero_add, Nat.reduceAdd] at hx22_1); (try rw [show ((0 : Int)).toNat = 0 from rfl] at hf22_1); (try simp only [Nat.reduceMul, Nat.zero_mul, Nat.zero_add, Nat.reduceAdd] at hf22_1); replace p22 := eq_true p22; replace q22 := eq_true q22; have HX29 := Aside0.mk (show Kd.R k42 42 w27 w.heap.size (fun _ => True) (.slice (some ⟨go22, 0, none⟩) x5_1.length co23) x5_1 from (by (with_reducible repeat (first | apply Kd.R_alloc | apply Kd.R_drewN | apply Kd.R_drew)); exact HO_5.out)); obtain ⟨ce29, hcl29, hM29, hcc29, hfr29⟩ := Kd.R_elem HX29.out z42 (0 : Int) (by omega) (by have h_ : (0 : Int) < ((x5_1.length : Int) : Int) := of_decide_eq_true (by first | (with_reducible assumption) | assumption); first | exact h_ | (have e_ := (Kd.R_reads' HO_5.out).1; omega) | simpa using h_); obtain rfl := k42_openM hM29; have HP29 := Kd.R_seg HX29.out (0 : Int) (by omega) (by have h_ : (0 : Int) < ((x5_1.length : Int) : Int) := of_decide_eq_true (by first | (with_reducible assumption) | assumption); first | exact h_ | (have e_ := (Kd.R_reads' HO_5.out).1; omega) | simpa using h_) (seg := [.int .i64 (rd y309 t312)]) (j := 0) hcl29 hcc29 (show 1 ≤ 2 from by decide) (x' := (⟨rd y309 t312, (rd_T42 x5_1 0).f1⟩ : S42)) (k42_mkM _ _ _ (⟨rd y309 t312, (rd_T42 x5_1 0).f1⟩ : S42) ) (fun _ hk => hk); have hx29_0 := hcc29 0 _ rfl; (try simp only [show (k42).sz = 2 from rfl, Nat.mul_one, Nat.add_zero] at hx29_0); (try rw [show ((0 : Int)).toNat = 0 from rfl] at hx29_0); (try simp only [Nat.reduceMul, Nat.zero_mul, Nat.zero_add, Nat.reduceAdd] at hx29_0); have hf29_0 := hfr29 0; (try simp only [show (k42).sz = 2 from rfl, Nat.mul_one, Nat.add_zero] at hf29_0); (try rw [show ((0 : Int)).toNat = 0 from rfl] at hf29_0); (try simp only [Nat.reduceMul, Nat.zero_mul, Nat.zero_add, Nat.reduceAdd] at hf29_0); (try clear hM29); clear hcl29 hcc29 hfr29) | ((with_reducible refine gate_store (t := 3) (p := 45) rfl ?_); (try (rw [drewN_self w27]; generalize hq_ : World.drewN w27 _ = w27; have n0_ := Aside0.mk (Kd.R_at hq_ HO_4.out); have n1_ := Aside0.mk (Kd.R_at hq_ HO_5.out); have n2_ := Aside0.mk (Kd.R_at hq_ HO311.out); have n3_ := Aside0.mk (IsS104.at_ hq_ HI0.out); have n4_ := Aside0.mk (keep_at hq_ HK.out); have n5_ := Aside0.mk (below_at hq_ HB.out); clear hq_ HO_4 HO_5 HO311 HI0 HK HB; have HO_4 := n0_; have HO_5 := n1_; have HO311 := n2_; have HI0 := n3_; have HK := n4_; have HB := n5_; clear n0_ n1_ n2_ n3_ n4_ n5_; (try (have HX29 := Aside0.mk (show Kd.R k42 42 w27 w.heap.size (fun _ => True) (.slice (some ⟨go22, 0, none⟩) x5_1.length co23) x5_1 from (by (with_reducible repeat (first | apply Kd.R_alloc | apply Kd.R_drewN | apply Kd.R_drew)); exact HO_5.out)))); (try (obtain ⟨ce29, hcl29, hM29, hcc29, hfr29⟩ := Kd.R_elem HX29.out z42 (0 : Int) (by omega) (by have h_ : (0 : Int) < ((x5_1.length : Int) : Int) := of_decide_eq_true (by first | (with_reducible assumption) | assumption); first | exact h_ | (have e_ := (Kd.R_reads' HO_5.out).1; omega) | simpa using h_))); (try (obtain rfl := k42_openM hM29)); (try (have HP29 := Kd.R_seg HX29.out (0 : Int) (by omega) (by have h_ : (0 : Int) < ((x5_1.length : Int) : Int) := of_decide_eq_true (by first | (with_reducible assumption) | assumption); first | exact h_ | (have e_ := (Kd.R_reads' HO_5.out).1; omega) | simpa using h_) (seg := [.int .i64 (rd y309 t312)]) (j := 0) hcl29 hcc29 (show 1 ≤ 2 from by decide) (x' := (⟨rd y309 t312, (rd_T42 x5_1 0).f1⟩ : S42)) (k42_mkM _ _ _ (⟨rd y309 t312, (rd_T42 x5_1 0).f1⟩ : S42) ) (fun _ hk => hk))); (try (have hx29_0 := hcc29 0 _ rfl)); (try (try simp only [show (k42).sz = 2 from rfl, Nat.mul_one, Nat.add_zero] at hx29_0)); (try (try rw [show ((0 : Int)).toNat = 0 from rfl] at hx29_0)); (try (try simp only [Nat.reduceMul, Nat.zero_mul, Nat.zero_add, Nat.reduceAdd] at hx29_0)); (try (have hf29_0 := hfr29 0)); (try (try simp only [show (k42).sz = 2 from rfl, Nat.mul_one, Nat.add_zero] at hf29_0)); (try (try rw [show ((0 : Int)).toNat = 0 from rfl] at hf29_0)); (try (try simp only [Nat.reduceMul, Nat.zero_mul, Nat.zero_add, Nat.reduceAdd] at hf29_0)); (try ((try clear hM29); clear hcl29 hcc29 hfr29)))); refine store_event (t := 3) (p := 45) (v := ?vo_w30) (w1 := (w27.setCell ⟨go22, 0, none⟩ (.int .i64 (rd y309 t312)))) ?hg ?ho ?hn ?hr ?_; (case ho => rfl); (case hg => rfl); (case hn => rfl); (case hr => first | (go_simp; done) | (go_simp; rfl)); intro w30 hw; have hg : w27.grownBy w30 (some go22) := (by rw [hw]; exact HP29.2); have hp_ : Kd.R k42 42 w30 w.heap.size (fun _ => True) (.slice (some ⟨go22, 0, none⟩) x5_1.length co23) y315 := (by rw [hw, Ny315.out]; exact HP29.1); clear HP29; have n0_ := Aside0.mk (Kd.R_over' (v := (.slice (some ⟨go22, 0, none⟩) x5_1.length co23)) (by (with_reducible repeat (first | apply Kd.R_alloc | apply Kd.R_drewN | apply Kd.R_drew)); exact HO_4.out) (Kd.R_typed HO_5.out) (by decide) hg); have n1_ := Aside0.mk (hp_); have n2_ := Aside0.mk (IsS104.grown (by repeat (first | (with_reducible first | exact HI0.out | apply IsS104.alloc | apply IsS104.drewN | apply IsS104.drew | apply IsS104.set_1) | exact HI0.out)) hg (IsS104.own_ne HI0.out HO_5.out (by decide))); have n3_ := Aside0.mk (Kd.R_over' (v := (.slice (some ⟨go22, 0, none⟩) x5_1.length co23)) (by (with_reducible repeat (first | apply Kd.R_alloc | apply Kd.R_drewN | apply Kd.R_drew)); exact HO311.out) (Kd.R_typed HO_5.out) (by decide) hg); have n4_ := Aside0.mk ((by rw [hw]; exact below_set (HB.out) (Nat.le_trans HL.out GB22.out) : Below w0.heap.size w0 w30)); have n5_ := Aside0.mk (KeepBut.trans (by repeat (first | (with_reducible first | exact HK.out | apply KeepBut.set_ | apply keep_drewN | apply keep_drew | apply keep_alloc) | exact HK.out)) (KeepBut.of_grown hg g) (Kd.R_base2 HO_5.out)); clear HO_4; clear HO_5; clear HI0; clear HO311; clear HB; clear HK; have HO_4 := n0_; have HO_5 := n1_; have HI0 := n2_; have HO311 := n3_; have HB := n4_; have HK := n5_; clear n0_ n1_ n2_ n3_ n4_ n5_; clear hg hw hp_))
   repeat (go_quiet (first | (go_at_call 51; (with_reducible refine (spec_l6Rd_pick.calls k1 g s0_0 x1001_1 30 t307 t308 w0 _ ?side1 ?side2 A16.out).mono ?_); (case side1 => repeat (first | (with_reducible first | exact HI0.out | apply IsS104.alloc | apply IsS104.drewN | apply IsS104.drew | apply IsS104.set_1) | exact HI0.out)); (case side2 => repeat (first | (with_reducible first | exact HB.out | apply below_alloc | apply pw_below_drewN | apply below_drew1 | refine below_set ?_ (IsS104.ge HI0.out)) | exact HB.out)); rintro e w24 ⟨rfl, hi, hb, hk⟩; have n0_ := Aside0.mk (Kd.R_mono (Kd.R_keep (IsS104.apart (show IsS104 w0 _ g s0_0 x1001_1 from by repeat (first | (with_reducible first | exact HI0.out | apply IsS104.alloc | apply IsS104.drewN | apply IsS104.drew | apply IsS104.set_1) | exact HI0.out)) (by (with_reducible repeat (first | apply Kd.R_alloc | apply Kd.R_drewN | apply Kd.R_drew)); exact HO_4.out) (by decide)) hk (fun _ h => h.2)) (fun _ h => h.1)); have n1_ := Aside0.mk (Kd.R_mono (Kd.R_keep (IsS104.apart (show IsS104 w0 _ g s0_0 x1001_1 from by repeat (first | (with_reducible first | exact HI0.out | apply IsS104.alloc | apply IsS104.drewN | apply IsS104.drew | apply IsS104.set_1) | exact HI0.out)) (by (with_reducible repeat (first | apply Kd.R_alloc | apply Kd.R_drewN | apply Kd.R_drew)); exact HO_5.out) (by decide)) hk (fun _ h => h.2)) (fun _ h => h.1)); have n2_ := Aside0.mk (KeepBut.trans (by repeat (first | (with_reducible first | exact HK.out | apply KeepBut.set_ | apply keep_drewN | apply keep_drew | apply keep_alloc) | exact HK.out)) hk (.inl rfl)); have n3_ := Aside0.mk (hb); have n4_ := Aside0.mk (hi); clear HO_4; clear HO_5; clear HK; clear HB; clear HI0; have HO_4 := n0_; have HO_5 := n1_; have HK := n2_; have HB := n3_; have HI0 := n4_; clear n0_ n1_ n2_ n3_ n4_; (try clear hb); (try clear hb2); (try clear hk); (try clear hi)) | ((with_reducible refine gate_dst (N := 39) rfl ?_); refine Kd.R_lit (Kd.int .i64) _ 3 ?hg (N := 39) ?hd (xs := ([0, 5, (-1)] : List Int)) (inner := [.int .i64 0, .int .i64 5, .int .i64 (-1)]) (ok := fun _ => True) (okp := fun _ => True) ?hr ?hp (fun _ hk => hk) trivial (Below.refl _ _) (Nat.le_refl _) (by simp) ?_; (case hd => rfl); (case hg => rfl); (case hr => first | (go_simp; done) | (go_simp; rfl)); (case hp => exact (Reps.one (show Kd.M (Kd.int .i64) _ _ _ 0 [.int .i64 0] from rfl) (Reps.one (show Kd.M (Kd.int .i64) _ _ _ 5 [.int .i64 5] from rfl) (Reps.one (show Kd.M (Kd.int .i64) _ _ _ (-1) [.int .i64 (-1)] from rfl) (Reps.none _ _))))); intro v310 w25 ho26 hb hg_ hnew_; clear hg_ hnew_; (first | rw [← Ny309.out] at ho26 | (simp only [Int.reduceToNat] at ho26; rw [← Ny309.out] at ho26)); have n0_ := Aside0.mk (Kd.R_below (by (with_reducible repeat (first | apply Kd.R_alloc | apply Kd.R_drewN | apply Kd.R_drew)); exact HO_4.out) hb); have n1_ := Aside0.mk (Kd.R_below (by (with_reducible repeat (first | apply Kd.R_alloc | apply Kd.R_drewN | apply Kd.R_drew)); exact HO_5.out) hb); have n2_ := Aside0.mk (Kd.R_lower ho26 (keep_size (w := w) (g := g) (row := none) (by repeat (first | (with_reducible first | exact HK.out | apply KeepBut.set_ | apply keep_drewN | apply keep_drew | apply keep_alloc) | exact HK.out)))); have n3_ := Aside0.mk (IsS104.below (by repeat (first | (with_reducible first | exact HI0.out | apply IsS104.alloc | apply IsS104.drewN | apply IsS104.drew | apply IsS104.set_1) | exact HI0.out)) hb); have n4_ := Aside0.mk (KeepBut.trans (by repeat (first | (with_reducible first | exact HK.out | apply KeepBut.set_ | apply keep_drewN | apply keep_drew | apply keep_alloc) | exact HK.out)) (KeepBut.of_below hb g none) (.inl rfl)); have n5_ := Aside0.mk (below_step (by repeat (first | (with_reducible first | exact HB.out | apply below_alloc | apply pw_below_drewN | apply below_drew1 | refine below_set ?_ (IsS104.ge HI0.out)) | exact HB.out)) hb); clear HO_4; clear HO_5; clear HI0; clear HK; clear HB; have HO_4 := n0_; have HO_5 := n1_; have HO311 := n2_; have HI0 := n3_; have HK := n4_; have HB := n5_; clear n0_ n1_ n2_ n3_ n4_ n5_; clear hb ho26) | (go_at_call 51; (with_reducible refine (spec_l6Rd_pick.calls k1 g s0_0 t308 3 t312 t313 w0 _ ?side1 ?side2 A18.out).mono ?_); (case side1 => repeat (first | (with_reducible first | exact HI0.out | apply IsS104.alloc | apply IsS104.drewN | apply IsS104.drew | apply IsS104.set_1) | exact HI0.out)); (case side2 => repeat (first | (with_reducible first | exact HB.out | apply below_alloc | apply pw_below_drewN | apply below_drew1 | refine below_set ?_ (IsS104.ge HI0.out)) | exact HB.out)); rintro e w27 ⟨rfl, hi, hb, hk⟩; have n0_ := Aside0.mk (Kd.R_mono (Kd.R_keep (IsS104.apart (show IsS104 w0 _ g s0_0 t308 from by repeat (first | (with_reducible first | exact HI0.out | apply IsS104.alloc | apply IsS104.drewN | apply IsS104.drew | apply IsS104.set_1) | exact HI0.out)) (by (with_reducible repeat (first | apply Kd.R_alloc | apply Kd.R_drewN | apply Kd.R_drew)); exact HO_4.out) (by decide)) hk (fun _ h => h.2)) (fun _ h => h.1)); have n1_ := Aside0.mk (Kd.R_mono (Kd.R_keep (IsS104.apart (show IsS104 w0 _ g s0_0 t308 from by repeat (first | (with_reducible first | exact HI0.out | apply IsS104.alloc | apply IsS104.drewN | apply IsS104.drew | apply IsS104.set_1) | exact HI0.out)) (by (with_reducible repeat (first | apply Kd.R_alloc | apply Kd.R_drewN | apply Kd.R_drew)); exact HO_5.out) (by decide)) hk (fun _ h => h.2)) (fun _ h => h.1)); have n2_ := Aside0.mk (Kd.R_mono (Kd.R_keep (IsS104.apart (show IsS104 w0 _ g s0_0 t308 from by repeat (first | (with_reducible first | exact HI0.out | apply IsS104.alloc | apply IsS104.drewN | apply IsS104.drew | apply IsS104.set_1) | exact HI0.out)) (by (with_reducible repeat (first | apply Kd.R_alloc | apply Kd.R_drewN | apply Kd.R_drew)); exact HO311.out) (by decide)) hk (fun _ h => h.2)) (fun _ h => h.1)); have n3_ := Aside0.mk (KeepBut.trans (by repeat (first | (with_reducible first | exact HK.out | apply KeepBut.set_ | apply keep_drewN | apply keep_drew | apply keep_alloc) | exact HK.out)) hk (.inl rfl)); have n4_ := Aside0.mk (hb); have n5_ := Aside0.mk (hi); clear HO_4; clear HO_5; clear HO311; clear HK; clear HB; clear HI0; have HO_4 := n0_; have HO_5 := n1_; have HO311 := n2_; have HK := n3_; have HB := n4_; have HI0 := n5_; clear n0_ n1_ n2_ n3_ n4_ n5_; (try clear hb); (try clear hb2); (try clear hk); (try clear hi); obtain ⟨Ao28, co28, eo28⟩ := Kd.R_slice HO311.out; subst eo28; have p314 : 0 ≤ (t312 : Int) := of_decide_eq_true (by first | (with_reducible assumption) | assumption); have q314 : t312 < (y309.length : Int) := of_decide_eq_true (by first | (with_reducible assumption) | assumption); obtain ⟨ad314, e314, hx314_0⟩ := Kd.at_int (Kd.R_reads' HO311.out).2.2 t312 p314 q314; cases e314; replace p314 := eq_true p314; replace q314 := eq_true q314; have p22 : 0 ≤ (0 : Int) := (by omega); have q22 : (0 : Int) < ((x5_1.length : Int) : Int) := of_decide_eq_true (by first | (with_reducible assumption) | assumption); have qi22 : (0 < x5_1.length) = True := eq_true (by omega); obtain ⟨go22, co22, eo22, gb22, gl22, cl22, HG22⟩ := Kd.R_form HO_5.out (by omega); (first | cases eo22 | (injection eo22 with ea_ en_ ec_; (first | subst ea_ | (injection ea_ with ea_; subst ea_)); subst ec_; clear en_)); have GB22 := Aside0.mk gb22; have GG22 := Aside0.mk HG22; clear gb22 gl22 HG22; obtain ⟨ce22, hcl22, hM22, hcc22, hfr22⟩ := Kd.R_elem HO_5.out z42 (0 : Int) p22 q22; obtain rfl := k42_openM hM22; have hx22_0 : w27.cell? ⟨go22, (0 : Int).toNat * 2, none⟩ = some (.int .i64 ((rd_T42 x5_1 0).f0)) := hcc22 0 _ rfl; have hx22_1 : w27.cell? ⟨go22, (0 : Int).toNat * 2 + 1, none⟩ = some (.bool ((rd_T42 x5_1 0).f1)) := hcc22 1 _ rfl; have hf22_0 : w27.frozen? ⟨go22, (0 : Int).toNat * 2, none⟩ = false := hfr22 0; have hf22_1 : w27.frozen? ⟨go22, (0 : Int).toNat * 2 + 1, none⟩ = false := hfr22 1; (try clear hM22); clear hcl22 hcc22 hfr22; (try rw [show ((0 : Int)).toNat = 0 from rfl] at hx22_0); (try simp only [Nat.reduceMul, Nat.zero_mul, Nat.zero_add, Nat.reduceAdd] at hx22_0); (try rw [show ((0 : Int)).toNat = 0 from rfl] at hf22_0); (try simp only [Nat.reduceMul, Nat.zero_mul, Nat.zero_add, Nat.reduceAdd] at hf22_0); (try rw [show ((0 : Int)).toNat = 0 from rfl] at hx22_1); (try simp only [Nat.reduceMul, Nat.zero_mul, Nat.zero_add, Nat.reduceAdd] at hx22_1); (try rw [show ((0 : Int)).toNat = 0 from rfl] at hf22_1); (try simp only [Nat.reduceMul, Nat.zero_mul, Nat.zero_add, Nat.reduceAdd] at hf22_1); replace p22 := eq_true p22; replace q22 := eq_true q22; have HX29 := Aside0.mk (show Kd.R k42 42 w27 w.heap.size (fun _ => True) (.slice (some ⟨go22, 0, none⟩) x5_1.length co23) x5_1 from (by (with_reducible repeat (first | apply Kd.R_alloc | apply Kd.R_drewN | apply Kd.R_drew)); exact HO_5.out)); obtain ⟨ce29, hcl29, hM29, hcc29, hfr29⟩ := Kd.R_elem HX29.out z42 (0 : Int) (by omega) (by have h_ : (0 : Int) < ((x5_1.length : Int) : Int) := of_decide_eq_true (by first | (with_reducible assumption) | assumption); first | exact h_ | (have e_ := (Kd.R_reads' HO_5.out).1; omega) | simpa using h_); obtain rfl := k42_openM hM29; have HP29 := Kd.R_seg HX29.out (0 : Int) (by omega) (by have h_ : (0 : Int) < ((x5_1.length : Int) : Int) := of_decide_eq_true (by first | (with_reducible assumption) | assumption); first | exact h_ | (have e_ := (Kd.R_reads' HO_5.out).1; omega) | simpa using h_) (seg := [.int .i64 (rd y309 t312)]) (j := 0) hcl29 hcc29 (show 1 ≤ 2 from by decide) (x' := (⟨rd y309 t312, (rd_T42 x5_1 0).f1⟩ : S42)) (k42_mkM _ _ _ (⟨rd y309 t312, (rd_T42 x5_1 0).f1⟩ : S42) ) (fun _ hk => hk); have hx29_0 := hcc29 0 _ rfl; (try simp only [show (k42).sz = 2 from rfl, Nat.mul_one, Nat.add_zero] at hx29_0); (try rw [show ((0 : Int)).toNat = 0 from rfl] at hx29_0); (try simp only [Nat.reduceMul, Nat.zero_mul, Nat.zero_add, Nat.reduceAdd] at hx29_0); have hf29_0 := hfr29 0; (try simp only [show (k42).sz = 2 from rfl, Nat.mul_one, Nat.add_zero] at hf29_0); (try rw [show ((0 : Int)).toNat = 0 from rfl] at hf29_0); (try simp only [Nat.reduceMul, Nat.zero_mul, Nat.zero_add, Nat.reduceAdd] at hf29_0); (try clear hM29); clear hcl29 hcc29 hfr29) | ((with_reducible refine gate_store (t := 3) (p := 45) rfl ?_); (try (rw [drewN_self w27]; generalize hq_ : World.drewN w27 _ = w27; have n0_ := Aside0.mk (Kd.R_at hq_ HO_4.out); have n1_ := Aside0.mk (Kd.R_at hq_ HO_5.out); have n2_ := Aside0.mk (Kd.R_at hq_ HO311.out); have n3_ := Aside0.mk (IsS104.at_ hq_ HI0.out); have n4_ := Aside0.mk (keep_at hq_ HK.out); have n5_ := Aside0.mk (below_at hq_ HB.out); clear hq_ HO_4 HO_5 HO311 HI0 HK HB; have HO_4 := n0_; have HO_5 := n1_; have HO311 := n2_; have HI0 := n3_; have HK := n4_; have HB := n5_; clear n0_ n1_ n2_ n3_ n4_ n5_; (try (have HX29 := Aside0.mk (show Kd.R k42 42 w27 w.heap.size (fun _ => True) (.slice (some ⟨go22, 0, none⟩) x5_1.length co23) x5_1 from (by (with_reducible repeat (first | apply Kd.R_alloc | apply Kd.R_drewN | apply Kd.R_drew)); exact HO_5.out)))); (try (obtain ⟨ce29, hcl29, hM29, hcc29, hfr29⟩ := Kd.R_elem HX29.out z42 (0 : Int) (by omega) (by have h_ : (0 : Int) < ((x5_1.length : Int) : Int) := of_decide_eq_true (by first | (with_reducible assumption) | assumption); first | exact h_ | (have e_ := (Kd.R_reads' HO_5.out).1; omega) | simpa using h_))); (try (obtain rfl := k42_openM hM29)); (try (have HP29 := Kd.R_seg HX29.out (0 : Int) (by omega) (by have h_ : (0 : Int) < ((x5_1.length : Int) : Int) := of_decide_eq_true (by first | (with_reducible assumption) | assumption); first | exact h_ | (have e_ := (Kd.R_reads' HO_5.out).1; omega) | simpa using h_) (seg := [.int .i64 (rd y309 t312)]) (j := 0) hcl29 hcc29 (show 1 ≤ 2 from by decide) (x' := (⟨rd y309 t312, (rd_T42 x5_1 0).f1⟩ : S42)) (k42_mkM _ _ _ (⟨rd y309 t312, (rd_T42 x5_1 0).f1⟩ : S42) ) (fun _ hk => hk))); (try (have hx29_0 := hcc29 0 _ rfl)); (try (try simp only [show (k42).sz = 2 from rfl, Nat.mul_one, Nat.add_zero] at hx29_0)); (try (try rw [show ((0 : Int)).toNat = 0 from rfl] at hx29_0)); (try (try simp only [Nat.reduceMul, Nat.zero_mul, Nat.zero_add, Nat.reduceAdd] at hx29_0)); (try (have hf29_0 := hfr29 0)); (try (try simp only [show (k42).sz = 2 from rfl, Nat.mul_one, Nat.add_zero] at hf29_0)); (try (try rw [show ((0 : Int)).toNat = 0 from rfl] at hf29_0)); (try (try simp only [Nat.reduceMul, Nat.zero_mul, Nat.zero_add, Nat.reduceAdd] at hf29_0)); (try ((try clear hM29); clear hcl29 hcc29 hfr29)))); refine store_event (t := 3) (p := 45) (v := ?vo_w30) (w1 := (w27.setCell ⟨go22, 0, none⟩ (.int .i64 (rd y309 t312)))) ?hg ?ho ?hn ?hr ?_; (case ho => rfl); (case hg => rfl); (case hn => rfl); (case hr => first | (go_simp; done) | (go_simp; rfl)); intro w30 hw; have hg : w27.grownBy w30 (some go22) := (by rw [hw]; exact HP29.2); have hp_ : Kd.R k42 42 w30 w.heap.size (fun _ => True) (.slice (some ⟨go22, 0, none⟩) x5_1.length co23) y315 := (by rw [hw, Ny315.out]; exact HP29.1); clear HP29; have n0_ := Aside0.mk (Kd.R_over' (v := (.slice (some ⟨go22, 0, none⟩) x5_1.length co23)) (by (with_reducible repeat (first | apply Kd.R_alloc | apply Kd.R_drewN | apply Kd.R_drew)); exact HO_4.out) (Kd.R_typed HO_5.out) (by decide) hg); have n1_ := Aside0.mk (hp_); have n2_ := Aside0.mk (IsS104.grown (by repeat (first | (with_reducible first | exact HI0.out | apply IsS104.alloc | apply IsS104.drewN | apply IsS104.drew | apply IsS104.set_1) | exact HI0.out)) hg (IsS104.own_ne HI0.out HO_5.out (by decide))); have n3_ := Aside0.mk (Kd.R_over' (v := (.slice (some ⟨go22, 0, none⟩) x5_1.length co23)) (by (with_reducible repeat (first | apply Kd.R_alloc | apply Kd.R_drewN | apply Kd.R_drew)); exact HO311.out) (Kd.R_typed HO_5.out) (by decide) hg); have n4_ := Aside0.mk ((by rw [hw]; exact below_set (HB.out) (Nat.le_trans HL.out GB22.out) : Below w0.heap.size w0 w30)); have n5_ := Aside0.mk (KeepBut.trans (by repeat (first | (with_reducible first | exact HK.out | apply KeepBut.set_ | apply keep_drewN | apply keep_drew | apply keep_alloc) | exact HK.out)) (KeepBut.of_grown hg g) (Kd.R_base2 HO_5.out)); clear HO_4; clear HO_5; clear HI0; clear HO311; clear HB; clear HK; have HO_4 := n0_; have HO_5 := n1_; have HI0 := n2_; have HO311 := n3_; have HB := n4_; have HK := n5_; clear n0_ n1_ n2_ n3_ n4_ n5_; clear hg hw hp_)); try go_wp2_with (first | (go_at_call 51; (with_reducible refine (spec_l6Rd_pick.calls k1 g s0_0 x1001_1 30 t307 t308 w0 _ ?side1 ?side2 A16.out).mono ?_); (case side1 => repeat (first | (with_reducible first | exact HI0.out | apply IsS104.alloc | apply IsS104.drewN | apply IsS104.drew | apply IsS104.set_1) | exact HI0.out)); (case side2 => repeat (first | (with_reducible first | exact HB.out | apply below_alloc | apply pw_below_drewN | apply below_drew1 | refine below_set ?_ (IsS104.ge HI0.out)) | exact HB.out)); rintro e w24 ⟨rfl, hi, hb, hk⟩; have n0_ := Aside0.mk (Kd.R_mono (Kd.R_keep (IsS104.apart (show IsS104 w0 _ g s0_0 x1001_1 from by repeat (first | (with_reducible first | exact HI0.out | apply IsS104.alloc | apply IsS104.drewN | apply IsS104.drew | apply IsS104.set_1) | exact HI0.out)) (by (with_reducible repeat (first | apply Kd.R_alloc | apply Kd.R_drewN | apply Kd.R_drew)); exact HO_4.out) (by decide)) hk (fun _ h => h.2)) (fun _ h => h.1)); have n1_ := Aside0.mk (Kd.R_mono (Kd.R_keep (IsS104.apart (show IsS104 w0 _ g s0_0 x1001_1 from by repeat (first | (with_reducible first | exact HI0.out | apply IsS104.alloc | apply IsS104.drewN | apply IsS104.drew | apply IsS104.set_1) | exact HI0.out)) (by (with_reducible repeat (first | apply Kd.R_alloc | apply Kd.R_drewN | apply Kd.R_drew)); exact HO_5.out) (by decide)) hk (fun _ h => h.2)) (fun _ h => h.1)); have n2_ := Aside0.mk (KeepBut.trans (by repeat (first | (with_reducible first | exact HK.out | apply KeepBut.set_ | apply keep_drewN | apply keep_drew | apply keep_alloc) | exact HK.out)) hk (.inl rfl)); have n3_ := Aside0.mk (hb); have n4_ := Aside0.mk (hi); clear HO_4; clear HO_5; clear HK; clear HB; clear HI0; have HO_4 := n0_; have HO_5 := n1_; have HK := n2_; have HB := n3_; have HI0 := n4_; clear n0_ n1_ n2_ n3_ n4_; (try clear hb); (try clear hb2); (try clear hk); (try clear hi)) | ((with_reducible refine gate_dst (N := 39) rfl ?_); refine Kd.R_lit (Kd.int .i64) _ 3 ?hg (N := 39) ?hd (xs := ([0, 5, (-1)] : List Int)) (inner := [.int .i64 0, .int .i64 5, .int .i64 (-1)]) (ok := fun _ => True) (okp := fun _ => True) ?hr ?hp (fun _ hk => hk) trivial (Below.refl _ _) (Nat.le_refl _) (by simp) ?_; (case hd => rfl); (case hg => rfl); (case hr => first | (go_simp; done) | (go_simp; rfl)); (case hp => exact (Reps.one (show Kd.M (Kd.int .i64) _ _ _ 0 [.int .i64 0] from rfl) (Reps.one (show Kd.M (Kd.int .i64) _ _ _ 5 [.int .i64 5] from rfl) (Reps.one (show Kd.M (Kd.int .i64) _ _ _ (-1) [.int .i64 (-1)] from rfl) (Reps.none _ _))))); intro v310 w25 ho26 hb hg_ hnew_; clear hg_ hnew_; (first | rw [← Ny309.out] at ho26 | (simp only [Int.reduceToNat] at ho26; rw [← Ny309.out] at ho26)); have n0_ := Aside0.mk (Kd.R_below (by (with_reducible repeat (first | apply Kd.R_alloc | apply Kd.R_drewN | apply Kd.R_drew)); exact HO_4.out) hb); have n1_ := Aside0.mk (Kd.R_below (by (with_reducible repeat (first | apply Kd.R_alloc | apply Kd.R_drewN | apply Kd.R_drew)); exact HO_5.out) hb); have n2_ := Aside0.mk (Kd.R_lower ho26 (keep_size (w := w) (g := g) (row := none) (by repeat (first | (with_reducible first | exact HK.out | apply KeepBut.set_ | apply keep_drewN | apply keep_drew | apply keep_alloc) | exact HK.out)))); have n3_ := Aside0.mk (IsS104.below (by repeat (first | (with_reducible first | exact HI0.out | apply IsS104.alloc | apply IsS104.drewN | apply IsS104.drew | apply IsS104.set_1) | exact HI0.out)) hb); have n4_ := Aside0.mk (KeepBut.trans (by repeat (first | (with_reducible first | exact HK.out | apply KeepBut.set_ | apply keep_drewN | apply keep_drew | apply keep_alloc) | exact HK.out)) (KeepBut.of_below hb g none) (.inl rfl)); have n5_ := Aside0.mk (below_step (by repeat (first | (with_reducible first | exact HB.out | apply below_alloc | apply pw_below_drewN | apply below_drew1 | refine below_set ?_ (IsS104.ge HI0.out)) | exact HB.out)) hb); clear HO_4; clear HO_5; clear HI0; clear HK; clear HB; have HO_4 := n0_; have HO_5 := n1_; have HO311 := n2_; have HI0 := n3_; have HK := n4_; have HB := n5_; clear n0_ n1_ n2_ n3_ n4_ n5_; clear hb ho26) | (go_at_call 51; (with_reducible refine (spec_l6Rd_pick.calls k1 g s0_0 t308 3 t312 t313 w0 _ ?side1 ?side2 A18.out).mono ?_); (case side1 => repeat (first | (with_reducible first | exact HI0.out | apply IsS104.alloc | apply IsS104.drewN | apply IsS104.drew | apply IsS104.set_1) | exact HI0.out)); (case side2 => repeat (first | (with_reducible first | exact HB.out | apply below_alloc | apply pw_below_drewN | apply below_drew1 | refine below_set ?_ (IsS104.ge HI0.out)) | exact HB.out)); rintro e w27 ⟨rfl, hi, hb, hk⟩; have n0_ := Aside0.mk (Kd.R_mono (Kd.R_keep (IsS104.apart (show IsS104 w0 _ g s0_0 t308 from by repeat (first | (with_reducible first | exact HI0.out | apply IsS104.alloc | apply IsS104.drewN | apply IsS104.drew | apply IsS104.set_1) | exact HI0.out)) (by (with_reducible repeat (first | apply Kd.R_alloc | apply Kd.R_drewN | apply Kd.R_drew)); exact HO_4.out) (by decide)) hk (fun _ h => h.2)) (fun _ h => h.1)); have n1_ := Aside0.mk (Kd.R_mono (Kd.R_keep (IsS104.apart (show IsS104 w0 _ g s0_0 t308 from by repeat (first | (with_reducible first | exact HI0.out | apply IsS104.alloc | apply IsS104.drewN | apply IsS104.drew | apply IsS104.set_1) | exact HI0.out)) (by (with_reducible repeat (first | apply Kd.R_alloc | apply Kd.R_drewN | apply Kd.R_drew)); exact HO_5.out) (by decide)) hk (fun _ h => h.2)) (fun _ h => h.1)); have n2_ := Aside0.mk (Kd.R_mono (Kd.R_keep (IsS104.apart (show IsS104 w0 _ g s0_0 t308 from by repeat (first | (with_reducible first | exact HI0.out | apply IsS104.alloc | apply IsS104.drewN | apply IsS104.drew | apply IsS104.set_1) | exact HI0.out)) (by (with_reducible repeat (first | apply Kd.R_alloc | apply Kd.R_drewN | apply Kd.R_drew)); exact HO311.out) (by decide)) hk (fun _ h => h.2)) (fun _ h => h.1)); have n3_ := Aside0.mk (KeepBut.trans (by repeat (first | (with_reducible first | exact HK.out | apply KeepBut.set_ | apply keep_drewN | apply keep_drew | apply keep_alloc) | exact HK.out)) hk (.inl rfl)); have n4_ := Aside0.mk (hb); have n5_ := Aside0.mk (hi); clear HO_4; clear HO_5; clear HO311; clear HK; clear HB; clear HI0; have HO_4 := n0_; have HO_5 := n1_; have HO311 := n2_; have HK := n3_; have HB := n4_; have HI0 := n5_; clear n0_ n1_ n2_ n3_ n4_ n5_; (try clear hb); (try clear hb2); (try clear hk); (try clear hi); obtain ⟨Ao28, co28, eo28⟩ := Kd.R_slice HO311.out; subst eo28; have p314 : 0 ≤ (t312 : Int) := of_decide_eq_true (by first | (with_reducible assumption) | assumption); have q314 : t312 < (y309.length : Int) := of_decide_eq_true (by first | (with_reducible assumption) | assumption); obtain ⟨ad314, e314, hx314_0⟩ := Kd.at_int (Kd.R_reads' HO311.out).2.2 t312 p314 q314; cases e314; replace p314 := eq_true p314; replace q314 := eq_true q314; have p22 : 0 ≤ (0 : Int) := (by omega); have q22 : (0 : Int) < ((x5_1.length : Int) : Int) := of_decide_eq_true (by first | (with_reducible assumption) | assumption); have qi22 : (0 < x5_1.length) = True := eq_true (by omega); obtain ⟨go22, co22, eo22, gb22, gl22, cl22, HG22⟩ := Kd.R_form HO_5.out (by omega); (first | cases eo22 | (injection eo22 with ea_ en_ ec_; (first | subst ea_ | (injection ea_ with ea_; subst ea_)); subst ec_; clear en_)); have GB22 := Aside0.mk gb22; have GG22 := Aside0.mk HG22; clear gb22 gl22 HG22; obtain ⟨ce22, hcl22, hM22, hcc22, hfr22⟩ := Kd.R_elem HO_5.out z42 (0 : Int) p22 q22; obtain rfl := k42_openM hM22; have hx22_0 : w27.cell? ⟨go22, (0 : Int).toNat * 2, none⟩ = some (.int .i64 ((rd_T42 x5_1 0).f0)) := hcc22 0 _ rfl; have hx22_1 : w27.cell? ⟨go22, (0 : Int).toNat * 2 + 1, none⟩ = some (.bool ((rd_T42 x5_1 0).f1)) := hcc22 1 _ rfl; have hf22_0 : w27.frozen? ⟨go22, (0 : Int).toNat * 2, none⟩ = false := hfr22 0; have hf22_1 : w27.frozen? ⟨go22, (0 : Int).toNat * 2 + 1, none⟩ = false := hfr22 1; (try clear hM22); clear hcl22 hcc22 hfr22; (try rw [show ((0 : Int)).toNat = 0 from rfl] at hx22_0); (try simp only [Nat.reduceMul, Nat.zero_mul, Nat.zero_add, Nat.reduceAdd] at hx22_0); (try rw [show ((0 : Int)).toNat = 0 from rfl] at hf22_0); (try simp only [Nat.reduceMul, Nat.zero_mul, Nat.zero_add, Nat.reduceAdd] at hf22_0); (try rw [show ((0 : Int)).toNat = 0 from rfl] at hx22_1); (try simp only [Nat.reduceMul, Nat.zero_mul, Nat.zero_add, Nat.reduceAdd] at hx22_1); (try rw [show ((0 : Int)).toNat = 0 from rfl] at hf22_1); (try simp only [Nat.reduceMul, Nat.zero_mul, Nat.zero_add, Nat.reduceAdd] at hf22_1); replace p22 := eq_true p22; replace q22 := eq_true q22; have HX29 := Aside0.mk (show Kd.R k42 42 w27 w.heap.size (fun _ => True) (.slice (some ⟨go22, 0, none⟩) x5_1.length co23) x5_1 from (by (with_reducible repeat (first | apply Kd.R_alloc | apply Kd.R_drewN | apply Kd.R_drew)); exact HO_5.out)); obtain ⟨ce29, hcl29, hM29, hcc29, hfr29⟩ := Kd.R_elem HX29.out z42 (0 : Int) (by omega) (by have h_ : (0 : Int) < ((x5_1.length : Int) : Int) := of_decide_eq_true (by first | (with_reducible assumption) | assumption); first | exact h_ | (have e_ := (Kd.R_reads' HO_5.out).1; omega) | simpa using h_); obtain rfl := k42_openM hM29; have HP29 := Kd.R_seg HX29.out (0 : Int) (by omega) (by have h_ : (0 : Int) < ((x5_1.length : Int) : Int) := of_decide_eq_true (by first | (with_reducible assumption) | assumption); first | exact h_ | (have e_ := (Kd.R_reads' HO_5.out).1; omega) | simpa using h_) (seg := [.int .i64 (rd y309 t312)]) (j := 0) hcl29 hcc29 (show 1 ≤ 2 from by decide) (x' := (⟨rd y309 t312, (rd_T42 x5_1 0).f1⟩ : S42)) (k42_mkM _ _ _ (⟨rd y309 t312, (rd_T42 x5_1 0).f1⟩ : S42) ) (fun _ hk => hk); have hx29_0 := hcc29 0 _ rfl; (try simp only [show (k42).sz = 2 from rfl, Nat.mul_one, Nat.add_zero] at hx29_0); (try rw [show ((0 : Int)).toNat = 0 from rfl] at hx29_0); (try simp only [Nat.reduceMul, Nat.zero_mul, Nat.zero_add, Nat.reduceAdd] at hx29_0); have hf29_0 := hfr29 0; (try simp only [show (k42).sz = 2 from rfl, Nat.mul_one, Nat.add_zero] at hf29_0); (try rw [show ((0 : Int)).toNat = 0 from rfl] at hf29_0); (try simp only [Nat.reduceMul, Nat.zero_mul, Nat.zero_add, Nat.reduceAdd] at hf29_0); (try clear hM29); clear hcl29 hcc29 hfr29) | ((with_reducible refine gate_store (t := 3) (p := 45) rfl ?_); (try (rw [drewN_self w27]; generalize hq_ : World.drewN w27 _ = w27; have n0_ := Aside0.mk (Kd.R_at hq_ HO_4.out); have n1_ := Aside0.mk (Kd.R_at hq_ HO_5.out); have n2_ := Aside0.mk (Kd.R_at hq_ HO311.out); have n3_ := Aside0.mk (IsS104.at_ hq_ HI0.out); have n4_ := Aside0.mk (keep_at hq_ HK.out); have n5_ := Aside0.mk (below_at hq_ HB.out); clear hq_ HO_4 HO_5 HO311 HI0 HK HB; have HO_4 := n0_; have HO_5 := n1_; have HO311 := n2_; have HI0 := n3_; have HK := n4_; have HB := n5_; clear n0_ n1_ n2_ n3_ n4_ n5_; (try (have HX29 := Aside0.mk (show Kd.R k42 42 w27 w.heap.size (fun _ => True) (.slice (some ⟨go22, 0, none⟩) x5_1.length co23) x5_1 from (by (with_reducible repeat (first | apply Kd.R_alloc | apply Kd.R_drewN | apply Kd.R_drew)); exact HO_5.out)))); (try (obtain ⟨ce29, hcl29, hM29, hcc29, hfr29⟩ := Kd.R_elem HX29.out z42 (0 : Int) (by omega) (by have h_ : (0 : Int) < ((x5_1.length : Int) : Int) := of_decide_eq_true (by first | (with_reducible assumption) | assumption); first | exact h_ | (have e_ := (Kd.R_reads' HO_5.out).1; omega) | simpa using h_))); (try (obtain rfl := k42_openM hM29)); (try (have HP29 := Kd.R_seg HX29.out (0 : Int) (by omega) (by have h_ : (0 : Int) < ((x5_1.length : Int) : Int) := of_decide_eq_true (by first | (with_reducible assumption) | assumption); first | exact h_ | (have e_ := (Kd.R_reads' HO_5.out).1; omega) | simpa using h_) (seg := [.int .i64 (rd y309 t312)]) (j := 0) hcl29 hcc29 (show 1 ≤ 2 from by decide) (x' := (⟨rd y309 t312, (rd_T42 x5_1 0).f1⟩ : S42)) (k42_mkM _ _ _ (⟨rd y309 t312, (rd_T42 x5_1 0).f1⟩ : S42) ) (fun _ hk => hk))); (try (have hx29_0 := hcc29 0 _ rfl)); (try (try simp only [show (k42).sz = 2 from rfl, Nat.mul_one, Nat.add_zero] at hx29_0)); (try (try rw [show ((0 : Int)).toNat = 0 from rfl] at hx29_0)); (try (try simp only [Nat.reduceMul, Nat.zero_mul, Nat.zero_add, Nat.reduceAdd] at hx29_0)); (try (have hf29_0 := hfr29 0)); (try (try simp only [show (k42).sz = 2 from rfl, Nat.mul_one, Nat.add_zero] at hf29_0)); (try (try rw [show ((0 : Int)).toNat = 0 from rfl] at hf29_0)); (try (try simp only [Nat.reduceMul, Nat.zero_mul, Nat.zero_add, Nat.reduceAdd] at hf29_0)); (try ((try clear hM29); clear hcl29 hcc29 hfr29)))); refine store_event (t := 3) (p := 45) (v := ?vo_w30) (w1 := (w27.setCell ⟨go22, 0, none⟩ (.int .i64 (rd y309 t312)))) ?hg ?ho ?hn ?hr ?_; (case ho => rfl); (case hg => rfl); (case hn => rfl); (case hr => first | (go_simp; done) | (go_simp; rfl)); intro w30 hw; have hg : w27.grownBy w30 (some go22) := (by rw [hw]; exact HP29.2); have hp_ : Kd.R k42 42 w30 w.heap.size (fun _ => True) (.slice (some ⟨go22, 0, none⟩) x5_1.length co23) y315 := (by rw [hw, Ny315.out]; exact HP29.1); clear HP29; have n0_ := Aside0.mk (Kd.R_over' (v := (.slice (some ⟨go22, 0, none⟩) x5_1.length co23)) (by (with_reducible repeat (first | apply Kd.R_alloc | apply Kd.R_drewN | apply Kd.R_drew)); exact HO_4.out) (Kd.R_typed HO_5.out) (by decide) hg); have n1_ := Aside0.mk (hp_); have n2_ := Aside0.mk (IsS104.grown (by repeat (first | (with_reducible first | exact HI0.out | apply IsS104.alloc | apply IsS104.drewN | apply IsS104.drew | apply IsS104.set_1) | exact HI0.out)) hg (IsS104.own_ne HI0.out HO_5.out (by decide))); have n3_ := Aside0.mk (Kd.R_over' (v := (.slice (some ⟨go22, 0, none⟩) x5_1.length co23)) (by (with_reducible repeat (first | apply Kd.R_alloc | apply Kd.R_drewN | apply Kd.R_drew)); exact HO311.out) (Kd.R_typed HO_5.out) (by decide) hg); have n4_ := Aside0.mk ((by rw [hw]; exact below_set (HB.out) (Nat.le_trans HL.out GB22.out) : Below w0.heap.size w0 w30)); have n5_ := Aside0.mk (KeepBut.trans (by repeat (first | (with_reducible first | exact HK.out | apply KeepBut.set_ | apply keep_drewN | apply keep_drew | apply keep_alloc) | exact HK.out)) (KeepBut.of_grown hg g) (Kd.R_base2 HO_5.out)); clear HO_4; clear HO_5; clear HI0; clear HO311; clear HB; clear HK; have HO_4 := n0_; have HO_5 := n1_; have HI0 := n2_; have HO311 := n3_; have HB := n4_; have HK := n5_; clear n0_ n1_ n2_ n3_ n4_ n5_; clear hg hw hp_)))
   go_ret2
   exact ⟨_, _, by first | rfl | (simp [errW_none, errW_some] <;> rfl) | (simp [*, errW_none, errW_some] <;> rfl), by (with_reducible repeat (first | apply Kd.R_alloc | apply Kd.R_drewN | apply Kd.R_drew)); exact HO_4.out, Kd.Q_of_R (by (with_reducible repeat (first | apply Kd.R_alloc | apply Kd.R_drewN | apply Kd.R_drew)); exact HO_5.out), by repeat (first | (with_reducible first | exact HI0.out | apply IsS104.alloc | apply IsS104.drewN | apply IsS104.drew | apply IsS104.set_1) | exact HI0.out), by repeat (first | (with_reducible first | exact HB.out | apply below_alloc | apply pw_below_drewN | apply below_drew1 | refine below_set ?_ (IsS104.ge HI0.out)) | exact HB.out), by repeat (first | (with_reducible first | exact HK.out | apply KeepBut.set_ | apply keep_drewN | apply keep_drew | apply keep_alloc) | exact HK.out)⟩
end Go.Proofs.YtldepdaglapdeaaDoor.E
end
section
namespace Go.Proofs.YtldepdaglapdeaaDoor.E
open Go.RowKit Go.Proofs.YtldepdaglapdeaaDoorW.PrintWords Go.Proofs.YtldepdaglapdeaaDoorW.PrintLast Go.Proofs.YtldepdaglapdeaaDoorW.PrintMore
attribute [local go_sem] max2_int min2_int max_two min_two max_three min_three max_four min_four
set_option linter.unusedVariables false
set_option linter.unusedSimpArgs false
attribute [local go_sem] str_leq_ str_gtr_ str_geq_
def spec_l6Open.f (l0 : List Int) : Option (List Int × Int) := if (l0.length : Int) > 2000 then (if 2000 ≤ (l0.length : Int) then (some (l0.take 2000, 0)) else (none)) else (some (l0, 0))
set_option maxHeartbeats 8000000 in
set_option maxRecDepth 100000 in
theorem spec_l6Open.calls (A0 : Option Addr) (c0 : Nat) (l0 : List Int) (r1 : List Int) (r2 : Int) (w0 w : World) (hB : Below w0.heap.size w0 w) (hr0 : Kd.C (Kd.int .u8) w0 A0 l0.length l0) (hc0 : l0.length ≤ c0) (h : spec_l6Open.f l0 = some (r1, r2)) :
  Calls Tryd.prog 44 #[.slice A0 l0.length c0] w fun e w' => ∃ g_ : Nat, e = .returned (.pointer (some ⟨g_, 0, none⟩)) ∧ IsS104 w0 w' g_ r1 r2 ∧ Below w0.heap.size w0 w' ∧ Below w.heap.size w w' := by
 have hu104 := Tryd.underlying104
 have HR0 := Aside0.mk hr0
 have HC0 := Aside0.mk hc0
 clear hr0 hc0
 have HBW := Aside0.mk (Below.refl w.heap.size w)
 have HW0 := Aside0.mk hB.size
 have HB := Aside0.mk hB
 clear hB
 have H : (if (l0.length : Int) > 2000 then (if 2000 ≤ (l0.length : Int) then (some (l0.take 2000, 0)) else (none)) else (some (l0, 0))) = some (r1, r2) := h
 clear h
 by_cases c2 : (l0.length : Int) > 2000
 rotate_left
 ·rw [if_neg c2] at H
  have c2b0 : decide (2000 < (l0.length : Int)) = false := decide_eq_false c2
  have c2b1 : decide (2000 < l0.length) = false := decide_eq_false (by omega)
  clear c2
  simp only [Option.some.injEq, Prod.mk.injEq] at H
  obtain ⟨rfl, rfl⟩ := H
  go_enter Tryd.func44, Tryd.ntmps44
  go_wp2_with (first | ((with_reducible refine gate_dst (N := 10) rfl ?_); refine box_event ?hg (N := 10) ?hd (cs := #[.slice A0 l0.length c0, .int .i64 0]) (t := 104) ?hr ?_; (case hd => rfl); (case hg => rfl); (case hr => first | (go_simp; done) | (go_simp; rfl)); intro gb321 hg w6 hbox hb; have n0_ := Aside0.mk (below_step HBW.out hb); have n1_ := Aside0.mk (below_step (by repeat (first | (with_reducible first | exact HB.out | apply below_alloc | apply pw_below_drewN | apply below_drew1) | exact HB.out)) hb); have n2_ := Aside0.mk (hbox); have n3_ := Aside0.mk ((by rw [hg]; exact (below_size (by repeat (first | (with_reducible first | exact HBW.out | apply below_alloc | apply pw_below_drewN | apply below_drew1) | exact HBW.out))) : w.heap.size ≤ gb321)); have n4_ := Aside0.mk ((Nat.le_trans HW0.out (by rw [hg]; exact (below_size (by repeat (first | (with_reducible first | exact HBW.out | apply below_alloc | apply pw_below_drewN | apply below_drew1) | exact HBW.out))) : w.heap.size ≤ gb321) : w0.heap.size ≤ gb321)); clear HBW; clear HB; have HBW := n0_; have HB := n1_; have BK321 := n2_; have GW321 := n3_; have GE321 := n4_; clear n0_ n1_ n2_ n3_ n4_; clear hb hbox hg))
  go_ret
  exact ⟨_, rfl, (show IsS104 w0 _ gb321 l0 0 from ⟨_, _, by (with_reducible repeat (first | refine blk_drewN ?_ _ | refine blk_drew ?_ | refine blk_alloc ?_ _)); exact BK321.out, GE321.out, HR0.out⟩), by repeat (first | (with_reducible first | exact HB.out | apply below_alloc | apply pw_below_drewN | apply below_drew1 | refine below_set ?_ GE321.out) | exact HB.out), by repeat (first | (with_reducible first | exact HBW.out | apply below_alloc | apply pw_below_drewN | apply below_drew1 | refine below_set ?_ GW321.out) | exact HBW.out)⟩
 rw [if_pos c2] at H
 have c2b0 : decide (2000 < (l0.length : Int)) = true := decide_eq_true c2
 have c2b1 : decide (2000 < l0.length) = true := decide_eq_true (by omega)
 clear c2
 by_cases c3 : 2000 ≤ (l0.length : Int)
 rotate_left
 ·rw [if_neg c3] at H
  exact absurd H (by simp)
 rw [if_pos c3] at H
 have c3b0 := eq_true c3
 have c3b1 : decide (2000 ≤ (l0.length : Int)) = true := decide_eq_true c3
 clear c3
 simp only [Option.some.injEq, Prod.mk.injEq] at H
 obtain ⟨rfl, rfl⟩ := H
 obtain ⟨i04, hi04, _, hsz4, _⟩ := info_parts info5
 obtain ⟨hcut4, hA4, hC4⟩ := print_take_of (P := Tryd.prog) (Value.int .u8) 0 36 5 .i64 Tryd.underlying36 hi04 hsz4 A0 c0 l0 2000 (by omega) (of_decide_eq_true (by first | (with_reducible assumption) | assumption)) HC0.out
 have HR319 := Aside0.mk (Kd.C_of_reads (h1 := fun _ => rfl) (hA4 _ (Kd.reads_of_C HR0.out)))
 have HC319 := Aside0.mk hC4
 clear hA4 hC4 hi04 hsz4
 go_enter Tryd.func44, Tryd.ntmps44
 go_wp2_with (first | ((with_reducible refine gate_dst (N := 10) rfl ?_); refine box_event ?hg (N := 10) ?hd (cs := #[.slice A0 (l0.take 2000).length c0, .int .i64 0]) (t := 104) ?hr ?_; (case hd => rfl); (case hg => rfl); (case hr => first | (go_simp; done) | (go_simp; rfl)); intro gb320 hg w5 hbox hb; have n0_ := Aside0.mk (below_step HBW.out hb); have n1_ := Aside0.mk (below_step (by repeat (first | (with_reducible first | exact HB.out | apply below_alloc | apply pw_below_drewN | apply below_drew1) | exact HB.out)) hb); have n2_ := Aside0.mk (hbox); have n3_ := Aside0.mk ((by rw [hg]; exact (below_size (by repeat (first | (with_reducible first | exact HBW.out | apply below_alloc | apply pw_below_drewN | apply below_drew1) | exact HBW.out))) : w.heap.size ≤ gb320)); have n4_ := Aside0.mk ((Nat.le_trans HW0.out (by rw [hg]; exact (below_size (by repeat (first | (with_reducible first | exact HBW.out | apply below_alloc | apply pw_below_drewN | apply below_drew1) | exact HBW.out))) : w.heap.size ≤ gb320) : w0.heap.size ≤ gb320)); clear HBW; clear HB; have HBW := n0_; have HB := n1_; have BK320 := n2_; have GW320 := n3_; have GE320 := n4_; clear n0_ n1_ n2_ n3_ n4_; clear hb hbox hg))
 go_ret
 exact ⟨_, rfl, (show IsS104 w0 _ gb320 (l0.take 2000) 0 from ⟨_, _, by (with_reducible repeat (first | refine blk_drewN ?_ _ | refine blk_drew ?_ | refine blk_alloc ?_ _)); exact BK320.out, GE320.out, HR319.out⟩), by repeat (first | (with_reducible first | exact HB.out | apply below_alloc | apply pw_below_drewN | apply below_drew1 | refine below_set ?_ GE320.out) | exact HB.out), by repeat (first | (with_reducible first | exact HBW.out | apply below_alloc | apply pw_below_drewN | apply below_drew1 | refine below_set ?_ GW320.out) | exact HBW.out)⟩
end Go.Proofs.YtldepdaglapdeaaDoor.E
end
section
namespace Go.Proofs.YtldepdaglapdeaaDoor.E
open Go.RowKit Go.Proofs.YtldepdaglapdeaaDoorW.PrintWords Go.Proofs.YtldepdaglapdeaaDoorW.PrintLast Go.Proofs.YtldepdaglapdeaaDoorW.PrintMore
attribute [local go_sem] max2_int min2_int max_two min_two max_three min_three max_four min_four
set_option linter.unusedVariables false
set_option linter.unusedSimpArgs false
attribute [local go_sem] str_leq_ str_gtr_ str_geq_
def spec_l6Rd_of.f (k : Nat) (s0_0 : List Int) (s0_1 : Int) (l1 : List ByteArray) : Option (ByteArray × Int) := (spec_l6Rd_pick.f k s0_0 s0_1 (l1.length : Int)).bind fun bt438 => (if 0 ≤ bt438.1 then (if bt438.1 < (l1.length : Int) then (some (rdOf ByteArray.empty l1 bt438.1, bt438.2)) else (none)) else (none))
set_option maxHeartbeats 8000000 in
set_option maxRecDepth 100000 in
theorem spec_l6Rd_of.calls (k : Nat) (g : Nat) (s0_0 : List Int) (s0_1 : Int) (A1 : Option Addr) (c1 : Nat) (l1 : List ByteArray) (r1 : ByteArray) (r2 : Int) (w0 w : World) (hI : IsS104 w0 w g s0_0 s0_1) (hB : Below w0.heap.size w0 w) (hr1 : Kd.C Kd.string w A1 l1.length l1) (hc1 : l1.length ≤ c1) (hf1 : ∀ ad, A1 = some ad → 0 < l1.length → ad.block ≠ g) (h : spec_l6Rd_of.f k s0_0 s0_1 l1 = some (r1, r2)) :
  Calls Tryd.prog 52 #[.pointer (some ⟨g, 0, none⟩), .slice A1 l1.length c1] w fun e w' => e = .returned (.string r1) ∧ IsS104 w0 w' g s0_0 r2 ∧ Below w0.heap.size w0 w' ∧ KeepBut w w' g none := by
 have HR1 := Aside0.mk hr1
 have HC1 := Aside0.mk hc1
 clear hr1 hc1
 have HI0 := Aside0.mk hI
 have HK := Aside0.mk (KeepBut.refl w g none)
 have HL := Aside0.mk hB.size
 clear hI
 have HW0 := Aside0.mk hB.size
 have HB := Aside0.mk hB
 clear hB
 have H : ((spec_l6Rd_pick.f k s0_0 s0_1 (l1.length : Int)).bind fun bt438 => (if 0 ≤ bt438.1 then (if bt438.1 < (l1.length : Int) then (some (rdOf ByteArray.empty l1 bt438.1, bt438.2)) else (none)) else (none))) = some (r1, r2) := h
 clear h
 replace H := Option.bind_eq_some_iff.mp H
 obtain ⟨⟨t438, t439⟩, A30, H⟩ := H
 replace H : (if 0 ≤ t438 then (if t438 < (l1.length : Int) then (some (rdOf ByteArray.empty l1 t438, t439)) else (none)) else (none)) = some (r1, r2) := H
 have A3 := Aside0.mk A30
 clear A30
 by_cases c4 : 0 ≤ t438
 rotate_left
 ·rw [if_neg c4] at H
  exact absurd H (by simp)
 rw [if_pos c4] at H
 have c4b0 : decide (0 ≤ t438) = true := decide_eq_true c4
 clear c4
 by_cases c5 : t438 < (l1.length : Int)
 rotate_left
 ·rw [if_neg c5] at H
  exact absurd H (by simp)
 rw [if_pos c5] at H
 have c5b0 : decide (t438 < (l1.length : Int)) = true := decide_eq_true c5
 clear c5
 simp only [Option.some.injEq, Prod.mk.injEq] at H
 obtain ⟨rfl, rfl⟩ := H
 go_enter Tryd.func52, Tryd.ntmps52
 go_wp2_with (first | ((with_reducible refine gate_callee (f := 51) rfl ?_); refine goesL_ (some 9) rfl rfl Tryd.func51 (by kernel_rfl) rfl #[.pointer (some ⟨g, 0, none⟩), .int .i64 (l1.length : Int)] rfl (by (try simp only [List.map_toArray, List.map_cons, List.map_nil]); first | done | rfl | (simp only [List.length_drop, List.length_take]; rfl)) ?_; (with_reducible refine (spec_l6Rd_pick.calls k g s0_0 s0_1 (l1.length : Int) t438 t439 w0 _ ?side1 ?side2 A3.out).mono ?_); (case side1 => repeat (first | (with_reducible first | exact HI0.out | apply IsS104.alloc | apply IsS104.drewN | apply IsS104.drew | apply IsS104.set_1) | exact HI0.out)); (case side2 => repeat (first | (with_reducible first | exact HB.out | apply below_alloc | apply pw_below_drewN | apply below_drew1 | refine below_set ?_ (IsS104.ge HI0.out)) | exact HB.out)); rintro e w6 ⟨rfl, hi, hb, hk⟩; refine ⟨_, rfl, ?_⟩; have n0_ := Aside0.mk (KeepBut.trans (by repeat (first | (with_reducible first | exact HK.out | apply KeepBut.set_ | apply keep_drewN | apply keep_drew | apply keep_alloc) | exact HK.out)) hk (.inl rfl)); have n1_ := Aside0.mk (hb); have n2_ := Aside0.mk (hi); clear HK; clear HB; clear HI0; have HK := n0_; have HB := n1_; have HI0 := n2_; clear n0_ n1_ n2_; (try clear hb); (try clear hb2); (try clear hk); (try clear hi); have p440 : 0 ≤ (t438 : Int) := of_decide_eq_true (by first | (with_reducible assumption) | assumption); have q440 : t438 < (l1.length : Int) := of_decide_eq_true (by first | (with_reducible assumption) | assumption); obtain ⟨ad440, e440, hx440_0⟩ := Kd.at_string HR1.out t438 p440 q440; cases e440; replace hx440_0 := keep_cell HK.out hx440_0 (by first | (rw [add_block]; exact hf1 _ rfl (by omega)) | exact hf1 _ rfl (by omega) | exact hf1 ad440 rfl (by omega)); replace p440 := eq_true p440; replace q440 := eq_true q440))
 go_ret
 exact ⟨by first | rfl | (simp [errW_none, errW_some] <;> rfl) | (simp [*, errW_none, errW_some] <;> rfl), by repeat (first | (with_reducible first | exact HI0.out | apply IsS104.alloc | apply IsS104.drewN | apply IsS104.drew | apply IsS104.set_1) | exact HI0.out), by repeat (first | (with_reducible first | exact HB.out | apply below_alloc | apply pw_below_drewN | apply below_drew1 | refine below_set ?_ (IsS104.ge HI0.out)) | exact HB.out), by repeat (first | (with_reducible first | exact HK.out | apply KeepBut.set_ | apply keep_drewN | apply keep_drew | apply keep_alloc) | exact HK.out)⟩
end Go.Proofs.YtldepdaglapdeaaDoor.E
end
section
namespace Go.Proofs.YtldepdaglapdeaaDoor.E
open Go.RowKit Go.Proofs.YtldepdaglapdeaaDoorW.PrintWords Go.Proofs.YtldepdaglapdeaaDoorW.PrintLast Go.Proofs.YtldepdaglapdeaaDoorW.PrintMore
attribute [local go_sem] max2_int min2_int max_two min_two max_three min_three max_four min_four
set_option linter.unusedVariables false
set_option linter.unusedSimpArgs false
attribute [local go_sem] str_leq_ str_gtr_ str_geq_
def spec_DrawGroupsRead.f (k : Nat) (l0 : List Int) : Option ((List (S56)) × (List (S42)) × ByteArray) := (spec_l6Open.f l0).bind fun bt530 => ((spec_l91Groups.f k bt530.1 bt530.2).bind fun bt533 => ((spec_GroupsNames.f k bt533.1 bt533.2.1).bind fun t540 => ((spec_l6Rd_pick.f k bt530.1 bt533.2.2 4).bind fun bt541 => (if bt541.1 = 0 then ((spec_l6Rd_of.f k bt530.1 bt541.2 (([(⟨#[32]⟩ : ByteArray), (⟨#[112, 117, 110, 99, 116, 117, 109]⟩ : ByteArray), (⟨#[32, 112, 101, 115]⟩ : ByteArray)] : List ByteArray))).bind fun bt546 => (if t540.size + bt546.1.size ≤ 9223372036854775807 then (some (bt533.1, bt533.2.1, t540 ++ bt546.1)) else (none))) else (some (bt533.1, bt533.2.1, t540))))))
set_option maxHeartbeats 8000000 in
set_option maxRecDepth 100000 in
theorem spec_DrawGroupsRead.calls (k : Nat) (A0 : Option Addr) (c0 : Nat) (l0 : List Int) (r1 : List (S56)) (r2 : List (S42)) (r3 : ByteArray) (w : World) (hr0 : Kd.C (Kd.int .u8) w A0 l0.length l0) (hc0 : l0.length ≤ c0) (h : spec_DrawGroupsRead.f k l0 = some (r1, r2, r3)) :
  Calls Tryd.prog 31 #[.slice A0 l0.length c0] w fun e w' => ∃ v0_ v1_ : Value, e = .returned (.tuple #[v0_, v1_, .string r3]) ∧ Kd.R k56 56 w' w.heap.size (fun _ => True) v0_ r1 ∧ Kd.Q k42 42 w' w.heap.size (fun _ => True) v1_ r2 ∧ Below w.heap.size w w' := by
 have HR0 := Aside0.mk hr0
 have HC0 := Aside0.mk hc0
 clear hr0 hc0
 have HB := Aside0.mk (Below.refl w.heap.size w)
 have H : ((spec_l6Open.f l0).bind fun bt530 => ((spec_l91Groups.f k bt530.1 bt530.2).bind fun bt533 => ((spec_GroupsNames.f k bt533.1 bt533.2.1).bind fun t540 => ((spec_l6Rd_pick.f k bt530.1 bt533.2.2 4).bind fun bt541 => (if bt541.1 = 0 then ((spec_l6Rd_of.f k bt530.1 bt541.2 (([(⟨#[32]⟩ : ByteArray), (⟨#[112, 117, 110, 99, 116, 117, 109]⟩ : ByteArray), (⟨#[32, 112, 101, 115]⟩ : ByteArray)] : List ByteArray))).bind fun bt546 => (if t540.size + bt546.1.size ≤ 9223372036854775807 then (some (bt533.1, bt533.2.1, t540 ++ bt546.1)) else (none))) else (some (bt533.1, bt533.2.1, t540))))))) = some (r1, r2, r3) := h
 clear h
 replace H := Option.bind_eq_some_iff.mp H
 obtain ⟨⟨t530, t531⟩, A20, H⟩ := H
 replace H : ((spec_l91Groups.f k t530 t531).bind fun bt533 => ((spec_GroupsNames.f k bt533.1 bt533.2.1).bind fun t540 => ((spec_l6Rd_pick.f k t530 bt533.2.2 4).bind fun bt541 => (if bt541.1 = 0 then ((spec_l6Rd_of.f k t530 bt541.2 (([(⟨#[32]⟩ : ByteArray), (⟨#[112, 117, 110, 99, 116, 117, 109]⟩ : ByteArray), (⟨#[32, 112, 101, 115]⟩ : ByteArray)] : List ByteArray))).bind fun bt546 => (if t540.size + bt546.1.size ≤ 9223372036854775807 then (some (bt533.1, bt533.2.1, t540 ++ bt546.1)) else (none))) else (some (bt533.1, bt533.2.1, t540)))))) = some (r1, r2, r3) := H
 have A2 := Aside0.mk A20
 clear A20
 replace H := Option.bind_eq_some_iff.mp H
 obtain ⟨⟨t533, t536, t539⟩, A30, H⟩ := H
 replace H : ((spec_GroupsNames.f k t533 t536).bind fun t540 => ((spec_l6Rd_pick.f k t530 t539 4).bind fun bt541 => (if bt541.1 = 0 then ((spec_l6Rd_of.f k t530 bt541.2 (([(⟨#[32]⟩ : ByteArray), (⟨#[112, 117, 110, 99, 116, 117, 109]⟩ : ByteArray), (⟨#[32, 112, 101, 115]⟩ : ByteArray)] : List ByteArray))).bind fun bt546 => (if t540.size + bt546.1.size ≤ 9223372036854775807 then (some (t533, t536, t540 ++ bt546.1)) else (none))) else (some (t533, t536, t540))))) = some (r1, r2, r3) := H
 have A3 := Aside0.mk A30
 clear A30
 replace H := Option.bind_eq_some_iff.mp H
 obtain ⟨t540, A40, H⟩ := H
 replace H : ((spec_l6Rd_pick.f k t530 t539 4).bind fun bt541 => (if bt541.1 = 0 then ((spec_l6Rd_of.f k t530 bt541.2 (([(⟨#[32]⟩ : ByteArray), (⟨#[112, 117, 110, 99, 116, 117, 109]⟩ : ByteArray), (⟨#[32, 112, 101, 115]⟩ : ByteArray)] : List ByteArray))).bind fun bt546 => (if t540.size + bt546.1.size ≤ 9223372036854775807 then (some (t533, t536, t540 ++ bt546.1)) else (none))) else (some (t533, t536, t540)))) = some (r1, r2, r3) := H
 have A4 := Aside0.mk A40
 clear A40
 replace H := Option.bind_eq_some_iff.mp H
 obtain ⟨⟨t541, t542⟩, A50, H⟩ := H
 replace H : (if t541 = 0 then ((spec_l6Rd_of.f k t530 t542 (([(⟨#[32]⟩ : ByteArray), (⟨#[112, 117, 110, 99, 116, 117, 109]⟩ : ByteArray), (⟨#[32, 112, 101, 115]⟩ : ByteArray)] : List ByteArray))).bind fun bt546 => (if t540.size + bt546.1.size ≤ 9223372036854775807 then (some (t533, t536, t540 ++ bt546.1)) else (none))) else (some (t533, t536, t540))) = some (r1, r2, r3) := H
 have A5 := Aside0.mk A50
 clear A50
 by_cases c6 : t541 = 0
 rotate_left
 ·rw [if_neg c6] at H
  have c6b0 : (t541 == 0) = false := beq_eq_false_iff_ne.mpr c6
  have c6b1 : (t541 != 0) = true := bne_iff_ne.mpr c6
  simp only [Option.some.injEq, Prod.mk.injEq] at H
  obtain ⟨rfl, rfl, rfl⟩ := H
  go_enter Tryd.func31, Tryd.ntmps31
  go_wp2_with (first | ((with_reducible refine gate_callee (f := 44) rfl ?_); refine goesL_ (some 10) rfl rfl Tryd.func44 (by kernel_rfl) rfl #[.slice A0 l0.length c0] rfl (by (try simp only [List.map_toArray, List.map_cons, List.map_nil]); first | done | rfl | (simp only [List.length_drop, List.length_take]; rfl)) ?_; (with_reducible refine (spec_l6Open.calls _ _ l0 t530 t531 w _ ?side1 ?side2 ?side3 A2.out).mono ?_); (case side1 => repeat (first | (with_reducible first | exact HB.out | apply below_alloc | apply pw_below_drewN | apply below_drew1) | exact HB.out)); (case side2 => exact HR0.out); (case side3 => exact HC0.out); rintro e w19 ⟨g532, rfl, hi, hb, hb2⟩; refine ⟨_, rfl, ?_⟩; have n0_ := Aside0.mk (hb); have n1_ := Aside0.mk (hi); clear HB; have HB := n0_; have HI532 := n1_; clear n0_ n1_; (try clear hb); (try clear hb2); (try clear hk); (try clear hi)) | ((with_reducible refine gate_callee (f := 43) rfl ?_); refine goesL_ (some 13) rfl rfl Tryd.func43 (by kernel_rfl) rfl #[.pointer (some ⟨g532, 0, none⟩)] rfl (by (try simp only [List.map_toArray, List.map_cons, List.map_nil]); first | done | rfl | (simp only [List.length_drop, List.length_take]; rfl)) ?_; (with_reducible refine (spec_l91Groups.calls k g532 t530 t531 t533 t536 t539 w _ ?side1 ?side2 A3.out).mono ?_); (case side1 => repeat (first | (with_reducible first | exact HI532.out | apply IsS104.alloc | apply IsS104.drewN | apply IsS104.drew | apply IsS104.set_1) | exact HI532.out)); (case side2 => repeat (first | (with_reducible first | exact HB.out | apply below_alloc | apply pw_below_drewN | apply below_drew1 | refine below_set ?_ (IsS104.ge HI532.out)) | exact HB.out)); rintro e w20 ⟨v534, v537, rfl, ho0, ho1, hi, hb, hk⟩; refine ⟨_, rfl, ?_⟩; have n0_ := Aside0.mk (Kd.R_lower ho0 (below_size (by repeat (first | (with_reducible first | exact HB.out | apply below_alloc | apply pw_below_drewN | apply below_drew1 | refine below_set ?_ (IsS104.ge HI532.out)) | exact HB.out)))); have n1_ := Aside0.mk (Kd.Q_lower ho1 (below_size (by repeat (first | (with_reducible first | exact HB.out | apply below_alloc | apply pw_below_drewN | apply below_drew1 | refine below_set ?_ (IsS104.ge HI532.out)) | exact HB.out)))); have n2_ := Aside0.mk (hb); have n3_ := Aside0.mk (hi); clear HB; clear HI532; have HO535 := n0_; have HO538 := n1_; have HB := n2_; have HI532 := n3_; clear n0_ n1_ n2_ n3_; (try clear hb); (try clear hb2); (try clear hk); (try clear hi); (try clear ho0); (try clear ho1); obtain ⟨Ao21, co21, eo21⟩ := Kd.R_slice HO535.out; subst eo21; obtain ⟨Ao22, co22, eo22, _⟩ := Kd.Q_slice HO538.out; subst eo22) | ((with_reducible refine gate_callee (f := 11) rfl ?_); refine goesL_ (some 18) rfl rfl Tryd.func11 (by kernel_rfl) rfl #[.slice Ao21 t533.length co21, .slice Ao22 t536.length co22] rfl (by (try simp only [List.map_toArray, List.map_cons, List.map_nil]); first | done | rfl | (simp only [List.length_drop, List.length_take]; rfl)) ?_; (with_reducible refine (spec_GroupsNames.calls k _ _ t533 _ _ t536 t540 _ ?side1 ?side2 ?side3 ?side4 A4.out).mono ?_); (case side1 => repeat (first | exact (Kd.R_reads' HO535.out).2.2 | (with_reducible refine Kd.C_alloc ?_ _) | (with_reducible refine Kd.C_drewN ?_ _) | (with_reducible refine Kd.C_drew ?_))); (case side2 => exact (Kd.R_reads' HO535.out).2.1); (case side3 => repeat (first | exact (Kd.Q_reads' HO538.out).2.2 | (with_reducible refine Kd.C_alloc ?_ _) | (with_reducible refine Kd.C_drewN ?_ _) | (with_reducible refine Kd.C_drew ?_))); (case side4 => exact (Kd.Q_reads' HO538.out).2.1); rintro e w23 ⟨rfl, hb⟩; refine ⟨_, rfl, ?_⟩; have n0_ := Aside0.mk (Kd.R_below (by (with_reducible repeat (first | apply Kd.R_alloc | apply Kd.R_drewN | apply Kd.R_drew)); exact HO535.out) hb); have n1_ := Aside0.mk (Kd.Q_below (by (with_reducible repeat (first | apply Kd.Q_alloc | apply Kd.Q_drewN | apply Kd.Q_drew)); exact HO538.out) hb); have n2_ := Aside0.mk (IsS104.below (by repeat (first | (with_reducible first | exact HI532.out | apply IsS104.alloc | apply IsS104.drewN | apply IsS104.drew | apply IsS104.set_1) | exact HI532.out)) hb); have n3_ := Aside0.mk (below_step (by repeat (first | (with_reducible first | exact HB.out | apply below_alloc | apply pw_below_drewN | apply below_drew1 | refine below_set ?_ (IsS104.ge HI532.out)) | exact HB.out)) hb); clear HO535; clear HO538; clear HI532; clear HB; have HO535 := n0_; have HO538 := n1_; have HI532 := n2_; have HB := n3_; clear n0_ n1_ n2_ n3_; (try clear hb); (try clear hb2); (try clear hk); (try clear hi)) | ((with_reducible refine gate_callee (f := 51) rfl ?_); refine goesL_ (some 20) rfl rfl Tryd.func51 (by kernel_rfl) rfl #[.pointer (some ⟨g532, 0, none⟩), .int .i64 4] rfl (by (try simp only [List.map_toArray, List.map_cons, List.map_nil]); first | done | rfl | (simp only [List.length_drop, List.length_take]; rfl)) ?_; (with_reducible refine (spec_l6Rd_pick.calls k g532 t530 t539 4 t541 t542 w _ ?side1 ?side2 A5.out).mono ?_); (case side1 => repeat (first | (with_reducible first | exact HI532.out | apply IsS104.alloc | apply IsS104.drewN | apply IsS104.drew | apply IsS104.set_1) | exact HI532.out)); (case side2 => repeat (first | (with_reducible first | exact HB.out | apply below_alloc | apply pw_below_drewN | apply below_drew1 | refine below_set ?_ (IsS104.ge HI532.out)) | exact HB.out)); rintro e w24 ⟨rfl, hi, hb, hk⟩; refine ⟨_, rfl, ?_⟩; have n0_ := Aside0.mk (Kd.R_mono (Kd.R_keep (IsS104.apart (show IsS104 w _ g532 t530 t539 from by repeat (first | (with_reducible first | exact HI532.out | apply IsS104.alloc | apply IsS104.drewN | apply IsS104.drew | apply IsS104.set_1) | exact HI532.out)) (by (with_reducible repeat (first | apply Kd.R_alloc | apply Kd.R_drewN | apply Kd.R_drew)); exact HO535.out) (by decide)) hk (fun _ h => h.2)) (fun _ h => h.1)); have n1_ := Aside0.mk (Kd.Q_mono (Kd.Q_keep (IsS104.apartQ (show IsS104 w _ g532 t530 t539 from by repeat (first | (with_reducible first | exact HI532.out | apply IsS104.alloc | apply IsS104.drewN | apply IsS104.drew | apply IsS104.set_1) | exact HI532.out)) (by (with_reducible repeat (first | apply Kd.Q_alloc | apply Kd.Q_drewN | apply Kd.Q_drew)); exact HO538.out) (by decide)) hk (fun _ h => h.2)) (fun _ h => h.1)); have n2_ := Aside0.mk (hb); have n3_ := Aside0.mk (hi); clear HO535; clear HO538; clear HB; clear HI532; have HO535 := n0_; have HO538 := n1_; have HB := n2_; have HI532 := n3_; clear n0_ n1_ n2_ n3_; (try clear hb); (try clear hb2); (try clear hk); (try clear hi)))
  go_ret3
  exact ⟨_, _, by first | rfl | (simp [errW_none, errW_some] <;> rfl) | (simp [*, errW_none, errW_some] <;> rfl), by (with_reducible repeat (first | apply Kd.R_alloc | apply Kd.R_drewN | apply Kd.R_drew)); exact HO535.out, by (with_reducible repeat (first | apply Kd.Q_alloc | apply Kd.Q_drewN | apply Kd.Q_drew)); exact HO538.out, by repeat (first | (with_reducible first | exact HB.out | apply below_alloc | apply pw_below_drewN | apply below_drew1 | refine below_set ?_ (IsS104.ge HI532.out)) | exact HB.out)⟩
 rw [if_pos c6] at H
 have c6b0 : (t541 == 0) = true := beq_iff_eq.mpr c6
 have c6b1 : (t541 != 0) = false := bne_eq_false_iff_eq.mpr c6
 clear c6
 obtain ⟨y543, hy543⟩ : ∃ y_ : List ByteArray, y_ = (([(⟨#[32]⟩ : ByteArray), (⟨#[112, 117, 110, 99, 116, 117, 109]⟩ : ByteArray), (⟨#[32, 112, 101, 115]⟩ : ByteArray)] : List ByteArray)) := ⟨_, rfl⟩
 replace H : ((spec_l6Rd_of.f k t530 t542 y543).bind fun bt546 => (if t540.size + bt546.1.size ≤ 9223372036854775807 then (some (t533, t536, t540 ++ bt546.1)) else (none))) = some (r1, r2, r3) := by first | (rw [hy543]; with_reducible exact H) | (have H2_ := (Option.bind_some _ _).symm.trans H; rw [hy543]; with_reducible exact H2_) | (have H2_ := (Option.bind_some _ _).symm.trans H; with_reducible exact H2_) | with_reducible exact H | (rw [hy543]; exact H) | exact H
 have Ny543 := Aside0.mk hy543
 clear hy543
 replace H := Option.bind_eq_some_iff.mp H
 obtain ⟨⟨t546, t547⟩, A70, H⟩ := H
 replace H : (if t540.size + t546.size ≤ 9223372036854775807 then (some (t533, t536, t540 ++ t546)) else (none)) = some (r1, r2, r3) := H
 have A7 := Aside0.mk A70
 clear A70
 by_cases c8 : t540.size + t546.size ≤ 9223372036854775807
 rotate_left
 ·rw [if_neg c8] at H
  exact absurd H (by simp)
 rw [if_pos c8] at H
 have c8b0 := eq_true c8
 have c8b1 : decide (t540.size + t546.size ≤ 9223372036854775807) = true := decide_eq_true c8
 try have c8b2 : (9223372036854775807 < t540.size + t546.size) = False := eq_false (Nat.not_lt.2 c8)
 simp only [Option.some.injEq, Prod.mk.injEq] at H
 obtain ⟨rfl, rfl, rfl⟩ := H
 go_enter Tryd.func31, Tryd.ntmps31
 go_wp2_with (first | ((with_reducible refine gate_callee (f := 44) rfl ?_); refine goesL_ (some 10) rfl rfl Tryd.func44 (by kernel_rfl) rfl #[.slice A0 l0.length c0] rfl (by (try simp only [List.map_toArray, List.map_cons, List.map_nil]); first | done | rfl | (simp only [List.length_drop, List.length_take]; rfl)) ?_; (with_reducible refine (spec_l6Open.calls _ _ l0 t530 t531 w _ ?side1 ?side2 ?side3 A2.out).mono ?_); (case side1 => repeat (first | (with_reducible first | exact HB.out | apply below_alloc | apply pw_below_drewN | apply below_drew1) | exact HB.out)); (case side2 => exact HR0.out); (case side3 => exact HC0.out); rintro e w9 ⟨g532, rfl, hi, hb, hb2⟩; refine ⟨_, rfl, ?_⟩; have n0_ := Aside0.mk (hb); have n1_ := Aside0.mk (hi); clear HB; have HB := n0_; have HI532 := n1_; clear n0_ n1_; (try clear hb); (try clear hb2); (try clear hk); (try clear hi)) | ((with_reducible refine gate_callee (f := 43) rfl ?_); refine goesL_ (some 13) rfl rfl Tryd.func43 (by kernel_rfl) rfl #[.pointer (some ⟨g532, 0, none⟩)] rfl (by (try simp only [List.map_toArray, List.map_cons, List.map_nil]); first | done | rfl | (simp only [List.length_drop, List.length_take]; rfl)) ?_; (with_reducible refine (spec_l91Groups.calls k g532 t530 t531 t533 t536 t539 w _ ?side1 ?side2 A3.out).mono ?_); (case side1 => repeat (first | (with_reducible first | exact HI532.out | apply IsS104.alloc | apply IsS104.drewN | apply IsS104.drew | apply IsS104.set_1) | exact HI532.out)); (case side2 => repeat (first | (with_reducible first | exact HB.out | apply below_alloc | apply pw_below_drewN | apply below_drew1 | refine below_set ?_ (IsS104.ge HI532.out)) | exact HB.out)); rintro e w10 ⟨v534, v537, rfl, ho0, ho1, hi, hb, hk⟩; refine ⟨_, rfl, ?_⟩; have n0_ := Aside0.mk (Kd.R_lower ho0 (below_size (by repeat (first | (with_reducible first | exact HB.out | apply below_alloc | apply pw_below_drewN | apply below_drew1 | refine below_set ?_ (IsS104.ge HI532.out)) | exact HB.out)))); have n1_ := Aside0.mk (Kd.Q_lower ho1 (below_size (by repeat (first | (with_reducible first | exact HB.out | apply below_alloc | apply pw_below_drewN | apply below_drew1 | refine below_set ?_ (IsS104.ge HI532.out)) | exact HB.out)))); have n2_ := Aside0.mk (hb); have n3_ := Aside0.mk (hi); clear HB; clear HI532; have HO535 := n0_; have HO538 := n1_; have HB := n2_; have HI532 := n3_; clear n0_ n1_ n2_ n3_; (try clear hb); (try clear hb2); (try clear hk); (try clear hi); (try clear ho0); (try clear ho1); obtain ⟨Ao11, co11, eo11⟩ := Kd.R_slice HO535.out; subst eo11; obtain ⟨Ao12, co12, eo12, _⟩ := Kd.Q_slice HO538.out; subst eo12) | ((with_reducible refine gate_callee (f := 11) rfl ?_); refine goesL_ (some 18) rfl rfl Tryd.func11 (by kernel_rfl) rfl #[.slice Ao11 t533.length co11, .slice Ao12 t536.length co12] rfl (by (try simp only [List.map_toArray, List.map_cons, List.map_nil]); first | done | rfl | (simp only [List.length_drop, List.length_take]; rfl)) ?_; (with_reducible refine (spec_GroupsNames.calls k _ _ t533 _ _ t536 t540 _ ?side1 ?side2 ?side3 ?side4 A4.out).mono ?_); (case side1 => repeat (first | exact (Kd.R_reads' HO535.out).2.2 | (with_reducible refine Kd.C_alloc ?_ _) | (with_reducible refine Kd.C_drewN ?_ _) | (with_reducible refine Kd.C_drew ?_))); (case side2 => exact (Kd.R_reads' HO535.out).2.1); (case side3 => repeat (first | exact (Kd.Q_reads' HO538.out).2.2 | (with_reducible refine Kd.C_alloc ?_ _) | (with_reducible refine Kd.C_drewN ?_ _) | (with_reducible refine Kd.C_drew ?_))); (case side4 => exact (Kd.Q_reads' HO538.out).2.1); rintro e w13 ⟨rfl, hb⟩; refine ⟨_, rfl, ?_⟩; have n0_ := Aside0.mk (Kd.R_below (by (with_reducible repeat (first | apply Kd.R_alloc | apply Kd.R_drewN | apply Kd.R_drew)); exact HO535.out) hb); have n1_ := Aside0.mk (Kd.Q_below (by (with_reducible repeat (first | apply Kd.Q_alloc | apply Kd.Q_drewN | apply Kd.Q_drew)); exact HO538.out) hb); have n2_ := Aside0.mk (IsS104.below (by repeat (first | (with_reducible first | exact HI532.out | apply IsS104.alloc | apply IsS104.drewN | apply IsS104.drew | apply IsS104.set_1) | exact HI532.out)) hb); have n3_ := Aside0.mk (below_step (by repeat (first | (with_reducible first | exact HB.out | apply below_alloc | apply pw_below_drewN | apply below_drew1 | refine below_set ?_ (IsS104.ge HI532.out)) | exact HB.out)) hb); clear HO535; clear HO538; clear HI532; clear HB; have HO535 := n0_; have HO538 := n1_; have HI532 := n2_; have HB := n3_; clear n0_ n1_ n2_ n3_; (try clear hb); (try clear hb2); (try clear hk); (try clear hi)) | ((with_reducible refine gate_callee (f := 51) rfl ?_); refine goesL_ (some 20) rfl rfl Tryd.func51 (by kernel_rfl) rfl #[.pointer (some ⟨g532, 0, none⟩), .int .i64 4] rfl (by (try simp only [List.map_toArray, List.map_cons, List.map_nil]); first | done | rfl | (simp only [List.length_drop, List.length_take]; rfl)) ?_; (with_reducible refine (spec_l6Rd_pick.calls k g532 t530 t539 4 t541 t542 w _ ?side1 ?side2 A5.out).mono ?_); (case side1 => repeat (first | (with_reducible first | exact HI532.out | apply IsS104.alloc | apply IsS104.drewN | apply IsS104.drew | apply IsS104.set_1) | exact HI532.out)); (case side2 => repeat (first | (with_reducible first | exact HB.out | apply below_alloc | apply pw_below_drewN | apply below_drew1 | refine below_set ?_ (IsS104.ge HI532.out)) | exact HB.out)); rintro e w14 ⟨rfl, hi, hb, hk⟩; refine ⟨_, rfl, ?_⟩; have n0_ := Aside0.mk (Kd.R_mono (Kd.R_keep (IsS104.apart (show IsS104 w _ g532 t530 t539 from by repeat (first | (with_reducible first | exact HI532.out | apply IsS104.alloc | apply IsS104.drewN | apply IsS104.drew | apply IsS104.set_1) | exact HI532.out)) (by (with_reducible repeat (first | apply Kd.R_alloc | apply Kd.R_drewN | apply Kd.R_drew)); exact HO535.out) (by decide)) hk (fun _ h => h.2)) (fun _ h => h.1)); have n1_ := Aside0.mk (Kd.Q_mono (Kd.Q_keep (IsS104.apartQ (show IsS104 w _ g532 t530 t539 from by repeat (first | (with_reducible first | exact HI532.out | apply IsS104.alloc | apply IsS104.drewN | apply IsS104.drew | apply IsS104.set_1) | exact HI532.out)) (by (with_reducible repeat (first | apply Kd.Q_alloc | apply Kd.Q_drewN | apply Kd.Q_drew)); exact HO538.out) (by decide)) hk (fun _ h => h.2)) (fun _ h => h.1)); have n2_ := Aside0.mk (hb); have n3_ := Aside0.mk (hi); clear HO535; clear HO538; clear HB; clear HI532; have HO535 := n0_; have HO538 := n1_; have HB := n2_; have HI532 := n3_; clear n0_ n1_ n2_ n3_; (try clear hb); (try clear hb2); (try clear hk); (try clear hi)) | ((with_reducible refine gate_dst (N := 26) rfl ?_); refine Kd.R_lit Kd.string _ 9 ?hg (N := 26) ?hd (xs := ([(⟨#[32]⟩ : ByteArray), (⟨#[112, 117, 110, 99, 116, 117, 109]⟩ : ByteArray), (⟨#[32, 112, 101, 115]⟩ : ByteArray)] : List ByteArray)) (inner := [.string (⟨#[32]⟩ : ByteArray), .string (⟨#[112, 117, 110, 99, 116, 117, 109]⟩ : ByteArray), .string (⟨#[32, 112, 101, 115]⟩ : ByteArray)]) (ok := fun _ => True) (okp := fun _ => True) ?hr ?hp (fun _ hk => hk) trivial (Below.refl _ _) (Nat.le_refl _) (by simp) ?_; (case hd => rfl); (case hg => rfl); (case hr => first | (go_simp; done) | (go_simp; rfl)); (case hp => exact (Reps.one (show Kd.M Kd.string _ _ _ (⟨#[32]⟩ : ByteArray) [.string (⟨#[32]⟩ : ByteArray)] from rfl) (Reps.one (show Kd.M Kd.string _ _ _ (⟨#[112, 117, 110, 99, 116, 117, 109]⟩ : ByteArray) [.string (⟨#[112, 117, 110, 99, 116, 117, 109]⟩ : ByteArray)] from rfl) (Reps.one (show Kd.M Kd.string _ _ _ (⟨#[32, 112, 101, 115]⟩ : ByteArray) [.string (⟨#[32, 112, 101, 115]⟩ : ByteArray)] from rfl) (Reps.none _ _))))); intro v544 w15 ho16 hb hg_ hnew_; clear hg_ hnew_; (first | rw [← Ny543.out] at ho16 | (simp only [Int.reduceToNat] at ho16; rw [← Ny543.out] at ho16)); have n0_ := Aside0.mk (Kd.R_below (by (with_reducible repeat (first | apply Kd.R_alloc | apply Kd.R_drewN | apply Kd.R_drew)); exact HO535.out) hb); have n1_ := Aside0.mk (Kd.Q_below (by (with_reducible repeat (first | apply Kd.Q_alloc | apply Kd.Q_drewN | apply Kd.Q_drew)); exact HO538.out) hb); have n2_ := Aside0.mk (Kd.R_lower ho16 (below_size (by repeat (first | (with_reducible first | exact HB.out | apply below_alloc | apply pw_below_drewN | apply below_drew1 | refine below_set ?_ (IsS104.ge HI532.out)) | exact HB.out)))); have n3_ := Aside0.mk (IsS104.below (by repeat (first | (with_reducible first | exact HI532.out | apply IsS104.alloc | apply IsS104.drewN | apply IsS104.drew | apply IsS104.set_1) | exact HI532.out)) hb); have n4_ := Aside0.mk (below_step (by repeat (first | (with_reducible first | exact HB.out | apply below_alloc | apply pw_below_drewN | apply below_drew1 | refine below_set ?_ (IsS104.ge HI532.out)) | exact HB.out)) hb); clear HO535; clear HO538; clear HI532; clear HB; have HO535 := n0_; have HO538 := n1_; have HO545 := n2_; have HI532 := n3_; have HB := n4_; clear n0_ n1_ n2_ n3_ n4_; clear hb ho16; obtain ⟨Ao17, co17, eo17⟩ := Kd.R_slice HO545.out; subst eo17) | ((with_reducible refine gate_callee (f := 52) rfl ?_); refine goesL_ (some 27) rfl rfl Tryd.func52 (by kernel_rfl) rfl #[.pointer (some ⟨g532, 0, none⟩), .slice Ao17 y543.length co17] rfl (by (try simp only [List.map_toArray, List.map_cons, List.map_nil]); first | done | rfl | (simp only [List.length_drop, List.length_take]; rfl)) ?_; (with_reducible refine (spec_l6Rd_of.calls k g532 t530 t542 _ _ y543 t546 t547 w _ ?side1 ?side2 ?side3 ?side4 ?side5 A7.out).mono ?_); (case side1 => repeat (first | (with_reducible first | exact HI532.out | apply IsS104.alloc | apply IsS104.drewN | apply IsS104.drew | apply IsS104.set_1) | exact HI532.out)); (case side2 => repeat (first | (with_reducible first | exact HB.out | apply below_alloc | apply pw_below_drewN | apply below_drew1 | refine below_set ?_ (IsS104.ge HI532.out)) | exact HB.out)); (case side3 => repeat (first | exact (Kd.R_reads' HO545.out).2.2 | (with_reducible refine Kd.C_alloc ?_ _) | (with_reducible refine Kd.C_drewN ?_ _) | (with_reducible refine Kd.C_drew ?_))); (case side4 => exact (Kd.R_reads' HO545.out).2.1); (case side5 => exact far_slice (IsS104.own_ne HI532.out HO545.out (by decide))); rintro e w18 ⟨rfl, hi, hb, hk⟩; refine ⟨_, rfl, ?_⟩; have n0_ := Aside0.mk (Kd.R_mono (Kd.R_keep (IsS104.apart (show IsS104 w _ g532 t530 t542 from by repeat (first | (with_reducible first | exact HI532.out | apply IsS104.alloc | apply IsS104.drewN | apply IsS104.drew | apply IsS104.set_1) | exact HI532.out)) (by (with_reducible repeat (first | apply Kd.R_alloc | apply Kd.R_drewN | apply Kd.R_drew)); exact HO535.out) (by decide)) hk (fun _ h => h.2)) (fun _ h => h.1)); have n1_ := Aside0.mk (Kd.Q_mono (Kd.Q_keep (IsS104.apartQ (show IsS104 w _ g532 t530 t542 from by repeat (first | (with_reducible first | exact HI532.out | apply IsS104.alloc | apply IsS104.drewN | apply IsS104.drew | apply IsS104.set_1) | exact HI532.out)) (by (with_reducible repeat (first | apply Kd.Q_alloc | apply Kd.Q_drewN | apply Kd.Q_drew)); exact HO538.out) (by decide)) hk (fun _ h => h.2)) (fun _ h => h.1)); have n2_ := Aside0.mk (Kd.R_mono (Kd.R_keep (IsS104.apart (show IsS104 w _ g532 t530 t542 from by repeat (first | (with_reducible first | exact HI532.out | apply IsS104.alloc | apply IsS104.drewN | apply IsS104.drew | apply IsS104.set_1) | exact HI532.out)) (by (with_reducible repeat (first | apply Kd.R_alloc | apply Kd.R_drewN | apply Kd.R_drew)); exact HO545.out) (by decide)) hk (fun _ h => h.2)) (fun _ h => h.1)); have n3_ := Aside0.mk (hb); have n4_ := Aside0.mk (hi); clear HO535; clear HO538; clear HO545; clear HB; clear HI532; have HO535 := n0_; have HO538 := n1_; have HO545 := n2_; have HB := n3_; have HI532 := n4_; clear n0_ n1_ n2_ n3_ n4_; (try clear hb); (try clear hb2); (try clear hk); (try clear hi)))
 go_ret3
 exact ⟨_, _, by first | rfl | (simp [errW_none, errW_some] <;> rfl) | (simp [*, errW_none, errW_some] <;> rfl), by (with_reducible repeat (first | apply Kd.R_alloc | apply Kd.R_drewN | apply Kd.R_drew)); exact HO535.out, by (with_reducible repeat (first | apply Kd.Q_alloc | apply Kd.Q_drewN | apply Kd.Q_drew)); exact HO538.out, by repeat (first | (with_reducible first | exact HB.out | apply below_alloc | apply pw_below_drewN | apply below_drew1 | refine below_set ?_ (IsS104.ge HI532.out)) | exact HB.out)⟩
end Go.Proofs.YtldepdaglapdeaaDoor.E
end
section
namespace Go.Proofs.YtldepdaglapdeaaDoor.E
open Go.RowKit Go.Proofs.YtldepdaglapdeaaDoorW.PrintWords Go.Proofs.YtldepdaglapdeaaDoorW.PrintLast Go.Proofs.YtldepdaglapdeaaDoorW.PrintMore
attribute [local go_sem] max2_int min2_int max_two min_two max_three min_three max_four min_four
set_option linter.unusedVariables false
set_option linter.unusedSimpArgs false
attribute [local go_sem] str_leq_ str_gtr_ str_geq_
mutual
def laws_FnGroupsRead.j0 : Nat → List Int → List Int → Bool → Option (Bool)
 | 0, _, _, _ => none
 | k + 1, x0, x1, x19 => if x19 = true then (some true) else ((spec_DrawGroupsRead.f k x0).bind fun bt548 => ((impl_GroupsRead.f k bt548.1 bt548.2.1 bt548.2.2).bind fun t555 => ((spec_GroupsRead.f k bt548.1 bt548.2.1 bt548.2.2).bind fun t556 => (if (t555 != t556) = true then (laws_FnGroupsRead.j1 k x1 bt548.1 bt548.2.1 bt548.2.2 t555 t556 true) else (laws_FnGroupsRead.j1 k x1 bt548.1 bt548.2.1 bt548.2.2 t555 t556 (!t555))))))
def laws_FnGroupsRead.j1 : Nat → List Int → List (S56) → List (S42) → ByteArray → Bool → Bool → Bool → Option (Bool)
 | 0, _, _, _, _, _, _, _ => none
 | k + 1, x1, x5, x6, x7, x8, x9, x40 => if x40 = true then (some (x8 == x9)) else (if (x6.length : Int) = 0 then (if x7.toList = ([] : List UInt8) then (some ((x5.length : Int) == 0)) else (none)) else ((some (([] : List (S42)) : List (S42))).bind fun y557 => (if y557.length + x6.length < 8796093022208 then ((some (y557 ++ x6 : List (S42))).bind fun y560 => (if 0 ≤ ((x1.length : Int) % (x6.length : Int)) then (if ((x1.length : Int) % (x6.length : Int)) < (y560.length : Int) then (if x7.size + 4 ≤ 9223372036854775807 then ((impl_GroupsRead.f k x5 x6 (x7 ++ (⟨#[32, 112, 101, 115]⟩ : ByteArray))).bind fun t565 => (if t565 = true then (none) else ((impl_GroupsRead.f k x5 (y560.set (((x1.length : Int) % (x6.length : Int)) : Int).toNat (⟨(rd_T42 y560 ((x1.length : Int) % (x6.length : Int))).f0, !((rd_T42 y560 ((x1.length : Int) % (x6.length : Int))).f1)⟩ : S42)) x7).bind fun t566 => (some (!t566))))) else (none)) else (none)) else (none))) else (none))))
end
def laws_FnGroupsRead.f (k : Nat) (l0 : List Int) (l1 : List Int) : Option (Bool) := if (l0.length : Int) > 1048576 then (laws_FnGroupsRead.j0 k l0 l1 true) else (laws_FnGroupsRead.j0 k l0 l1 (decide ((l1.length : Int) > 1048576)))
set_option maxHeartbeats 8000000 in
set_option maxRecDepth 100000 in
theorem laws_FnGroupsRead.calls (k : Nat) (A0 : Option Addr) (c0 : Nat) (l0 : List Int) (A1 : Option Addr) (c1 : Nat) (l1 : List Int) (r : Bool) (w : World) (hr0 : Kd.C (Kd.int .u8) w A0 l0.length l0) (hc0 : l0.length ≤ c0) (hr1 : Kd.C (Kd.int .u8) w A1 l1.length l1) (hc1 : l1.length ≤ c1) (hG : GOk [0] w) (h : laws_FnGroupsRead.f k l0 l1 = some r) :
  Calls Tryd.prog 8 #[.slice A0 l0.length c0, .slice A1 l1.length c1] w fun e w' => e = .returned (.bool r) ∧ Below w.heap.size w w' := by
 have HR0 := Aside0.mk hr0
 have HC0 := Aside0.mk hc0
 clear hr0 hc0
 have HR1 := Aside0.mk hr1
 have HC1 := Aside0.mk hc1
 clear hr1 hc1
 have HB := Aside0.mk (Below.refl w.heap.size w)
 have HG := Aside0.mk hG
 clear hG
 have H : (if (l0.length : Int) > 1048576 then (laws_FnGroupsRead.j0 k l0 l1 true) else (laws_FnGroupsRead.j0 k l0 l1 (decide ((l1.length : Int) > 1048576)))) = some r := h
 clear h
 have HC3 := Aside0.mk H
 clear H
 go_enter Tryd.func8, Tryd.ntmps8
 go_upto_region 1 with (fail)
 go_cut [19] (fun v19 wc => ∃ (kq : Nat) (x19_2 : Bool), v19 = .bool x19_2 ∧ Aside0 (laws_FnGroupsRead.j0 kq l0 l1 x19_2 = some r) ∧ Aside0 (kq ≤ k) ∧ Aside0 (Below w.heap.size w wc))
 case first =>
  have H := HC3.out
  clear HC3
  by_cases c4 : (l0.length : Int) > 1048576
  rotate_left
  ·rw [if_neg c4] at H
   have c4b0 : decide (1048576 < (l0.length : Int)) = false := decide_eq_false c4
   have c4b1 : decide (1048576 < l0.length) = false := decide_eq_false (by omega)
   clear c4
   (first | rw [c4b0] | (simp only [i64_w, i32_w]; rw [c4b0]) | skip)
   have H' := Aside0.mk H
   clear H
   go_wp2
   go_meet
   case rel => exact ⟨_, (decide ((l1.length : Int) > 1048576)), (by first | rfl | (simp; done) | (simp [*]; done)), H', ⟨by first | omega | exact Nat.le_refl _⟩, ⟨by repeat (first | (with_reducible first | exact HB.out | apply below_alloc | apply pw_below_drewN | apply below_drew1) | exact HB.out)⟩⟩
  rw [if_pos c4] at H
  have c4b0 : decide (1048576 < (l0.length : Int)) = true := decide_eq_true c4
  have c4b1 : decide (1048576 < l0.length) = true := decide_eq_true (by omega)
  clear c4
  (first | rw [c4b0] | (simp only [i64_w, i32_w]; rw [c4b0]) | skip)
  have H' := Aside0.mk H
  clear H
  go_wp2
  go_meet
  case rel => exact ⟨_, (true), (by first | rfl | (simp; done) | (simp [*]; done)), H', ⟨by first | omega | exact Nat.le_refl _⟩, ⟨by repeat (first | (with_reducible first | exact HB.out | apply below_alloc | apply pw_below_drewN | apply below_drew1) | exact HB.out)⟩⟩
 case rest =>
  clear HC3
  try clear c1
  try clear p2
  try clear c4
  try clear c4b0
  try clear c4b1
  obtain ⟨kq, x19_2, rfl, HA, HJ2, HB⟩ := hcut
  cases kq with
  | zero => exact absurd HA.out (by simp [laws_FnGroupsRead.j0])
  | succ kj2 =>
   have H := HA.out
   clear HA
   simp only [laws_FnGroupsRead.j0] at H
   by_cases c5 : x19_2 = true
   ·subst c5
    have H1 : (some true) = some r := by rw [if_pos rfl] at H; exact H
    clear H
    have H := H1
    clear H1
    obtain rfl := Option.some.inj H
    go_wp2
    go_ret
    exact ⟨by first | rfl | (simp [errW_none, errW_some] <;> rfl) | (simp [*, errW_none, errW_some] <;> rfl), by repeat (first | (with_reducible first | exact HB.out | apply below_alloc | apply pw_below_drewN | apply below_drew1) | exact HB.out)⟩
   replace c5 := Bool.eq_false_iff.mpr c5
   subst c5
   have H1 : ((spec_DrawGroupsRead.f kj2 l0).bind fun bt548 => ((impl_GroupsRead.f kj2 bt548.1 bt548.2.1 bt548.2.2).bind fun t555 => ((spec_GroupsRead.f kj2 bt548.1 bt548.2.1 bt548.2.2).bind fun t556 => (if (t555 != t556) = true then (laws_FnGroupsRead.j1 kj2 l1 bt548.1 bt548.2.1 bt548.2.2 t555 t556 true) else (laws_FnGroupsRead.j1 kj2 l1 bt548.1 bt548.2.1 bt548.2.2 t555 t556 (!t555)))))) = some r := by rw [if_neg (show ¬ (false = true) by decide)] at H; exact H
   clear H
   have H := H1
   clear H1
   replace H := Option.bind_eq_some_iff.mp H
   obtain ⟨⟨t548, t549, t550⟩, A60, H⟩ := H
   replace H : ((impl_GroupsRead.f kj2 t548 t549 t550).bind fun t555 => ((spec_GroupsRead.f kj2 t548 t549 t550).bind fun t556 => (if (t555 != t556) = true then (laws_FnGroupsRead.j1 kj2 l1 t548 t549 t550 t555 t556 true) else (laws_FnGroupsRead.j1 kj2 l1 t548 t549 t550 t555 t556 (!t555))))) = some r := H
   have A6 := Aside0.mk A60
   clear A60
   replace H := Option.bind_eq_some_iff.mp H
   obtain ⟨t555, A70, H⟩ := H
   replace H : ((spec_GroupsRead.f kj2 t548 t549 t550).bind fun t556 => (if (t555 != t556) = true then (laws_FnGroupsRead.j1 kj2 l1 t548 t549 t550 t555 t556 true) else (laws_FnGroupsRead.j1 kj2 l1 t548 t549 t550 t555 t556 (!t555)))) = some r := H
   have A7 := Aside0.mk A70
   clear A70
   replace H := Option.bind_eq_some_iff.mp H
   obtain ⟨t556, A80, H⟩ := H
   replace H : (if (t555 != t556) = true then (laws_FnGroupsRead.j1 kj2 l1 t548 t549 t550 t555 t556 true) else (laws_FnGroupsRead.j1 kj2 l1 t548 t549 t550 t555 t556 (!t555))) = some r := H
   have A8 := Aside0.mk A80
   clear A80
   have HC9 := Aside0.mk H
   clear H
   go_upto_region 6 with (first | ((with_reducible refine gate_callee (f := 31) rfl ?_); refine goesL_ (some 22) rfl rfl Tryd.func31 (by kernel_rfl) rfl #[.slice A0 l0.length c0] rfl (by (try simp only [List.map_toArray, List.map_cons, List.map_nil]); first | done | rfl | (simp only [List.length_drop, List.length_take]; rfl)) ?_; (with_reducible refine (spec_DrawGroupsRead.calls kj2 _ _ l0 t548 t549 t550 _ ?side1 ?side2 A6.out).mono ?_); (case side1 => repeat (first | exact (Kd.C_below HR0.out HB.out) | (with_reducible refine Kd.C_alloc ?_ _) | (with_reducible refine Kd.C_drewN ?_ _) | (with_reducible refine Kd.C_drew ?_))); (case side2 => exact HC0.out); rintro e w10 ⟨v551, v553, rfl, ho0, ho1, hb⟩; refine ⟨_, rfl, ?_⟩; have n0_ := Aside0.mk (Kd.R_lower ho0 (below_size (by repeat (first | (with_reducible first | exact HB.out | apply below_alloc | apply pw_below_drewN | apply below_drew1) | exact HB.out)))); have n1_ := Aside0.mk (Kd.Q_lower ho1 (below_size (by repeat (first | (with_reducible first | exact HB.out | apply below_alloc | apply pw_below_drewN | apply below_drew1) | exact HB.out)))); have n2_ := Aside0.mk (below_step (by repeat (first | (with_reducible first | exact HB.out | apply below_alloc | apply pw_below_drewN | apply below_drew1) | exact HB.out)) hb); clear HB; have HO552 := n0_; have HO554 := n1_; have HB := n2_; clear n0_ n1_ n2_; (try clear hb); (try clear hb2); (try clear hk); (try clear hi); (try clear ho0); (try clear ho1); obtain ⟨Ao11, co11, eo11⟩ := Kd.R_slice HO552.out; subst eo11; obtain ⟨Ao12, co12, eo12, _⟩ := Kd.Q_slice HO554.out; subst eo12) | ((with_reducible refine gate_callee (f := 18) rfl ?_); refine goesL_ (some 29) rfl rfl Tryd.func18 (by kernel_rfl) rfl #[.slice Ao11 t548.length co11, .slice Ao12 t549.length co12, .string t550] rfl (by (try simp only [List.map_toArray, List.map_cons, List.map_nil]); first | done | rfl | (simp only [List.length_drop, List.length_take]; rfl)) ?_; (with_reducible refine (impl_GroupsRead.calls kj2 _ _ t548 _ _ t549 t550 t555 _ ?side1 ?side2 ?side3 ?side4 ?side5 A7.out).mono ?_); (case side1 => repeat (first | exact (Kd.R_reads' HO552.out).2.2 | (with_reducible refine Kd.C_alloc ?_ _) | (with_reducible refine Kd.C_drewN ?_ _) | (with_reducible refine Kd.C_drew ?_))); (case side2 => exact (Kd.R_reads' HO552.out).2.1); (case side3 => repeat (first | exact (Kd.Q_reads' HO554.out).2.2 | (with_reducible refine Kd.C_alloc ?_ _) | (with_reducible refine Kd.C_drewN ?_ _) | (with_reducible refine Kd.C_drew ?_))); (case side4 => exact (Kd.Q_reads' HO554.out).2.1); (case side5 => exact GOk.sub (GOk.below HG.out (by repeat (first | (with_reducible first | exact HB.out | apply below_alloc | apply pw_below_drewN | apply below_drew1) | exact HB.out))) (by decide)); rintro e w13 ⟨rfl, hb⟩; refine ⟨_, rfl, ?_⟩; have n0_ := Aside0.mk (Kd.R_below (by (with_reducible repeat (first | apply Kd.R_alloc | apply Kd.R_drewN | apply Kd.R_drew)); exact HO552.out) hb); have n1_ := Aside0.mk (Kd.Q_below (by (with_reducible repeat (first | apply Kd.Q_alloc | apply Kd.Q_drewN | apply Kd.Q_drew)); exact HO554.out) hb); have n2_ := Aside0.mk (below_step (by repeat (first | (with_reducible first | exact HB.out | apply below_alloc | apply pw_below_drewN | apply below_drew1) | exact HB.out)) hb); clear HO552; clear HO554; clear HB; have HO552 := n0_; have HO554 := n1_; have HB := n2_; clear n0_ n1_ n2_; (try clear hb); (try clear hb2); (try clear hk); (try clear hi)) | ((with_reducible refine gate_callee (f := 17) rfl ?_); refine goesL_ (some 33) rfl rfl Tryd.func17 (by kernel_rfl) rfl #[.slice Ao11 t548.length co11, .slice Ao12 t549.length co12, .string t550] rfl (by (try simp only [List.map_toArray, List.map_cons, List.map_nil]); first | done | rfl | (simp only [List.length_drop, List.length_take]; rfl)) ?_; (with_reducible refine (spec_GroupsRead.calls kj2 _ _ t548 _ _ t549 t550 t556 _ ?side1 ?side2 ?side3 ?side4 A8.out).mono ?_); (case side1 => repeat (first | exact (Kd.R_reads' HO552.out).2.2 | (with_reducible refine Kd.C_alloc ?_ _) | (with_reducible refine Kd.C_drewN ?_ _) | (with_reducible refine Kd.C_drew ?_))); (case side2 => exact (Kd.R_reads' HO552.out).2.1); (case side3 => repeat (first | exact (Kd.Q_reads' HO554.out).2.2 | (with_reducible refine Kd.C_alloc ?_ _) | (with_reducible refine Kd.C_drewN ?_ _) | (with_reducible refine Kd.C_drew ?_))); (case side4 => exact (Kd.Q_reads' HO554.out).2.1); rintro e w14 ⟨rfl, hb⟩; refine ⟨_, rfl, ?_⟩; have n0_ := Aside0.mk (Kd.R_below (by (with_reducible repeat (first | apply Kd.R_alloc | apply Kd.R_drewN | apply Kd.R_drew)); exact HO552.out) hb); have n1_ := Aside0.mk (Kd.Q_below (by (with_reducible repeat (first | apply Kd.Q_alloc | apply Kd.Q_drewN | apply Kd.Q_drew)); exact HO554.out) hb); have n2_ := Aside0.mk (below_step (by repeat (first | (with_reducible first | exact HB.out | apply below_alloc | apply pw_below_drewN | apply below_drew1) | exact HB.out)) hb); clear HO552; clear HO554; clear HB; have HO552 := n0_; have HO554 := n1_; have HB := n2_; clear n0_ n1_ n2_; (try clear hb); (try clear hb2); (try clear hk); (try clear hi)))
   (try simp only [Act.put, List.setIfInBounds_toArray, List.set_cons_zero, List.set_cons_succ])
   go_cut [40] (fun v40 wc => ∃ (kq : Nat) (x40_8 : Bool), v40 = .bool x40_8 ∧ Aside0 (laws_FnGroupsRead.j1 kq l1 t548 t549 t550 t555 t556 x40_8 = some r) ∧ Aside0 (kq ≤ kj2) ∧ Aside0 (Kd.R k56 56 wc w.heap.size (fun _ => True) (.slice Ao11 t548.length co11) t548) ∧ Aside0 (Kd.Q k42 42 wc w.heap.size (fun _ => True) (.slice Ao12 t549.length co12) t549) ∧ Aside0 (Below w.heap.size w wc))
   case first =>
    have H := HC9.out
    clear HC9
    by_cases c15 : (t555 != t556) = true
    rotate_left
    ·rw [if_neg c15] at H
     have c15b0 : (t555 != t556) = false := by simpa using c15
     (try (have c15b1 : decide (t555 = t556) = true := by simpa using c15))
     (try (have c15b2 : (t555 == t556) = true := by simpa using c15))
     clear c15
     (first | rw [c15b0] | (simp only [i64_w, i32_w]; rw [c15b0]) | skip)
     have H' := Aside0.mk H
     clear H
     go_wp2
     go_meet
     case rel => exact ⟨_, (!t555), (by first | rfl | (simp; done) | (simp [*]; done)), H', ⟨by have := HJ2.out; first | omega | exact Nat.le_refl _⟩, ⟨by (with_reducible repeat (first | apply Kd.R_alloc | apply Kd.R_drewN | apply Kd.R_drew)); exact HO552.out⟩, ⟨by (with_reducible repeat (first | apply Kd.Q_alloc | apply Kd.Q_drewN | apply Kd.Q_drew)); exact HO554.out⟩, ⟨by repeat (first | (with_reducible first | exact HB.out | apply below_alloc | apply pw_below_drewN | apply below_drew1) | exact HB.out)⟩⟩
    rw [if_pos c15] at H
    have c15b0 : (t555 != t556) = true := c15
    (try (have c15b1 : decide (t555 = t556) = false := by simpa using c15))
    (try (have c15b2 : (t555 == t556) = false := by simpa using c15))
    (try (have c15b3 : ¬ (t555 = t556) := by simpa using c15))
    clear c15
    (first | rw [c15b0] | (simp only [i64_w, i32_w]; rw [c15b0]) | skip)
    have H' := Aside0.mk H
    clear H
    go_wp2
    go_meet
    case rel => exact ⟨_, (true), (by first | rfl | (simp; done) | (simp [*]; done)), H', ⟨by have := HJ2.out; first | omega | exact Nat.le_refl _⟩, ⟨by (with_reducible repeat (first | apply Kd.R_alloc | apply Kd.R_drewN | apply Kd.R_drew)); exact HO552.out⟩, ⟨by (with_reducible repeat (first | apply Kd.Q_alloc | apply Kd.Q_drewN | apply Kd.Q_drew)); exact HO554.out⟩, ⟨by repeat (first | (with_reducible first | exact HB.out | apply below_alloc | apply pw_below_drewN | apply below_drew1) | exact HB.out)⟩⟩
   case rest =>
    clear HC9
    try clear c1
    try clear p2
    try clear c3
    try clear c4
    try clear c4b0
    try clear c4b1
    try clear c5
    try clear c8
    try clear c15
    try clear c15b0
    try clear c15b1
    try clear c15b2
    try clear p2
    obtain ⟨kq, x40_8, rfl, HA, HJ8, HO_5, HO_6, HB⟩ := hcut
    cases kq with
    | zero => exact absurd HA.out (by simp [laws_FnGroupsRead.j1])
    | succ kj8 =>
     have H := HA.out
     clear HA
     simp only [laws_FnGroupsRead.j1] at H
     by_cases c16 : x40_8 = true
     ·subst c16
      have H1 : (some (t555 == t556)) = some r := by rw [if_pos rfl] at H; exact H
      clear H
      have H := H1
      clear H1
      obtain rfl := Option.some.inj H
      go_wp2
      go_ret
      exact ⟨by first | rfl | (simp [errW_none, errW_some] <;> rfl) | (simp [*, errW_none, errW_some] <;> rfl), by repeat (first | (with_reducible first | exact HB.out | apply below_alloc | apply pw_below_drewN | apply below_drew1) | exact HB.out)⟩
     replace c16 := Bool.eq_false_iff.mpr c16
     subst c16
     have H1 : (if (t549.length : Int) = 0 then (if t550.toList = ([] : List UInt8) then (some ((t548.length : Int) == 0)) else (none)) else ((some (([] : List (S42)) : List (S42))).bind fun y557 => (if y557.length + t549.length < 8796093022208 then ((some (y557 ++ t549 : List (S42))).bind fun y560 => (if 0 ≤ ((l1.length : Int) % (t549.length : Int)) then (if ((l1.length : Int) % (t549.length : Int)) < (y560.length : Int) then (if t550.size + 4 ≤ 9223372036854775807 then ((impl_GroupsRead.f kj8 t548 t549 (t550 ++ (⟨#[32, 112, 101, 115]⟩ : ByteArray))).bind fun t565 => (if t565 = true then (none) else ((impl_GroupsRead.f kj8 t548 (y560.set (((l1.length : Int) % (t549.length : Int)) : Int).toNat (⟨(rd_T42 y560 ((l1.length : Int) % (t549.length : Int))).f0, !((rd_T42 y560 ((l1.length : Int) % (t549.length : Int))).f1)⟩ : S42)) t550).bind fun t566 => (some (!t566))))) else (none)) else (none)) else (none))) else (none)))) = some r := by rw [if_neg (show ¬ (false = true) by decide)] at H; exact H
     clear H
     have H := H1
     clear H1
     by_cases c17 : (t549.length : Int) = 0
     ·rw [if_pos c17] at H
      have c17b0 : ((t549.length : Int) == 0) = true := beq_iff_eq.mpr c17
      have c17b1 : ((t549.length : Int) != 0) = false := bne_eq_false_iff_eq.mpr c17
      clear c17
      by_cases c18 : t550.toList = ([] : List UInt8)
      rotate_left
      ·rw [if_neg c18] at H
       exact absurd H (by simp)
      rw [if_pos c18] at H
      have c18b0 : (t550.toList == ([] : List UInt8)) = true := beq_iff_eq.mpr c18
      have c18b1 : (t550.toList != ([] : List UInt8)) = false := bne_eq_false_iff_eq.mpr c18
      clear c18
      obtain rfl := Option.some.inj H
      go_wp2
      go_ret
      exact ⟨by first | rfl | (simp [errW_none, errW_some] <;> rfl) | (simp [*, errW_none, errW_some] <;> rfl), by repeat (first | (with_reducible first | exact HB.out | apply below_alloc | apply pw_below_drewN | apply below_drew1) | exact HB.out)⟩
     rw [if_neg c17] at H
     have c17b0 : ((t549.length : Int) == 0) = false := beq_eq_false_iff_ne.mpr c17
     have c17b1 : ((t549.length : Int) != 0) = true := bne_iff_ne.mpr c17
     have c17b2 : ¬ (t549 = []) := fun h_ => c17 (by rw [h_]; rfl)
     obtain ⟨y557, hy557⟩ : ∃ y_ : List (S42), y_ = (([] : List (S42))) := ⟨_, rfl⟩
     replace H : (if y557.length + t549.length < 8796093022208 then ((some (y557 ++ t549 : List (S42))).bind fun y560 => (if 0 ≤ ((l1.length : Int) % (t549.length : Int)) then (if ((l1.length : Int) % (t549.length : Int)) < (y560.length : Int) then (if t550.size + 4 ≤ 9223372036854775807 then ((impl_GroupsRead.f kj8 t548 t549 (t550 ++ (⟨#[32, 112, 101, 115]⟩ : ByteArray))).bind fun t565 => (if t565 = true then (none) else ((impl_GroupsRead.f kj8 t548 (y560.set (((l1.length : Int) % (t549.length : Int)) : Int).toNat (⟨(rd_T42 y560 ((l1.length : Int) % (t549.length : Int))).f0, !((rd_T42 y560 ((l1.length : Int) % (t549.length : Int))).f1)⟩ : S42)) t550).bind fun t566 => (some (!t566))))) else (none)) else (none)) else (none))) else (none)) = some r := by first | (rw [hy557]; with_reducible exact H) | (have H2_ := (Option.bind_some _ _).symm.trans H; rw [hy557]; with_reducible exact H2_) | (have H2_ := (Option.bind_some _ _).symm.trans H; with_reducible exact H2_) | with_reducible exact H | (rw [hy557]; exact H) | exact H
     have Ny557 := Aside0.mk hy557
     clear hy557
     by_cases c19 : y557.length + t549.length < 8796093022208
     rotate_left
     ·rw [if_neg c19] at H
      exact absurd H (by simp)
     rw [if_pos c19] at H
     have LMc19 := Aside0.mk c19
     clear c19
     obtain ⟨y560, hy560⟩ : ∃ y_ : List (S42), y_ = (y557 ++ t549) := ⟨_, rfl⟩
     replace H : (if 0 ≤ ((l1.length : Int) % (t549.length : Int)) then (if ((l1.length : Int) % (t549.length : Int)) < (y560.length : Int) then (if t550.size + 4 ≤ 9223372036854775807 then ((impl_GroupsRead.f kj8 t548 t549 (t550 ++ (⟨#[32, 112, 101, 115]⟩ : ByteArray))).bind fun t565 => (if t565 = true then (none) else ((impl_GroupsRead.f kj8 t548 (y560.set (((l1.length : Int) % (t549.length : Int)) : Int).toNat (⟨(rd_T42 y560 ((l1.length : Int) % (t549.length : Int))).f0, !((rd_T42 y560 ((l1.length : Int) % (t549.length : Int))).f1)⟩ : S42)) t550).bind fun t566 => (some (!t566))))) else (none)) else (none)) else (none)) = some r := by first | (rw [hy560]; with_reducible exact H) | (have H2_ := (Option.bind_some _ _).symm.trans H; rw [hy560]; with_reducible exact H2_) | (have H2_ := (Option.bind_some _ _).symm.trans H; with_reducible exact H2_) | with_reducible exact H | (rw [hy560]; exact H) | exact H
     have Ny560 := Aside0.mk hy560
     clear hy560
     obtain ⟨ji20, hji20⟩ : ∃ j_ : Int, ((l1.length : Int) % (t549.length : Int)) = j_ := ⟨_, rfl⟩
     replace H : (if 0 ≤ (ji20) then (if (ji20) < (y560.length : Int) then (if t550.size + 4 ≤ 9223372036854775807 then ((impl_GroupsRead.f kj8 t548 t549 (t550 ++ (⟨#[32, 112, 101, 115]⟩ : ByteArray))).bind fun t565 => (if t565 = true then (none) else ((impl_GroupsRead.f kj8 t548 (y560.set ((ji20) : Int).toNat (⟨(rd_T42 y560 (ji20)).f0, !((rd_T42 y560 (ji20)).f1)⟩ : S42)) t550).bind fun t566 => (some (!t566))))) else (none)) else (none)) else (none)) = some r := by first | (rw [hji20] at H; exact H) | (simp only [hji20] at H ⊢; exact H)
     by_cases c21 : 0 ≤ (ji20)
     rotate_left
     ·rw [if_neg c21] at H
      exact absurd H (by simp)
     rw [if_pos c21] at H
     have c21b0 : decide (0 ≤ (ji20)) = true := decide_eq_true c21
     clear c21
     by_cases c22 : (ji20) < (y560.length : Int)
     rotate_left
     ·rw [if_neg c22] at H
      exact absurd H (by simp)
     rw [if_pos c22] at H
     have c22b0 : decide ((ji20) < (y560.length : Int)) = true := decide_eq_true c22
     clear c22
     obtain ⟨y564, hy564⟩ : ∃ y_ : List (S42), y_ = (y560.set ((ji20) : Int).toNat (⟨(rd_T42 y560 (ji20)).f0, !((rd_T42 y560 (ji20)).f1)⟩ : S42)) := ⟨_, rfl⟩
     replace H : (if t550.size + 4 ≤ 9223372036854775807 then ((impl_GroupsRead.f kj8 t548 t549 (t550 ++ (⟨#[32, 112, 101, 115]⟩ : ByteArray))).bind fun t565 => (if t565 = true then (none) else ((impl_GroupsRead.f kj8 t548 y564 t550).bind fun t566 => (some (!t566))))) else (none)) = some r := by first | (rw [hy564]; with_reducible exact H) | (have H2_ := (Option.bind_some _ _).symm.trans H; rw [hy564]; with_reducible exact H2_) | (have H2_ := (Option.bind_some _ _).symm.trans H; with_reducible exact H2_) | with_reducible exact H | (rw [hy564]; exact H) | exact H
     have Ny564 := Aside0.mk hy564
     clear hy564
     by_cases c24 : t550.size + 4 ≤ 9223372036854775807
     rotate_left
     ·rw [if_neg c24] at H
      exact absurd H (by simp)
     rw [if_pos c24] at H
     have c24b0 := eq_true c24
     have c24b1 : decide (t550.size + 4 ≤ 9223372036854775807) = true := decide_eq_true c24
     try have c24b2 : (9223372036854775807 < t550.size + 4) = False := eq_false (Nat.not_lt.2 c24)
     replace H := Option.bind_eq_some_iff.mp H
     obtain ⟨t565, A250, H⟩ := H
     replace H : (if t565 = true then (none) else ((impl_GroupsRead.f kj8 t548 y564 t550).bind fun t566 => (some (!t566)))) = some r := H
     have A25 := Aside0.mk A250
     clear A250
     by_cases c26 : t565 = true
     ·subst c26
      have H1 : (none) = some r := by rw [if_pos rfl] at H; exact H
      clear H
      have H := H1
      clear H1
      exact absurd H (by simp)
     replace c26 := Bool.eq_false_iff.mpr c26
     subst c26
     have H1 : ((impl_GroupsRead.f kj8 t548 y564 t550).bind fun t566 => (some (!t566))) = some r := by rw [if_neg (show ¬ (false = true) by decide)] at H; exact H
     clear H
     have H := H1
     clear H1
     replace H := Option.bind_eq_some_iff.mp H
     obtain ⟨t566, A270, H⟩ := H
     replace H : (some (!t566)) = some r := H
     have A27 := Aside0.mk A270
     clear A270
     obtain rfl := Option.some.inj H
     go_wp2_with (first | ((with_reducible refine gate_dst (N := 59) rfl ?_); (try (refine gate_guard (by rfl) ?_; dsimp only)); refine Kd.R_lit k42 _ 42 ?hg (N := 59) ?hd (xs := ([] : List (S42))) (inner := []) (ok := fun _ => True) (okp := fun _ => True) ?hr ?hp (fun _ hk => hk) trivial (Below.refl _ _) (Nat.le_refl _) (by simp) ?_; (case hd => rfl); (case hg => rfl); (case hr => first | (go_simp; done) | (go_simp; rfl)); (case hp => exact (Reps.none _ _)); intro v558 w28 ho29 hb hg_ hnew_; clear hg_ hnew_; (first | rw [← Ny557.out] at ho29 | (simp only [Int.reduceToNat] at ho29; rw [← Ny557.out] at ho29)); have n0_ := Aside0.mk (Kd.R_below (by (with_reducible repeat (first | apply Kd.R_alloc | apply Kd.R_drewN | apply Kd.R_drew)); exact HO_5.out) hb); have n1_ := Aside0.mk (Kd.Q_elder' (by (with_reducible repeat (first | apply Kd.Q_alloc | apply Kd.Q_drewN | apply Kd.Q_drew)); exact HO_6.out) (Kd.R_base ho29) hb); have n2_ := Aside0.mk (Kd.R_lower (Kd.R_new' ho29 (Kd.Q_lt (by (with_reducible repeat (first | apply Kd.Q_alloc | apply Kd.Q_drewN | apply Kd.Q_drew)); exact HO_6.out))) (below_size (by repeat (first | (with_reducible first | exact HB.out | apply below_alloc | apply pw_below_drewN | apply below_drew1) | exact HB.out)))); have n3_ := Aside0.mk (below_step (by repeat (first | (with_reducible first | exact HB.out | apply below_alloc | apply pw_below_drewN | apply below_drew1) | exact HB.out)) hb); clear HO_5; clear HO_6; clear HB; have HO_5 := n0_; have HO_6 := n1_; have HO559 := n2_; have HB := n3_; clear n0_ n1_ n2_ n3_; clear hb ho29) | ((with_reducible refine gate_builtin (b := .append) (xs := #[.tmp 59, .tmp 60]) rfl ?_); (try (refine gate_guard (by rfl) ?_; dsimp only)); at_builtin; refine Kd.R_append_rows k42 (w0 := w) w.heap.size rfl (.tmp 59) (.tmp 60) 29 42 (.agg #[(.int .i64 0), (.bool false)]) 16 rfl Tryd.underlying29 info42 rfl (by decide) (by omega) v558 y557 t549 _ _ _ (fun k_ => some k_ ≠ (.slice Ao12 t549.length co12 : Value).ownBlock) (fun _ => False) rfl rfl ?aO ?aR (fun _ _ h => h) (fun _ h => h.elim) ?aF ?aB ?aS ?aL ?_; (case aR => repeat (first | exact (Kd.Q_reads' HO_6.out).2.2 | (with_reducible refine Kd.C_alloc ?_ _) | (with_reducible refine Kd.C_drewN ?_ _) | (with_reducible refine Kd.C_drew ?_))); (case aB => exact (by repeat (first | (with_reducible first | exact HB.out | apply below_alloc | apply pw_below_drewN | apply below_drew1) | exact HB.out))); (case aF => exact (fun k_ hk => Kd.fresh' (Kd.Q_lt (by (with_reducible repeat (first | apply Kd.Q_alloc | apply Kd.Q_drewN | apply Kd.Q_drew)); exact HO_6.out)) k_ hk)); (case aO => exact (by (with_reducible repeat (first | apply Kd.R_alloc | apply Kd.R_drewN | apply Kd.R_drew)); exact Kd.R_mono HO559.out (fun _ hk => hk.2))); (case aS => exact (below_size (by repeat (first | (with_reducible first | exact HB.out | apply below_alloc | apply pw_below_drewN | apply below_drew1) | exact HB.out)))); (case aL => have := LMc19.out; omega); intro v561 w30 ho hb hg hat; rw [← Ny560.out] at ho; have n0_ := Aside0.mk (Kd.R_over' (by (with_reducible repeat (first | apply Kd.R_alloc | apply Kd.R_drewN | apply Kd.R_drew)); exact HO_5.out) (Kd.R_typed (by (with_reducible repeat (first | apply Kd.R_alloc | apply Kd.R_drewN | apply Kd.R_drew)); exact HO559.out)) (by decide) hg); have n1_ := Aside0.mk (Kd.Q_after (ok := (fun _ => True)) (by (with_reducible repeat (first | apply Kd.Q_alloc | apply Kd.Q_drewN | apply Kd.Q_drew)); exact HO_6.out) hg hat); have n2_ := Aside0.mk (hb); have n3_ := Aside0.mk (ho); clear HO_5; clear HO_6; clear HB; clear HO559; have HO_5 := n0_; have HO_6 := n1_; have HB := n2_; have HO562 := n3_; clear n0_ n1_ n2_ n3_; clear ho hb hg hat; obtain ⟨Ao31, co31, eo31⟩ := Kd.R_slice HO562.out; subst eo31; have p563 : 0 ≤ ((ji20) : Int) := of_decide_eq_true (by first | (with_reducible assumption) | assumption); have q563 : (ji20) < (y560.length : Int) := of_decide_eq_true (by first | (with_reducible assumption) | assumption); obtain ⟨ad563, e563, hx563_0, hx563_1⟩ := at_T42 (Kd.R_reads' HO562.out).2.2 (ji20) p563 q563; cases e563; replace p563 := eq_true p563; replace q563 := eq_true q563; have p23 : 0 ≤ ((ji20) : Int) := of_decide_eq_true (by first | (with_reducible assumption) | assumption); have q23 : ((ji20) : Int) < ((y560.length : Int) : Int) := of_decide_eq_true (by first | (with_reducible assumption) | assumption); obtain ⟨go23, co23, eo23, gb23, gl23, cl23, HG23⟩ := Kd.R_form HO562.out (by omega); (first | cases eo23 | (injection eo23 with ea_ en_ ec_; (first | subst ea_ | (injection ea_ with ea_; subst ea_)); subst ec_; clear en_)); have GB23 := Aside0.mk gb23; have GG23 := Aside0.mk HG23; clear gb23 gl23 HG23; (first | simp only [add_plain] at hx563_0 | skip); (first | simp only [add_plain] at hx563_1 | skip); obtain ⟨ce23, hcl23, hM23, hcc23, hfr23⟩ := Kd.R_elem HO562.out z42 ((ji20) : Int) p23 q23; obtain rfl := k42_openM hM23; have hx23_0 : w30.cell? ⟨go23, ((ji20) : Int).toNat * 2, none⟩ = some (.int .i64 ((rd_T42 y560 (ji20)).f0)) := hcc23 0 _ rfl; have hx23_1 : w30.cell? ⟨go23, ((ji20) : Int).toNat * 2 + 1, none⟩ = some (.bool ((rd_T42 y560 (ji20)).f1)) := hcc23 1 _ rfl; have hf23_0 : w30.frozen? ⟨go23, ((ji20) : Int).toNat * 2, none⟩ = false := hfr23 0; have hf23_1 : w30.frozen? ⟨go23, ((ji20) : Int).toNat * 2 + 1, none⟩ = false := hfr23 1; (try clear hM23); clear hcl23 hcc23 hfr23; replace p23 := eq_true p23; replace q23 := eq_true q23; have HX32 := Aside0.mk (show Kd.R k42 42 w30 w.heap.size (fun k_ => some k_ ≠ (.slice Ao12 t549.length co12 : Value).ownBlock) (.slice (some ⟨go23, 0, none⟩) y560.length co31) y560 from (by (with_reducible repeat (first | apply Kd.R_alloc | apply Kd.R_drewN | apply Kd.R_drew)); exact HO562.out)); obtain ⟨ce32, hcl32, hM32, hcc32, hfr32⟩ := Kd.R_elem HX32.out z42 ((ji20) : Int) (of_decide_eq_true (by first | (with_reducible assumption) | assumption)) (by have h_ : ((ji20) : Int) < ((y560.length : Int) : Int) := of_decide_eq_true (by first | (with_reducible assumption) | assumption); first | exact h_ | (have e_ := (Kd.R_reads' HO562.out).1; omega) | simpa using h_); obtain rfl := k42_openM hM32; have HP32 := Kd.R_seg HX32.out ((ji20) : Int) (of_decide_eq_true (by first | (with_reducible assumption) | assumption)) (by have h_ : ((ji20) : Int) < ((y560.length : Int) : Int) := of_decide_eq_true (by first | (with_reducible assumption) | assumption); first | exact h_ | (have e_ := (Kd.R_reads' HO562.out).1; omega) | simpa using h_) (seg := [.bool (!((rd_T42 y560 (ji20)).f1))]) (j := 1) hcl32 hcc32 (show 2 ≤ 2 from by decide) (x' := (⟨(rd_T42 y560 (ji20)).f0, !((rd_T42 y560 (ji20)).f1)⟩ : S42)) (k42_mkM _ _ _ (⟨(rd_T42 y560 (ji20)).f0, !((rd_T42 y560 (ji20)).f1)⟩ : S42) ) (fun _ hk => hk); have hx32_1 := hcc32 1 _ rfl; (try simp only [show (k42).sz = 2 from rfl, Nat.mul_one, Nat.add_zero] at hx32_1); have hf32_1 := hfr32 1; (try simp only [show (k42).sz = 2 from rfl, Nat.mul_one, Nat.add_zero] at hf32_1); (try clear hM32); clear hcl32 hcc32 hfr32) | ((with_reducible refine gate_store (t := 4) (p := 71) rfl ?_); refine store_event (t := 4) (p := 71) (v := ?vo_w33) (w1 := (w30.setCell ⟨go23, ((ji20) : Int).toNat * 2 + 1, none⟩ (.bool (!((rd_T42 y560 (ji20)).f1))))) ?hg ?ho ?hn ?hr ?_; (case ho => rfl); (case hg => rfl); (case hn => rfl); (case hr => first | (go_simp; done) | (go_simp; rfl)); intro w33 hw; have hg : w30.grownBy w33 (some go23) := (by rw [hw]; exact HP32.2); have hp_ : Kd.R k42 42 w33 w.heap.size (fun k_ => some k_ ≠ (.slice Ao12 t549.length co12 : Value).ownBlock) (.slice (some ⟨go23, 0, none⟩) y560.length co31) y564 := (by rw [hw, Ny564.out]; exact HP32.1); clear HP32; have n0_ := Aside0.mk (Kd.R_over' (v := (.slice (some ⟨go23, 0, none⟩) y560.length co31)) (by (with_reducible repeat (first | apply Kd.R_alloc | apply Kd.R_drewN | apply Kd.R_drew)); exact HO_5.out) (Kd.R_typed HO562.out) (by decide) hg); have n1_ := Aside0.mk (Kd.Q_after (v := (.slice (some ⟨go23, 0, none⟩) y560.length co31)) (v1 := (.slice (some ⟨go23, 0, none⟩) y560.length co31)) (ok := (fun _ => True)) (by (with_reducible repeat (first | apply Kd.Q_alloc | apply Kd.Q_drewN | apply Kd.Q_drew)); exact HO_6.out) hg (.inl rfl)); have n2_ := Aside0.mk (hp_); have n3_ := Aside0.mk ((by rw [hw]; exact below_set (HB.out) GB23.out : Below w.heap.size w w33)); clear HO_5; clear HO_6; clear HO562; clear HB; have HO_5 := n0_; have HO_6 := n1_; have HO562 := n2_; have HB := n3_; clear n0_ n1_ n2_ n3_; clear hg hw hp_) | ((with_reducible refine gate_callee (f := 18) rfl ?_); refine goesL_ (some 76) rfl rfl Tryd.func18 (by kernel_rfl) rfl #[.slice Ao11 t548.length co11, .slice Ao12 t549.length co12, .string (t550 ++ (⟨#[32, 112, 101, 115]⟩ : ByteArray))] rfl (by (try simp only [List.map_toArray, List.map_cons, List.map_nil]); first | done | rfl | (simp only [List.length_drop, List.length_take]; rfl)) ?_; (with_reducible refine (impl_GroupsRead.calls kj8 _ _ t548 _ _ t549 (t550 ++ (⟨#[32, 112, 101, 115]⟩ : ByteArray)) false _ ?side1 ?side2 ?side3 ?side4 ?side5 A25.out).mono ?_); (case side1 => repeat (first | exact (Kd.R_reads' HO_5.out).2.2 | (with_reducible refine Kd.C_alloc ?_ _) | (with_reducible refine Kd.C_drewN ?_ _) | (with_reducible refine Kd.C_drew ?_))); (case side2 => exact (Kd.R_reads' HO_5.out).2.1); (case side3 => repeat (first | exact (Kd.Q_reads' HO_6.out).2.2 | (with_reducible refine Kd.C_alloc ?_ _) | (with_reducible refine Kd.C_drewN ?_ _) | (with_reducible refine Kd.C_drew ?_))); (case side4 => exact (Kd.Q_reads' HO_6.out).2.1); (case side5 => exact GOk.sub (GOk.below HG.out (by repeat (first | (with_reducible first | exact HB.out | apply below_alloc | apply pw_below_drewN | apply below_drew1) | exact HB.out))) (by decide)); rintro e w34 ⟨rfl, hb⟩; refine ⟨_, rfl, ?_⟩; have n0_ := Aside0.mk (Kd.R_below (by (with_reducible repeat (first | apply Kd.R_alloc | apply Kd.R_drewN | apply Kd.R_drew)); exact HO_5.out) hb); have n1_ := Aside0.mk (Kd.Q_below (by (with_reducible repeat (first | apply Kd.Q_alloc | apply Kd.Q_drewN | apply Kd.Q_drew)); exact HO_6.out) hb); have n2_ := Aside0.mk (Kd.R_below (by (with_reducible repeat (first | apply Kd.R_alloc | apply Kd.R_drewN | apply Kd.R_drew)); exact HO562.out) hb); have n3_ := Aside0.mk (below_step (by repeat (first | (with_reducible first | exact HB.out | apply below_alloc | apply pw_below_drewN | apply below_drew1) | exact HB.out)) hb); clear HO_5; clear HO_6; clear HO562; clear HB; have HO_5 := n0_; have HO_6 := n1_; have HO562 := n2_; have HB := n3_; clear n0_ n1_ n2_ n3_; (try clear hb); (try clear hb2); (try clear hk); (try clear hi)) | (go_at_call 18; refine calls_of_args (args' := #[.slice Ao11 t548.length co11, .slice (some ⟨go23, 0, none⟩) y564.length co31, .string t550]) (by first | (rw [show y564.length = y560.length from (Kd.R_reads' HO562.out).1.symm] <;> rfl) | rfl) ?_; (with_reducible refine (impl_GroupsRead.calls kj8 _ _ t548 _ _ y564 t550 t566 _ ?side1 ?side2 ?side3 ?side4 ?side5 A27.out).mono ?_); (case side1 => repeat (first | exact (Kd.R_reads' HO_5.out).2.2 | (with_reducible refine Kd.C_alloc ?_ _) | (with_reducible refine Kd.C_drewN ?_ _) | (with_reducible refine Kd.C_drew ?_))); (case side2 => exact (Kd.R_reads' HO_5.out).2.1); (case side3 => repeat (first | exact (Kd.R_reads' HO562.out).2.2 | (with_reducible refine Kd.C_alloc ?_ _) | (with_reducible refine Kd.C_drewN ?_ _) | (with_reducible refine Kd.C_drew ?_))); (case side4 => rw [show y564.length = y560.length from (Kd.R_reads' HO562.out).1.symm]; exact (Kd.R_reads' HO562.out).2.1); (case side5 => exact GOk.sub (GOk.below HG.out (by repeat (first | (with_reducible first | exact HB.out | apply below_alloc | apply pw_below_drewN | apply below_drew1) | exact HB.out))) (by decide)); rintro e w35 ⟨rfl, hb⟩; have n0_ := Aside0.mk (Kd.R_below (by (with_reducible repeat (first | apply Kd.R_alloc | apply Kd.R_drewN | apply Kd.R_drew)); exact HO_5.out) hb); have n1_ := Aside0.mk (Kd.Q_below (by (with_reducible repeat (first | apply Kd.Q_alloc | apply Kd.Q_drewN | apply Kd.Q_drew)); exact HO_6.out) hb); have n2_ := Aside0.mk (Kd.R_below (by (with_reducible repeat (first | apply Kd.R_alloc | apply Kd.R_drewN | apply Kd.R_drew)); exact HO562.out) hb); have n3_ := Aside0.mk (below_step (by repeat (first | (with_reducible first | exact HB.out | apply below_alloc | apply pw_below_drewN | apply below_drew1) | exact HB.out)) hb); clear HO_5; clear HO_6; clear HO562; clear HB; have HO_5 := n0_; have HO_6 := n1_; have HO562 := n2_; have HB := n3_; clear n0_ n1_ n2_ n3_; (try clear hb); (try clear hb2); (try clear hk); (try clear hi)))
     go_ret
     exact ⟨by first | rfl | (simp [errW_none, errW_some] <;> rfl) | (simp only [← hji20]; first | rfl | (simp [errW_none, errW_some] <;> rfl)) | (simp [*, errW_none, errW_some] <;> rfl), by repeat (first | (with_reducible first | exact HB.out | apply below_alloc | apply pw_below_drewN | apply below_drew1) | exact HB.out)⟩
def laws_FnGroupsRead.Pure : Prop := ∀ (l0 : List Int) (l1 : List Int), l0.length ≤ maxLen → l0.length * 1 ≤ 140737488351232 → (∀ x ∈ l0, (Lit.int .u8 x).wf = true) → l1.length ≤ maxLen → l1.length * 1 ≤ 140737488351232 → (∀ x ∈ l1, (Lit.int .u8 x).wf = true) → ∃ k, laws_FnGroupsRead.f k l0 l1 = some true
end Go.Proofs.YtldepdaglapdeaaDoor.E
end
section
namespace Go.Proofs.YtldepdaglapdeaaDoor.Pur
open Go.RowKit Go.Proofs.YtldepdaglapdeaaDoorW.PrintWords
def EvP {α : Type} (g : Nat → Option α) (P : α → Prop) : Prop := ∃ r, Ev g r ∧ P r
section
variable {α β : Type}
theorem EvP.bind {g : Nat → Option α} {f : Nat → α → Option β} {P : α → Prop} {Q : β → Prop} (h : EvP g P) (k : ∀ a, P a → EvP (fun n => f n a) Q) : EvP (fun n => (g n).bind (f n)) Q := by
  obtain ⟨a, ha, hp⟩ := h
  obtain ⟨b, hb, hq⟩ := k a hp
  exact ⟨b, Ev.bind ha hb, hq⟩
theorem EvP.ret {P : α → Prop} {r : α} (h : P r) : EvP (fun _ => some r) P := ⟨r, Ev.now r, h⟩
theorem EvP.con {o : Option α} {P : α → Prop} {r : α} (h : o = some r) (hp : P r) : EvP (fun _ => o) P := by subst h; exact .ret hp
theorem EvP.ite {c : Prop} [Decidable c] {f g : Nat → Option α} {P : α → Prop} (h : c → EvP f P) (k : ¬ c → EvP g P) : EvP (fun n => if c then f n else g n) P := by
  by_cases hc : c
  · obtain ⟨r, hr, hp⟩ := h hc
    exact ⟨r, Ev.congr (fun n => if_pos hc) hr, hp⟩
  · obtain ⟨r, hr, hp⟩ := k hc
    exact ⟨r, Ev.congr (fun n => if_neg hc) hr, hp⟩
theorem EvP.yes {c : Prop} [Decidable c] {f g : Nat → Option α} {P : α → Prop} (hc : c) (h : EvP f P) : EvP (fun n => if c then f n else g n) P := .ite (fun _ => h) (fun k => absurd hc k)
theorem EvP.no {c : Prop} [Decidable c] {f g : Nat → Option α} {P : α → Prop} (hc : ¬ c) (h : EvP g P) : EvP (fun n => if c then f n else g n) P := .ite (fun k => absurd k hc) (fun _ => h)
theorem EvP.step {g f : Nat → Option α} {P : α → Prop} (h : ∀ k, g (k + 1) = f k) (k : EvP f P) : EvP g P := by
  obtain ⟨r, hr, hp⟩ := k
  exact ⟨r, Ev.step h hr, hp⟩
theorem EvP.succ {g : Nat → Option α} {P : α → Prop} (k : EvP (fun n => g (n + 1)) P) : EvP g P := EvP.step (fun _ => rfl) k
theorem EvP.mono {g : Nat → Option α} {P Q : α → Prop} (h : EvP g P) (k : ∀ r, P r → Q r) : EvP g Q := by
  obtain ⟨r, hr, hp⟩ := h
  exact ⟨r, hr, k r hp⟩
theorem EvP.rounds {g : Nat → Option α} {r : α} (h : EvP g (· = r)) : ∃ k, g k = some r := by
  obtain ⟨_, hr, rfl⟩ := h
  exact hr.rounds
end
structure Hd (p : Prop) : Prop where mk :: (out : p)
theorem w64 {i : Int} (h0 : -9223372036854775808 ≤ i) (h1 : i ≤ 9223372036854775807) : wrap64 i = i := by unfold wrap64; omega
theorem tmod_pos {a : Int} (b : Int) (h : 0 ≤ a) : Int.tmod a b = a % b := Int.tmod_eq_emod_of_nonneg h
theorem tdiv_pos {a : Int} (b : Int) (h : 0 ≤ a) : Int.tdiv a b = a / b := Int.tdiv_eq_ediv_of_nonneg h
theorem toNat_nat (n : Nat) : ((n : Int)).toNat = n := rfl
end Go.Proofs.YtldepdaglapdeaaDoor.Pur
end
section
namespace Go.Proofs.YtldepdaglapdeaaDoor.Pur
open Go.RowKit Go.Proofs.YtldepdaglapdeaaDoorW.PrintWords Go.Proofs.YtldepdaglapdeaaDoorW.PrintMore Go.Proofs.YtldepdaglapdeaaDoor.E
def okB (B : List Int) : Prop := B.length ≤ 2000 ∧ ∀ x ∈ B, 0 ≤ x ∧ x ≤ 255
theorem byte_range {x : Int} (h : (Lit.int .u8 x).wf = true) : 0 ≤ x ∧ x ≤ 255 := by
  simp [Lit.wf, IntKind.min, IntKind.max, IntKind.signed, IntKind.bits] at h
  omega
theorem okB_rd {B : List Int} (h : okB B) (i : Int) : 0 ≤ rd B i ∧ rd B i ≤ 255 := by
  unfold rd
  rw [List.getD_eq_getElem?_getD]
  cases e : B[i.toNat]? with
  | none => simp
  | some v => simpa using h.2 v (List.mem_of_getElem? e)
theorem open_code (l : List Int) (h : ∀ x ∈ l, (Lit.int .u8 x).wf = true) : EvP (fun _ => spec_l6Open.f l) (fun r => okB r.1 ∧ r.2 = 0) := by
  unfold spec_l6Open.f
  refine EvP.ite (fun h1 => EvP.yes (by omega) (EvP.ret ⟨⟨by simp; omega, fun x hx => byte_range (h x (List.mem_of_mem_take hx))⟩, rfl⟩)) (fun h1 => EvP.ret ⟨⟨by dsimp only; omega, fun x hx => byte_range (h x hx)⟩, rfl⟩)
theorem xor_nn {x y : Int} (hx : 0 ≤ x) (hx' : x < 4611686018427387904) (hy : 0 ≤ y) (hy' : y < 4611686018427387904) : 0 ≤ Go.bits .xor .i64 x y := by
  obtain ⟨a, rfl⟩ := Int.eq_ofNat_of_zero_le hx
  obtain ⟨b, rfl⟩ := Int.eq_ofNat_of_zero_le hy
  have ha : a < 2 ^ 62 := by omega
  have hb : b < 2 ^ 62 := by omega
  have hx : a ^^^ b < 2 ^ 62 := Nat.xor_lt_two_pow ha hb
  have ea : a % 2 ^ IntKind.i64.bits = a := Nat.mod_eq_of_lt (by simp [IntKind.bits]; omega)
  have eb : b % 2 ^ IntKind.i64.bits = b := Nat.mod_eq_of_lt (by simp [IntKind.bits]; omega)
  simp only [Go.bits, BitVec.ofInt_natCast, BitVec.toNat_xor, BitVec.toNat_ofNat, ea, eb]
  rw [IntKind.wrap_i64]
  omega
theorem mix_ok (E n : Int) (h0 : 0 ≤ E) (h1 : E < 4611686018427387904) (hn : 1 ≤ n) :
    0 ≤ Int.tmod (Go.bits .xor .i64 E (wrap64 (Int.tdiv E 64))) n ∧ Int.tmod (Go.bits .xor .i64 E (wrap64 (Int.tdiv E 64))) n < n := by
  have hd : Int.tdiv E 64 = E / 64 := tdiv_pos 64 h0
  have h2 := xor_nn h0 h1 (y := wrap64 (Int.tdiv E 64)) (by rw [hd, w64 (by omega) (by omega)]; omega) (by rw [hd, w64 (by omega) (by omega)]; omega)
  exact ⟨Int.tmod_nonneg n h2, Int.tmod_lt_of_pos _ (by omega)⟩
theorem mixE (r1 r2 p q : Int) (a1 : 0 ≤ r1 ∧ r1 ≤ 255) (a2 : 0 ≤ r2 ∧ r2 ≤ 255) (hp : 0 ≤ p ∧ p ≤ 1000000000) (hq : 0 ≤ q ∧ q ≤ 1000000000) :
    (wrap64 ((wrap64 ((wrap64 ((wrap64 ((wrap64 r1) * 131)) + (wrap64 ((wrap64 r2) * 1117)))) + (wrap64 (p * 29)))) + (wrap64 ((wrap64 q) * 53)))) = r1 * 131 + r2 * 1117 + p * 29 + q * 53 := by
  rw [w64 (i := r1) (by omega) (by omega), w64 (i := r2) (by omega) (by omega), w64 (i := q) (by omega) (by omega), w64 (i := r1 * 131) (by omega) (by omega), w64 (i := r2 * 1117) (by omega) (by omega), w64 (i := p * 29) (by omega) (by omega),
    w64 (i := q * 53) (by omega) (by omega), w64 (i := r1 * 131 + r2 * 1117) (by omega) (by omega), w64 (i := r1 * 131 + r2 * 1117 + p * 29) (by omega) (by omega), w64 (by omega) (by omega)]
theorem pick_ok {B : List Int} (hB : okB B) (p n : Int) (hp : 0 ≤ p ∧ p ≤ 100000000) (hn : 1 ≤ n ∧ n ≤ 1000000) : EvP (fun k => spec_l6Rd_pick.f k B p n) (fun r => 0 ≤ r.1 ∧ r.1 < n ∧ r.2 = p + 1) := by
  unfold spec_l6Rd_pick.f
  have e1 : wrap64 (p + 1) = p + 1 := w64 (by omega) (by omega)
  have e2 : wrap64 (p + 1 - 1) = p := by rw [w64 (by omega) (by omega)]; omega
  have hl := hB.1
  rw [e1]
  refine EvP.no (by omega) ?_
  refine EvP.succ ?_
  simp only [spec_l6Rd_pick.j0, e2]
  clear e1 e2
  refine EvP.ite (fun h0 => EvP.ret ⟨by omega, by dsimp only; omega, rfl⟩) (fun h0 => ?_)
  have hpos : 0 < (B.length : Int) := by
    rw [beq_iff_eq] at h0
    omega
  refine EvP.ite (fun h1 => ?_) (fun h1 => ?_)
  · have hr := okB_rd hB p
    refine EvP.yes (by omega) (EvP.no (by omega) (EvP.ret ⟨?_, ?_, rfl⟩))
    · rw [w64 (by omega) (by omega)]; exact Int.tmod_nonneg n hr.1
    · exact Int.tmod_lt_of_pos _ (by omega)
  · refine EvP.no (by omega) ?_
    have m1 : Int.tmod p (B.length : Int) = p % (B.length : Int) := tmod_pos _ hp.1
    have hm1 : 0 ≤ Int.tmod p (B.length : Int) ∧ Int.tmod p (B.length : Int) < (B.length : Int) := by rw [m1]; exact ⟨Int.emod_nonneg _ (by omega), Int.emod_lt_of_pos _ hpos⟩
    have e3 : wrap64 ((wrap64 (p * 7)) + 3) = p * 7 + 3 := by rw [w64 (i := p * 7) (by omega) (by omega), w64 (by omega) (by omega)]
    rw [e3]
    clear e3
    have hm2 : 0 ≤ Int.tmod (p * 7 + 3) (B.length : Int) ∧ Int.tmod (p * 7 + 3) (B.length : Int) < (B.length : Int) := by rw [tmod_pos _ (by omega)]; exact ⟨Int.emod_nonneg _ (by omega), Int.emod_lt_of_pos _ hpos⟩
    have hq : 0 ≤ Int.tdiv p (B.length : Int) ∧ Int.tdiv p (B.length : Int) ≤ 1000000000 := by
      rw [tdiv_pos _ hp.1]
      have := Int.ediv_le_self (B.length : Int) hp.1
      exact ⟨Int.ediv_nonneg hp.1 (by omega), by omega⟩
    have a1 := okB_rd hB (Int.tmod p (B.length : Int))
    have a2 := okB_rd hB (Int.tmod (p * 7 + 3) (B.length : Int))
    refine EvP.yes hm1.1 (EvP.yes hm1.2 (EvP.yes hm2.1 (EvP.yes hm2.2 (EvP.no (by omega) ?_))))
    rw [mixE _ _ p _ a1 a2 (by omega) hq]
    have := mix_ok (rd B (Int.tmod p (B.length : Int)) * 131 + rd B (Int.tmod (p * 7 + 3) (B.length : Int)) * 1117 + p * 29 + Int.tdiv p (B.length : Int) * 53) n (by omega) (by omega) hn.1
    exact EvP.ret ⟨this.1, this.2, rfl⟩
end Go.Proofs.YtldepdaglapdeaaDoor.Pur
end
section
namespace Go.Proofs.YtldepdaglapdeaaDoor.Pur
open Go.RowKit Go.Proofs.YtldepdaglapdeaaDoorW.PrintWords Go.Proofs.YtldepdaglapdeaaDoorW.PrintMore Go.Proofs.YtldepdaglapdeaaDoor.E
theorem step_in {v : Int} : 1 ≤ mx 1 (mn 15 v) ∧ mx 1 (mn 15 v) ≤ 15 := by unfold mx mn; omega
theorem melody_loop {B : List Int} (hB : okB B) (n : Int) (hn : 0 ≤ n ∧ n ≤ 200) : ∀ (d : Nat) (i : Int) (acc : List S56) (s p : Int), 0 ≤ i → i + d = n → (acc.length : Int) = i → 1 ≤ s → s ≤ 15 → 0 ≤ p → p ≤ 1000000 - 10 * d →
    EvP (fun k => spec_l91Melody.l0 k acc n s i B p) (fun r => (r.1.length : Int) = n ∧ 0 ≤ r.2 ∧ r.2 ≤ p + 2 * d + 2) := by
  intro d
  induction d with
  | zero =>
    intro i acc s p hi hd ha hs0 hs1 hp0 hp1
    refine EvP.succ ?_
    simp only [spec_l91Melody.l0]
    refine EvP.no (by omega) ?_
    refine EvP.ite (fun hpos => ?_) (fun _ => EvP.ret ⟨by dsimp only; omega, hp0, by dsimp only; omega⟩)
    refine EvP.bind (pick_ok hB p 50 (by omega) (by omega)) (fun r hr => ?_)
    refine EvP.ite (fun _ => ?_) (fun _ => EvP.ite (fun _ => ?_) (fun _ => EvP.ret ⟨by dsimp only; omega, by dsimp only; omega, by dsimp only; omega⟩))
    · refine EvP.bind (P := (· = [(-1), 21, 20])) (EvP.con rfl rfl) (fun _ e => ?_)
      subst e
      refine EvP.bind (pick_ok hB r.2 3 (by omega) (by omega)) (fun q hq => ?_)
      have h3 : (([(-1), 21, 20] : List Int).length : Int) = 3 := rfl
      exact EvP.yes hq.1 (EvP.yes (by omega) (EvP.yes (by omega) (EvP.ret ⟨by simp; omega, by dsimp only; omega, by dsimp only; omega⟩)))
    · rw [w64 (by omega) (by omega)]
      exact EvP.yes (by omega) (EvP.yes (by omega) (EvP.ret ⟨by simp; omega, by dsimp only; omega, by dsimp only; omega⟩))
  | succ d ih =>
    intro i acc s p hi hd ha hs0 hs1 hp0 hp1
    refine EvP.succ ?_
    simp only [spec_l91Melody.l0]
    refine EvP.yes (by omega) ?_
    refine EvP.bind (P := (· = Int.tmod s 7)) (EvP.con rfl rfl) (fun _ e => ?_)
    subst e
    have ei : Hd (wrap64 (i + 1) = i + 1) := ⟨w64 (by omega) (by omega)⟩
    refine EvP.ite (fun _ => ?_) (fun _ => ?_)
    · refine EvP.bind (pick_ok hB p 3 (by omega) (by omega)) (fun r hr => ?_)
      refine EvP.yes (by omega) ?_
      refine EvP.bind (pick_ok hB r.2 5 (by omega) (by omega)) (fun q hq => ?_)
      rw [ei.out]
      have sn := step_in (v := wrap64 ((wrap64 (s + q.1)) - 2))
      refine (ih (i + 1) _ _ q.2 (by omega) (by omega) (by simp; omega) sn.1 sn.2 (by omega) (by omega)).mono (fun r' h => ⟨h.1, h.2.1, by omega⟩)
    · refine EvP.yes (by omega) ?_
      refine EvP.bind (pick_ok hB p 5 (by omega) (by omega)) (fun q hq => ?_)
      rw [ei.out]
      have sn := step_in (v := wrap64 ((wrap64 (s + q.1)) - 2))
      refine (ih (i + 1) _ _ q.2 (by omega) (by omega) (by simp; omega) sn.1 sn.2 (by omega) (by omega)).mono (fun r' h => ⟨h.1, h.2.1, by omega⟩)
theorem melody_ok {B : List Int} (hB : okB B) (p most : Int) (hp : 0 ≤ p ∧ p ≤ 100000) (hm : 0 ≤ most ∧ most ≤ 100) :
    EvP (fun k => spec_l91Melody.f k B p most) (fun r => (r.1.length : Int) ≤ most ∧ 0 ≤ r.2 ∧ r.2 ≤ p + 2 * most + 4) := by
  unfold spec_l91Melody.f
  rw [w64 (by omega) (by omega)]
  refine EvP.bind (pick_ok hB p (most + 1) (by omega) (by omega)) (fun r hr => ?_)
  refine EvP.bind (pick_ok hB r.2 5 (by omega) (by omega)) (fun q hq => ?_)
  rw [w64 (by omega) (by omega)]
  obtain ⟨d, hd⟩ := Int.eq_ofNat_of_zero_le hr.1
  refine (melody_loop hB r.1 (by omega) d 0 [] _ q.2 (by omega) (by omega) rfl (by omega) (by omega) (by omega) (by omega)).mono (fun r' h => ⟨by omega, h.2.1, by omega⟩)
end Go.Proofs.YtldepdaglapdeaaDoor.Pur
end
section
namespace Go.Proofs.YtldepdaglapdeaaDoor.Pur
open Go.RowKit Go.Proofs.YtldepdaglapdeaaDoorW.PrintWords Go.Proofs.YtldepdaglapdeaaDoorW.PrintMore Go.Proofs.YtldepdaglapdeaaDoor.E
theorem of_ok {B : List Int} (hB : okB B) (p : Int) (hp : 0 ≤ p ∧ p ≤ 1000000) (l : List ByteArray) (hl : 1 ≤ l.length ∧ l.length ≤ 1000) : EvP (fun k => spec_l6Rd_of.f k B p l) (fun r => (∃ i : Nat, i < l.length ∧ r.1 = l.getD i ByteArray.empty) ∧ r.2 = p + 1) := by
  unfold spec_l6Rd_of.f
  refine EvP.bind (pick_ok hB p (l.length : Int) (by omega) (by omega)) (fun r hr => ?_)
  exact EvP.yes hr.1 (EvP.yes hr.2.1 (EvP.ret ⟨⟨r.1.toNat, by omega, rfl⟩, hr.2.2⟩))
theorem of_size {B : List Int} (hB : okB B) (p : Int) (hp : 0 ≤ p ∧ p ≤ 1000000) (l : List ByteArray) (hl : 1 ≤ l.length ∧ l.length ≤ 1000) (n : Nat) (h : ∀ t ∈ l, t.size ≤ n) : EvP (fun k => spec_l6Rd_of.f k B p l) (fun r => r.1.size ≤ n ∧ r.1 ∈ l ∧ r.2 = p + 1) := by
  refine (of_ok hB p hp l hl).mono (fun r hr => ?_)
  obtain ⟨⟨i, hi, e⟩, e2⟩ := hr
  have hm : r.1 ∈ l := by
    rw [e, List.getD_eq_getElem?_getD, List.getElem?_eq_getElem hi]
    exact List.getElem_mem hi
  exact ⟨h _ hm, hm, e2⟩
end Go.Proofs.YtldepdaglapdeaaDoor.Pur
end
section
namespace Go.Proofs.YtldepdaglapdeaaDoor.E
open Go.RowKit Go.Proofs.YtldepdaglapdeaaDoorW.PrintWords Go.Proofs.YtldepdaglapdeaaDoorW.PrintLast Go.Proofs.YtldepdaglapdeaaDoorW.PrintMore
attribute [local go_sem] max2_int min2_int max_two min_two max_three min_three max_four min_four
set_option linter.unusedVariables false
set_option linter.unusedSimpArgs false
attribute [local go_sem] str_leq_ str_gtr_ str_geq_
def spec_l91At.j0 : Nat → Int → Bool → List Int → Int → Option (Int × Int)
 | 0, _, _, _, _ => none
 | k + 1, x1, x11, x1000, x1001 => if x11 = true then ((some (([(-1), x1] : List Int) : List Int)).bind fun y366 => ((spec_l6Rd_pick.f k x1000 x1001 2).bind fun bt369 => (if 0 ≤ bt369.1 then (if bt369.1 < (y366.length : Int) then (some (rd y366 bt369.1, bt369.2)) else (none)) else (none)))) else ((spec_l6Rd_pick.f k x1000 x1001 x1).bind fun bt372 => (some (bt372.1, bt372.2)))
def spec_l91At.f (k : Nat) (s0_0 : List Int) (s0_1 : Int) (a1 : Int) : Option (Int × Int) := if a1 = 0 then (spec_l91At.j0 k a1 true s0_0 s0_1) else ((spec_l6Rd_pick.f k s0_0 s0_1 20).bind fun bt364 => (spec_l91At.j0 k a1 (bt364.1 == 0) s0_0 bt364.2))
end Go.Proofs.YtldepdaglapdeaaDoor.E
end
section
namespace Go.Proofs.YtldepdaglapdeaaDoor.Pur
open Go.RowKit Go.Proofs.YtldepdaglapdeaaDoorW.PrintWords Go.Proofs.YtldepdaglapdeaaDoor.E
def okT (t : S56) : Bool := decide (0 ≤ t.f0) && decide (t.f0 ≤ 20) && (!t.f1 || decide (t.f0 % 7 = 2))
def okM (l : List S56) : Bool := l.all okT && decide (l.length ≤ 24)
theorem spec_valid (t : S56) : spec_ToneValid.f t.f0 t.f1 = some (okT t) := by
  obtain ⟨s, b⟩ := t
  unfold spec_ToneValid.f spec_l6In.f spec_l1Letter.f okT
  by_cases h0 : s ≥ 0
  · rw [if_pos h0]
    by_cases h1 : s ≤ 20
    · cases b <;> simp [h0, h1, tmod_pos, Bool.beq_eq_decide_eq]
    · simp [h0, h1]
  · simp [h0]
theorem impl_valid (t : S56) : impl_Tone_valid.f t.f0 t.f1 = some (okT t) := by
  obtain ⟨s, b⟩ := t
  unfold impl_Tone_valid.f okT
  by_cases h0 : s ≥ 0
  · rw [if_pos h0]
    by_cases h1 : s ≤ 20
    · cases b <;> simp [h0, h1, tmod_pos, Bool.beq_eq_decide_eq]
    · simp [h0, h1]
  · simp [h0]
theorem rdT_lt {l : List S56} {i : Nat} (h : i < l.length) : rd_T56 l (i : Int) = l[i] := by
  unfold rd_T56
  rw [toNat_nat, List.getD_eq_getElem?_getD, List.getElem?_eq_getElem h]
  rfl
theorem all_drop {l : List S56} {i : Nat} (h : i < l.length) : (l.drop i).all okT = (okT l[i] && (l.drop (i + 1)).all okT) := by
  rw [List.drop_eq_getElem_cons h, List.all_cons]
theorem spec_melody_loop (l : List S56) (hl : l.length < 9223372036854775807) : ∀ d i : Nat, i + d = l.length → EvP (fun k => spec_MelodyValid.l0 k l (i : Int)) (· = ((l.drop i).all okT && decide (l.length ≤ 24))) := by
  intro d
  induction d with
  | zero =>
    intro i hi
    refine EvP.succ ?_
    simp only [spec_MelodyValid.l0]
    refine (EvP.no (by omega) (EvP.ret ?_))
    rw [List.drop_of_length_le (by omega)]
    simp only [List.all_nil, Bool.true_and]
    by_cases h : l.length ≤ 24
    · have : (l.length : Int) ≤ 24 := by omega
      simp [h, this]
    · have : ¬ (l.length : Int) ≤ 24 := by omega
      simp [h, this]
  | succ d ih =>
    intro i hi
    have hlt : i < l.length := by omega
    refine EvP.step (fun k => rfl) (EvP.yes (by omega) (EvP.yes (by omega) ?_))
    rw [rdT_lt hlt, all_drop hlt]
    refine EvP.bind (P := (· = okT l[i])) (EvP.con (spec_valid _) rfl) (fun _ e => ?_)
    subst e
    refine EvP.ite (fun h => ?_) (fun h => EvP.ret ?_)
    · rw [w64 (by omega) (by omega), h, Bool.true_and]
      exact ih (i + 1) (by omega)
    · simp [h]
theorem spec_melody (l : List S56) (hl : l.length < 9223372036854775807) : EvP (fun k => spec_MelodyValid.f k l) (· = okM l) := spec_melody_loop l hl l.length 0 (by omega)
theorem impl_melody_loop (l : List S56) (hl : l.length ≤ 24) : ∀ d i : Nat, i + d = l.length → EvP (fun k => impl_MelodyValid.l0 k l (l.length : Int) (i : Int)) (· = (l.drop i).all okT) := by
  intro d
  induction d with
  | zero =>
    intro i hi
    refine EvP.step (fun k => rfl) (EvP.no (by omega) (EvP.ret ?_))
    rw [List.drop_of_length_le (by omega)]
    rfl
  | succ d ih =>
    intro i hi
    have hlt : i < l.length := by omega
    refine EvP.step (fun k => rfl) (EvP.yes (by omega) (EvP.yes (by omega) ?_))
    try refine EvP.yes (by omega) ?_
    rw [rdT_lt hlt, all_drop hlt]
    refine EvP.bind (P := (· = okT l[i])) (EvP.con (impl_valid _) rfl) (fun _ e => ?_)
    subst e
    refine EvP.ite (fun h => ?_) (fun h => EvP.ret ?_)
    · rw [w64 (by omega) (by omega), h, Bool.true_and]
      exact ih (i + 1) (by omega)
    · simp [h]
theorem impl_melody (l : List S56) : EvP (fun k => impl_MelodyValid.f k l) (· = okM l) := by
  unfold impl_MelodyValid.f
  refine EvP.ite (fun h => EvP.ret ?_) (fun h => ?_)
  · simp [okM]; intro; omega
  · have hl : l.length ≤ 24 := by omega
    refine (impl_melody_loop l hl l.length 0 (by omega)).mono (fun r e => ?_)
    rw [e]
    simp [okM, hl]
end Go.Proofs.YtldepdaglapdeaaDoor.Pur
end
section
namespace Go.Proofs.YtldepdaglapdeaaDoor.Pur
open Go Go.RowKit Go.Proofs.YtldepdaglapdeaaDoorW.PrintWords Go.Proofs.YtldepdaglapdeaaDoorW.PrintMore Go.Proofs.YtldepdaglapdeaaDoor.E
abbrev TnG := S56
theorem ba_ext {a b : ByteArray} (h : a.data.toList = b.data.toList) : a = b := by
  cases a; cases b
  congr 1
  exact Array.toList_inj.mp h
theorem app_data (a b : ByteArray) : (a ++ b).data.toList = a.data.toList ++ b.data.toList := by rw [ByteArray.data_append, Array.toList_append]
theorem list_len (t : ByteArray) : t.data.toList.length = t.size := Array.length_toList
theorem list_eq (t : ByteArray) : t.toList = t.data.toList := Go.ByteArray.toList_eq t
theorem list_iff {a b : ByteArray} : a.toList = b.toList ↔ a = b := by
  rw [list_eq, list_eq]
  exact ⟨ba_ext, fun e => by rw [e]⟩
theorem bt_at (t : ByteArray) (i : Nat) (h : i < t.size) : bt t (i : Int) = ((t.data.toList[i]'(by rw [Array.length_toList]; exact h)).toNat : Int) := by
  unfold bt
  rw [toNat_nat, dif_pos h, Array.getElem_toList]
  rfl
theorem dropWhile_nil {α : Type} (p : α → Bool) : ∀ l : List α, l.dropWhile p = [] ↔ l.all p = true
  | [] => by simp
  | a :: l => by
    by_cases h : p a = true
    · rw [List.dropWhile_cons_of_pos h, dropWhile_nil p l, List.all_cons, h, Bool.true_and]
    · rw [List.dropWhile_cons_of_neg h, List.all_cons, Bool.eq_false_iff.mpr h, Bool.false_and]; simp
theorem dropWhile_head {α : Type} (p : α → Bool) : ∀ l : List α, l.dropWhile p = [] ∨ ∃ a l', l.dropWhile p = a :: l' ∧ p a = false
  | [] => .inl rfl
  | a :: l => by
    by_cases h : p a = true
    · rw [List.dropWhile_cons_of_pos h]; exact dropWhile_head p l
    · rw [List.dropWhile_cons_of_neg h]; exact .inr ⟨a, l, rfl, Bool.eq_false_iff.mpr h⟩
theorem trim_nil (l cs : List UInt8) : Lib.trimS l cs = [] ↔ l.all (cs.contains ·) = true := by
  unfold Lib.trimS Lib.trimLeftS Lib.trimRightS
  rw [dropWhile_nil, List.all_reverse]
  refine ⟨fun h => ?_, fun h => ?_⟩
  · rcases dropWhile_head (cs.contains ·) l.reverse with e | ⟨a, l', e, ha⟩
    · rw [dropWhile_nil, List.all_reverse] at e; exact e
    · rw [e, List.all_cons, ha, Bool.false_and] at h; exact absurd h (by decide)
  · have : l.reverse.dropWhile (cs.contains ·) = [] := (dropWhile_nil _ _).mpr (by rw [List.all_reverse]; exact h)
    rw [this]; rfl
theorem trim_some (t c : ByteArray) (ht : t.size ≤ 9223372036854775806) (hc : c.size < 4294967281) (ha : c.data.toList.all (fun b => decide (b.toNat < 128)) = true) : strings_Trim.f t c = some ⟨(Lib.trimS t.data.toList c.data.toList).toArray⟩ := by
  unfold strings_Trim.f
  rw [if_pos (by omega), if_pos hc, if_pos ha]
def udsB (b : UInt8) : Bool := ([117, 100, 115] : List UInt8).contains b
theorem udsB_iff (b : UInt8) : udsB b = true ↔ b = 117 ∨ b = 100 ∨ b = 115 := by
  unfold udsB
  simp
def okC (c : ByteArray) : Bool := c.data.toList.all udsB && decide (c.size ≤ 23)
theorem impl_cvalid (c : ByteArray) : impl_ContourValid.f c = some (okC c) := by
  unfold impl_ContourValid.f okC
  by_cases h : c.size ≤ 23
  · rw [if_pos (by omega), trim_some c _ (by omega) (by decide) (by decide)]
    simp only [Option.bind_some]
    rw [list_eq, decide_eq_true h, Bool.and_true]
    congr 1
    have ht := trim_nil c.data.toList [117, 100, 115]
    show (Lib.trimS c.data.toList [117, 100, 115] == []) = c.data.toList.all udsB
    rw [Bool.eq_iff_iff, beq_iff_eq, ht]
    rfl
  · rw [if_neg (by omega), decide_eq_false h, Bool.and_false]
theorem spec_cvalid_loop (c : ByteArray) (hc : c.size ≤ 9223372036854775806) : ∀ d i : Nat, i + d = c.size → EvP (fun k => spec_ContourValid.l0 k c (i : Int)) (· = ((c.data.toList.drop i).all udsB && decide (c.size ≤ 23))) := by
  have hL := list_len c
  intro d
  induction d with
  | zero =>
    intro i hi
    refine EvP.succ ?_
    simp only [spec_ContourValid.l0]
    refine EvP.no (by omega) (EvP.ret ?_)
    rw [List.drop_of_length_le (by omega), List.all_nil, Bool.true_and, decide_eq_decide]
    omega
  | succ d ih =>
    intro i hi
    have hlt : i < c.size := by omega
    have hlt' : i < c.data.toList.length := by omega
    have e1 : Hd (wrap64 ((i : Int) + 1) = ((i + 1 : Nat) : Int)) := ⟨w64 (by omega) (by omega)⟩
    refine EvP.succ ?_
    simp only [spec_ContourValid.l0]
    refine EvP.yes (by omega) (EvP.yes (by omega) ?_)
    rw [bt_at c i hlt, List.drop_eq_getElem_cons hlt', List.all_cons, e1.out]
    obtain ⟨b, hb⟩ : ∃ b, c.data.toList[i] = b := ⟨_, rfl⟩
    rw [hb]
    have key : ∀ u : UInt8, (b.toNat : Int) = (u.toNat : Int) ↔ b = u := by
      intro u
      constructor
      · intro h
        apply UInt8.toNat_inj.mp
        omega
      · intro h
        rw [h]
    refine EvP.ite (fun h => ?_) (fun h1 => EvP.ite (fun h => ?_) (fun h2 => EvP.ite (fun h => ?_) (fun h3 => EvP.ret ?_)))
    · rw [(udsB_iff b).mpr (.inl ((key 117).mp h)), Bool.true_and]
      exact ih (i + 1) (by omega)
    · rw [(udsB_iff b).mpr (.inr (.inl ((key 100).mp h))), Bool.true_and]
      exact ih (i + 1) (by omega)
    · rw [(udsB_iff b).mpr (.inr (.inr ((key 115).mp h))), Bool.true_and]
      exact ih (i + 1) (by omega)
    · have : udsB b = false := by
        rw [Bool.eq_false_iff]
        intro h
        rcases (udsB_iff b).mp h with h | h | h
        · exact h1 ((key 117).mpr h)
        · exact h2 ((key 100).mpr h)
        · exact h3 ((key 115).mpr h)
      rw [this, Bool.false_and, Bool.false_and]
theorem spec_cvalid (c : ByteArray) (hc : c.size ≤ 9223372036854775806) : EvP (fun k => spec_ContourValid.f k c) (· = okC c) := spec_cvalid_loop c hc c.size 0 (by omega)
def nnm (c : ByteArray) : ByteArray := if c.data.toList = [] then ⟨#[112, 117, 110, 99, 116, 117, 109]⟩ else if c.data.toList = [117] then ⟨#[112, 101, 115]⟩ else if c.data.toList = [100] then ⟨#[99, 108, 105, 118, 105, 115]⟩ else if c.data.toList = [117, 100] then ⟨#[116, 111, 114, 99, 117, 108, 117, 115]⟩ else if c.data.toList = [100, 117] then ⟨#[112, 111, 114, 114, 101, 99, 116, 117, 115]⟩ else if c.data.toList = [117, 117] then ⟨#[115, 99, 97, 110, 100, 105, 99, 117, 115]⟩ else if c.data.toList = [100, 100] then ⟨#[99, 108, 105, 109, 97, 99, 117, 115]⟩ else (⟨#[103, 114, 111, 117, 112, 45]⟩ : ByteArray) ++ c
def nameB (c : ByteArray) : ByteArray := if okC c = true ∧ c.size ≤ 3 then nnm c else ⟨#[]⟩
theorem ite_eqv {α : Type} {p q : Prop} [Decidable p] [Decidable q] {a b : Option α} {x y : α} (h : p ↔ q) (h1 : a = some x) (h2 : b = some y) : (if p then a else b) = some (if q then x else y) := by
  by_cases hq : q
  · rw [if_pos hq, if_pos (h.mpr hq), h1]
  · rw [if_neg hq, if_neg (fun hp => hq (h.mp hp)), h2]
theorem nn_is (c : ByteArray) (h : c.size ≤ 3) : nnLoop c 7 0 = some (nnm c) := by
  have e : ∀ l : List UInt8, ((⟨l.toArray⟩ : ByteArray).toList = c.toList) ↔ c.data.toList = l := by
    intro l
    rw [list_eq, list_eq]
    exact eq_comm
  unfold nnm
  simp only [nnLoop, Nat.zero_add, Nat.reduceAdd, conN, namN, List.getD_cons_zero, List.getD_cons_succ]
  refine ite_eqv (e []) rfl (ite_eqv (e [117]) rfl (ite_eqv (e [100]) rfl (ite_eqv (e [117, 100]) rfl (ite_eqv (e [100, 117]) rfl (ite_eqv (e [117, 117]) rfl (ite_eqv (e [100, 100]) rfl ?_))))))
  rw [if_pos (by omega)]
theorem impl_nn (c : ByteArray) : impl_NeumeName.f c = some (nameB c) := by
  unfold impl_NeumeName.f nameB
  rw [impl_cvalid]
  simp only [Option.bind_some]
  by_cases h : okC c = true
  · rw [if_pos h]
    by_cases h2 : c.size ≤ 3
    · rw [if_neg (by omega), if_pos ⟨h, h2⟩, nn_is c h2]
    · rw [if_pos (by omega), if_neg (fun q => h2 q.2)]
  · rw [if_neg h, if_neg (fun q => h q.1)]
theorem spec_nn (c : ByteArray) (hc : c.size ≤ 9223372036854775806) : EvP (fun k => spec_NeumeName.f k c) (· = nameB c) := by
  simp only [spec_NeumeName.f]
  refine EvP.bind (spec_cvalid c hc) (fun _ e => ?_)
  subst e
  unfold nameB
  refine EvP.ite (fun h => ?_) (fun h => ?_)
  · refine EvP.succ ?_
    simp only [spec_NeumeName.j0]
    refine EvP.ite (fun h2 => EvP.ret ?_) (fun h2 => ?_)
    · have := of_decide_eq_true h2
      rw [if_neg (fun q => by have := q.2; omega)]
    · have h3 : ¬ (c.size : Int) ≥ 4 := fun e => h2 (decide_eq_true e)
      have hn : (if okC c = true ∧ c.size ≤ 3 then nnm c else (⟨#[]⟩ : ByteArray)) = nnm c := if_pos ⟨h, by omega⟩
      rw [hn, list_eq]
      unfold nnm
      refine EvP.ite (fun e => EvP.ret (by rw [if_pos e])) (fun e => ?_)
      rw [if_neg e]
      refine EvP.ite (fun e => EvP.ret (by rw [if_pos e])) (fun e => ?_)
      rw [if_neg e]
      refine EvP.ite (fun e => EvP.ret (by rw [if_pos e])) (fun e => ?_)
      rw [if_neg e]
      refine EvP.ite (fun e => EvP.ret (by rw [if_pos e])) (fun e => ?_)
      rw [if_neg e]
      refine EvP.ite (fun e => EvP.ret (by rw [if_pos e])) (fun e => ?_)
      rw [if_neg e]
      refine EvP.ite (fun e => EvP.ret (by rw [if_pos e])) (fun e => ?_)
      rw [if_neg e]
      refine EvP.ite (fun e => EvP.ret (by rw [if_pos e])) (fun e => ?_)
      rw [if_neg e]
      exact EvP.yes (by omega) (EvP.ret rfl)
  · rw [if_neg (fun q => h q.1)]
    refine EvP.succ ?_
    simp only [spec_NeumeName.j0]
    exact ⟨_, Ev.congr (fun _ => if_pos trivial) (Ev.now _), rfl⟩
def conL (l : List TnG) : List UInt8 := Ways.waysB (l.map (·.f0))
def con (l : List TnG) : ByteArray := ⟨(conL l).toArray⟩
theorem conL_len (l : List TnG) : (conL l).length = l.length - 1 := by
  unfold conL Ways.waysB
  simp
theorem wayB_uds (a b : Int) : udsB (Ways.wayB a b) = true := by
  unfold Ways.wayB
  split
  · rfl
  · split <;> rfl
theorem conL_uds (l : List TnG) : (conL l).all udsB = true := by
  unfold conL Ways.waysB
  rw [List.all_eq_true]
  intro x hx
  obtain ⟨i, _, rfl⟩ := List.mem_map.mp hx
  exact wayB_uds _ _
theorem con_size (l : List TnG) : (con l).size = l.length - 1 := by
  have := list_len (con l)
  rw [← this]
  exact conL_len l
theorem con_ok {l : List TnG} (h : l.length ≤ 24) : okC (con l) = true := by
  unfold okC
  rw [con_size, decide_eq_true (by omega), Bool.and_true]
  exact conL_uds l
theorem impl_con (l : List TnG) (h : l.length ≤ 1000000) : impl_melody_contour.f l = some (con l) := by
  unfold impl_melody_contour.f
  rw [if_pos h]
  rfl
theorem spec_way (a b : Int) : spec_l3Way.f a b = some ⟨#[Ways.wayB a b]⟩ := by
  unfold spec_l3Way.f Ways.wayB
  split
  · rfl
  · split <;> rfl
theorem conL_at (l : List TnG) (i : Nat) (h : i + 1 < l.length) : (conL l)[i]'(by rw [conL_len]; omega) = Ways.wayB l[i].f0 l[i + 1].f0 := by
  apply Option.some.inj
  rw [← List.getElem?_eq_getElem]
  unfold conL Ways.waysB
  rw [List.getElem?_map, List.getElem?_range (by rw [List.length_map]; omega)]
  simp only [Option.map_some, List.getD_eq_getElem?_getD, List.getElem?_map]
  rw [List.getElem?_eq_getElem (by omega), List.getElem?_eq_getElem (by omega)]
  rfl
theorem spec_con_loop (l : List TnG) (hl : l.length ≤ 1000000) : ∀ (d i : Nat) (acc : ByteArray), (i + 1) + d = l.length → acc.data.toList = (conL l).take i → EvP (fun k => spec_l3Contour.l0 k l acc ((i + 1 : Nat) : Int)) (· = con l) := by
  intro d
  induction d with
  | zero =>
    intro i acc hi ha
    refine EvP.succ ?_
    simp only [spec_l3Contour.l0]
    refine EvP.no (by omega) (EvP.ret (ba_ext ?_))
    rw [ha, List.take_of_length_le (by rw [conL_len]; omega)]
    rfl
  | succ d ih =>
    intro i acc hi ha
    have e0 : Hd (wrap64 (((i + 1 : Nat) : Int) - 1) = (i : Int)) := ⟨by rw [w64 (by omega) (by omega)]; omega⟩
    have e1 : Hd (wrap64 (((i + 1 : Nat) : Int) + 1) = ((i + 1 + 1 : Nat) : Int)) := ⟨w64 (by omega) (by omega)⟩
    have hlen : acc.size ≤ i := by
      rw [← list_len, ha, List.length_take]
      omega
    refine EvP.succ ?_
    simp only [spec_l3Contour.l0]
    rw [e0.out, e1.out]
    refine EvP.yes (by omega) (EvP.yes (by omega) (EvP.yes (by omega) (EvP.yes (by omega) ?_)))
    rw [rdT_lt (l := l) (i := i) (by omega), rdT_lt (l := l) (i := i + 1) (by omega)]
    refine EvP.bind (P := (· = ⟨#[Ways.wayB l[i].f0 l[i + 1].f0]⟩)) (EvP.con (spec_way _ _) rfl) (fun _ e => ?_)
    subst e
    have h1 : (⟨#[Ways.wayB l[i].f0 l[i + 1].f0]⟩ : ByteArray).size = 1 := rfl
    refine EvP.yes (by omega) (ih (i + 1) _ (by omega) ?_)
    have hi' : i < (conL l).length := by rw [conL_len]; omega
    rw [app_data, ha, List.take_succ_eq_append_getElem hi']
    congr 1
    have : (conL l)[i] = Ways.wayB l[i].f0 l[i + 1].f0 := conL_at l i (by omega)
    rw [this]
theorem spec_con (l : List TnG) (hl : l.length ≤ 1000000) : EvP (fun k => spec_l3Contour.f k l) (· = con l) := by
  simp only [spec_l3Contour.f]
  cases l with
  | nil =>
    refine EvP.succ ?_
    simp only [spec_l3Contour.l0]
    exact EvP.no (by simp) (EvP.ret rfl)
  | cons t ts => exact spec_con_loop (t :: ts) hl ts.length 0 ⟨#[]⟩ (by simp; omega) (by simp)
end Go.Proofs.YtldepdaglapdeaaDoor.Pur
end
section
namespace Go.Proofs.YtldepdaglapdeaaDoor.Pur
open Go.RowKit Go.Proofs.YtldepdaglapdeaaDoorW.PrintWords Go.Proofs.YtldepdaglapdeaaDoorW.PrintMore Go.Proofs.YtldepdaglapdeaaDoor.E
abbrev MlG := S42
abbrev GpG := S73
theorem rdG_lt {l : List MlG} {i : Nat} (h : i < l.length) : rd_T42 l (i : Int) = l[i] := by
  unfold rd_T42
  rw [toNat_nat, List.getD_eq_getElem?_getD, List.getElem?_eq_getElem h]
  rfl
theorem rdP_lt {l : List GpG} {i : Nat} (h : i < l.length) : rd_T73 l (i : Int) = l[i] := by
  unfold rd_T73
  rw [toNat_nat, List.getD_eq_getElem?_getD, List.getElem?_eq_getElem h]
  rfl
theorem okM_parts {l : List TnG} (h : okM l = true) : l.all okT = true ∧ l.length ≤ 24 := by
  unfold okM at h
  simpa using h
def sumG : List MlG → Int
  | [] => 0
  | g :: gs => g.f0 + sumG gs
def okS (g : MlG) : Bool := decide (1 ≤ g.f0) && decide (g.f0 ≤ 4)
theorem okS_iff (g : MlG) : okS g = true ↔ 1 ≤ g.f0 ∧ g.f0 ≤ 4 := by
  unfold okS
  rw [Bool.and_eq_true, decide_eq_true_eq, decide_eq_true_eq]
theorem sum_low : ∀ gs : List MlG, gs.all okS = true → (gs.length : Int) ≤ sumG gs ∧ sumG gs ≤ 4 * (gs.length : Int)
  | [], _ => by simp [sumG]
  | g :: gs, h => by
    rw [List.all_cons, Bool.and_eq_true] at h
    have h1 := (okS_iff g).mp h.1
    have h2 := sum_low gs h.2
    simp only [sumG, List.length_cons]
    omega
def cutG : List TnG → List MlG → Option (List GpG)
  | m, [] => if m.length = 0 then some [] else none
  | m, g :: gs => if 1 ≤ g.f0 ∧ g.f0 ≤ 4 ∧ g.f0 ≤ (m.length : Int) then (cutG (m.drop g.f0.toNat) gs).map (⟨m.take g.f0.toNat, g.f1⟩ :: ·) else none
theorem cut_some : ∀ (gs : List MlG) (m : List TnG), (cutG m gs).isSome = (gs.all okS && decide (sumG gs = (m.length : Int)))
  | [], m => by
    unfold cutG
    rw [List.all_nil, Bool.true_and]
    split
    · rename_i h; rw [h]; rfl
    · rename_i h
      have : ¬ sumG [] = (m.length : Int) := by simp only [sumG]; omega
      rw [decide_eq_false this]; rfl
  | g :: gs, m => by
    unfold cutG
    rw [List.all_cons]
    split
    · rename_i h
      obtain ⟨h1, h2, h3⟩ := h
      rw [Option.isSome_map, cut_some gs, (okS_iff g).mpr ⟨h1, h2⟩, Bool.true_and]
      congr 1
      rw [decide_eq_decide, List.length_drop]
      simp only [sumG]
      omega
    · rename_i h
      symm
      rw [Option.isSome_none, Bool.and_eq_false_iff, Bool.and_eq_false_iff]
      by_cases hg : okS g = true
      · by_cases ha : gs.all okS = true
        · right
          have h1 := (okS_iff g).mp hg
          have h2 := sum_low gs ha
          apply decide_eq_false
          simp only [sumG]
          omega
        · exact .inl (.inr (Bool.eq_false_iff.mpr ha))
      · exact .inl (.inl (Bool.eq_false_iff.mpr hg))
def grp (m : List TnG) (gs : List MlG) : Option (List GpG) := if okM m = true then cutG m gs else none
theorem grp_some (m : List TnG) (gs : List MlG) : (grp m gs).isSome = (okM m && (gs.all okS && decide (sumG gs = (m.length : Int)))) := by
  unfold grp
  by_cases h : okM m = true
  · rw [if_pos h, h, Bool.true_and, cut_some]
  · rw [if_neg h, Bool.eq_false_iff.mpr h, Bool.false_and]; rfl
theorem grp_of {m : List TnG} {gs : List MlG} {l : List GpG} (h : grp m gs = some l) : okM m = true ∧ m.length ≤ 24 ∧ gs.all okS = true ∧ sumG gs = (m.length : Int) ∧ gs.length ≤ m.length ∧ cutG m gs = some l := by
  have h1 := grp_some m gs
  rw [h] at h1
  have h1 := h1.symm
  rw [Option.isSome_some, Bool.and_eq_true, Bool.and_eq_true, decide_eq_true_eq] at h1
  obtain ⟨a, b, c⟩ := h1
  have h2 := sum_low gs b
  refine ⟨a, (okM_parts a).2, b, c, by omega, ?_⟩
  unfold grp at h
  rw [if_pos a] at h
  exact h
theorem cut_len : ∀ (gs : List MlG) (m : List TnG) (l : List GpG), cutG m gs = some l → l.length = gs.length
  | [], m, l, h => by
    unfold cutG at h
    split at h
    · obtain rfl := Option.some.inj h; rfl
    · exact absurd h (by simp)
  | g :: gs, m, l, h => by
    unfold cutG at h
    split at h
    · obtain ⟨l', h', rfl⟩ := Option.map_eq_some_iff.mp h
      rw [List.length_cons, List.length_cons, cut_len gs _ _ h']
    · exact absurd h (by simp)
theorem cut_at : ∀ (gs : List MlG) (m : List TnG) (l : List GpG), cutG m gs = some l → ∀ (i : Nat) (g : MlG), gs[i]? = some g →
    ∃ b : Nat, (b : Int) = sumG (gs.take i) ∧ b + g.f0.toNat ≤ m.length ∧ 1 ≤ g.f0 ∧ g.f0 ≤ 4 ∧ l[i]? = some ⟨(m.take (b + g.f0.toNat)).drop b, g.f1⟩
  | [], m, l, h, i, g, hi => by simp at hi
  | g' :: gs, m, l, h, i, g, hi => by
    unfold cutG at h
    split at h
    · rename_i hc
      obtain ⟨l', h', rfl⟩ := Option.map_eq_some_iff.mp h
      cases i with
      | zero =>
        obtain rfl : g' = g := by simpa using hi
        refine ⟨0, rfl, by omega, hc.1, hc.2.1, ?_⟩
        rw [Nat.zero_add, List.drop_zero]
        rfl
      | succ i =>
        obtain ⟨b, hb, hl, h1, h4, he⟩ := cut_at gs _ _ h' i g (by simpa using hi)
        rw [List.length_drop] at hl
        refine ⟨g'.f0.toNat + b, ?_, by omega, h1, h4, ?_⟩
        · rw [List.take_succ_cons]
          simp only [sumG]
          omega
        · have hx : ∀ (m : List TnG) (s b f : Nat), ((m.drop s).take (b + f)).drop b = (m.take (s + b + f)).drop (s + b) := by
            intro m s b f
            rw [List.drop_take, List.drop_take, List.drop_drop]
            congr 1
            omega
          rw [List.getElem?_cons_succ, he, hx]
    · exact absurd h (by simp)
theorem impl_groups_loop (gs : List MlG) (hg : gs.length ≤ 1048576) : ∀ (d i : Nat) (acc : List GpG) (m : List TnG), i + d = gs.length → acc.length + m.length ≤ 24 →
    EvP (fun k => impl_groupsOf.l0 k acc m gs (gs.length : Int) (i : Int)) (fun r => (∀ l, cutG m (gs.drop i) = some l → r = (acc ++ l, true)) ∧ (cutG m (gs.drop i) = none → r.2 = false)) := by
  intro d
  induction d with
  | zero =>
    intro i acc m hi hm
    refine EvP.succ ?_
    simp only [impl_groupsOf.l0]
    refine EvP.no (by omega) (EvP.ret ?_)
    rw [List.drop_of_length_le (by omega)]
    simp only [cutG]
    by_cases h : m.length = 0
    · rw [if_pos h, h]
      refine ⟨fun l e => ?_, fun e => absurd e (by simp)⟩
      obtain rfl := Option.some.inj e
      rw [List.append_nil]
      rfl
    · rw [if_neg h]
      refine ⟨fun l e => absurd e (by simp), fun _ => ?_⟩
      have : ¬ (m.length : Int) = 0 := by omega
      exact beq_eq_false_iff_ne.mpr this
  | succ d ih =>
    intro i acc m hi hm
    have hlt : i < gs.length := by omega
    have e1 : Hd (wrap64 ((i : Int) + 1) = ((i + 1 : Nat) : Int)) := ⟨w64 (by omega) (by omega)⟩
    refine EvP.succ ?_
    simp only [impl_groupsOf.l0]
    refine EvP.yes (by omega) (EvP.yes (by omega) (EvP.yes (by omega) ?_))
    rw [rdG_lt hlt, List.drop_eq_getElem_cons hlt, e1.out]
    obtain ⟨g, hgg⟩ : ∃ g, gs[i] = g := ⟨_, rfl⟩
    rw [hgg]
    simp only [cutG]
    have bad : ∀ r : List GpG × Bool, r.2 = false → ¬ (1 ≤ g.f0 ∧ g.f0 ≤ 4 ∧ g.f0 ≤ (m.length : Int)) → (∀ l, (if 1 ≤ g.f0 ∧ g.f0 ≤ 4 ∧ g.f0 ≤ (m.length : Int) then (cutG (m.drop g.f0.toNat) (gs.drop (i + 1))).map (⟨m.take g.f0.toNat, g.f1⟩ :: ·) else none) = some l → r = (acc ++ l, true)) ∧ ((if 1 ≤ g.f0 ∧ g.f0 ≤ 4 ∧ g.f0 ≤ (m.length : Int) then (cutG (m.drop g.f0.toNat) (gs.drop (i + 1))).map (⟨m.take g.f0.toNat, g.f1⟩ :: ·) else none) = none → r.2 = false) := by
      intro r hr hn
      rw [if_neg hn]
      exact ⟨fun l e => absurd e (by simp), fun _ => hr⟩
    refine EvP.ite (fun h => EvP.ret (bad _ rfl (by omega))) (fun h1 => ?_)
    refine EvP.ite (fun h => EvP.ret (bad _ rfl (by omega))) (fun h2 => ?_)
    refine EvP.ite (fun h => EvP.ret (bad _ rfl (by omega))) (fun h3 => ?_)
    refine EvP.yes (by omega) (EvP.yes (by omega) (EvP.yes (by omega) ?_))
    refine (ih (i + 1) _ _ (by omega) (by rw [List.length_append, List.length_drop]; simp only [List.length_cons, List.length_nil]; omega)).mono (fun r hr => ?_)
    rw [if_pos ⟨by omega, by omega, by omega⟩]
    refine ⟨fun l e => ?_, fun e => ?_⟩
    · obtain ⟨l', e', rfl⟩ := Option.map_eq_some_iff.mp e
      rw [hr.1 l' e', List.append_assoc]
      rfl
    · exact hr.2 (Option.map_eq_none_iff.mp e)
theorem impl_groups (m : List TnG) (gs : List MlG) (hg : gs.length ≤ 1048576) : EvP (fun k => impl_groupsOf.f k m gs) (fun r => (∀ l, grp m gs = some l → r = (l, true)) ∧ (grp m gs = none → r.2 = false)) := by
  simp only [impl_groupsOf.f]
  refine EvP.bind (impl_melody m) (fun _ e => ?_)
  subst e
  unfold grp
  refine EvP.ite (fun h => ?_) (fun h => EvP.ret ?_)
  · rw [if_pos h]
    have := (okM_parts h).2
    exact impl_groups_loop gs hg gs.length 0 [] m (by omega) (by simpa using this)
  · rw [if_neg h]
    exact ⟨fun l e => absurd e (by simp), fun _ => rfl⟩
theorem impl_gvalid (m : List TnG) (gs : List MlG) (hg : gs.length ≤ 1048576) : EvP (fun k => impl_GroupsValid.f k m gs) (· = (grp m gs).isSome) := by
  simp only [impl_GroupsValid.f]
  refine EvP.bind (impl_groups m gs hg) (fun r e => EvP.ret ?_)
  cases h : grp m gs with
  | none => rw [e.2 h]; rfl
  | some l => rw [e.1 l h]; rfl
theorem in_ok (g : MlG) : spec_l6In.f g.f0 1 4 = some (okS g) := by
  unfold spec_l6In.f okS
  by_cases h : g.f0 ≥ 1
  · rw [if_pos h, decide_eq_true (show 1 ≤ g.f0 from h), Bool.true_and]
  · rw [if_neg h, decide_eq_false (show ¬ 1 ≤ g.f0 from h), Bool.false_and]
theorem spec_gvalid_loop (m : List TnG) (gs : List MlG) (hm : m.length ≤ 1000000000) (hg : gs.length ≤ 24) : ∀ (d i : Nat) (s : Int), i + d = gs.length → 0 ≤ s → s ≤ 4 * (i : Int) →
    EvP (fun k => spec_GroupsValid.l0 k m gs s (i : Int)) (· = ((gs.drop i).all okS && decide (s + sumG (gs.drop i) = (m.length : Int)))) := by
  intro d
  induction d with
  | zero =>
    intro i s hi h0 h1
    refine EvP.succ ?_
    simp only [spec_GroupsValid.l0]
    refine EvP.no (by omega) (EvP.ret ?_)
    rw [List.drop_of_length_le (by omega)]
    simp only [List.all_nil, Bool.true_and, sumG, Int.add_zero]
    rfl
  | succ d ih =>
    intro i s hi h0 h1
    have hlt : i < gs.length := by omega
    have e1 : Hd (wrap64 ((i : Int) + 1) = ((i + 1 : Nat) : Int)) := ⟨w64 (by omega) (by omega)⟩
    refine EvP.succ ?_
    simp only [spec_GroupsValid.l0]
    refine EvP.yes (by omega) (EvP.yes (by omega) ?_)
    rw [rdG_lt hlt, List.drop_eq_getElem_cons hlt, e1.out, List.all_cons]
    obtain ⟨g, hgg⟩ : ∃ g, gs[i] = g := ⟨_, rfl⟩
    rw [hgg]
    refine EvP.bind (P := (· = okS g)) (EvP.con (in_ok g) rfl) (fun _ e => ?_)
    subst e
    refine EvP.ite (fun h => ?_) (fun h => EvP.ret ?_)
    · have hh := (okS_iff g).mp h
      rw [w64 (by omega) (by omega), h, Bool.true_and]
      refine (ih (i + 1) _ (by omega) (by omega) (by omega)).mono (fun r hr => ?_)
      rw [hr]
      congr 1
      rw [decide_eq_decide]
      simp only [sumG]
      omega
    · rw [Bool.eq_false_iff.mpr h]
      rfl
theorem spec_gvalid (m : List TnG) (gs : List MlG) (hm : m.length ≤ 1000000000) (hg : gs.length ≤ 1048576) : EvP (fun k => spec_GroupsValid.f k m gs) (· = (grp m gs).isSome) := by
  simp only [spec_GroupsValid.f]
  refine EvP.bind (spec_melody m (by omega)) (fun _ e => ?_)
  subst e
  rw [grp_some]
  refine EvP.ite (fun h => ?_) (fun h => ?_)
  · have hl := (okM_parts h).2
    rw [h, Bool.true_and]
    refine EvP.succ ?_
    simp only [spec_GroupsValid.j0]
    refine EvP.ite (fun h2 => EvP.ret ?_) (fun h2 => ?_)
    · have h3 := of_decide_eq_true h2
      symm
      rw [Bool.and_eq_false_iff]
      by_cases ha : gs.all okS = true
      · right
        have := sum_low gs ha
        apply decide_eq_false
        omega
      · exact .inl (Bool.eq_false_iff.mpr ha)
    · have h3 : ¬ (gs.length : Int) > 24 := fun e => h2 (decide_eq_true e)
      refine (spec_gvalid_loop m gs hm (by omega) gs.length 0 0 (by omega) (by omega) (by omega)).mono (fun r hr => ?_)
      rw [hr, List.drop_zero, Int.zero_add]
  · rw [Bool.eq_false_iff.mpr h, Bool.false_and]
    refine EvP.succ ?_
    simp only [spec_GroupsValid.j0]
    exact EvP.yes trivial (EvP.ret rfl)
theorem spec_begin_loop (gs : List MlG) (n : Nat) (hn : n ≤ gs.length) (hg : gs.length ≤ 24) (ha : gs.all okS = true) : ∀ (d i : Nat) (s : Int), i + d = n → s = sumG (gs.take i) → 0 ≤ s → s ≤ 4 * (i : Int) →
    EvP (fun k => spec_l3Begin.l0 k gs (n : Int) s (i : Int)) (· = sumG (gs.take n)) := by
  intro d
  induction d with
  | zero =>
    intro i s hi hs h0 h1
    refine EvP.succ ?_
    simp only [spec_l3Begin.l0]
    obtain rfl : i = n := by omega
    exact EvP.no (by omega) (EvP.ret hs)
  | succ d ih =>
    intro i s hi hs h0 h1
    have hlt : i < gs.length := by omega
    have e1 : Hd (wrap64 ((i : Int) + 1) = ((i + 1 : Nat) : Int)) := ⟨w64 (by omega) (by omega)⟩
    have hh := (okS_iff gs[i]).mp (List.all_eq_true.mp ha _ (List.getElem_mem hlt))
    refine EvP.succ ?_
    simp only [spec_l3Begin.l0]
    refine EvP.yes (by omega) (EvP.yes (by omega) (EvP.yes (by omega) ?_))
    rw [rdG_lt hlt, e1.out, w64 (by omega) (by omega)]
    refine ih (i + 1) _ (by omega) ?_ (by omega) (by omega)
    have hsum : ∀ (a : List MlG) (g : MlG), sumG (a ++ [g]) = sumG a + g.f0 := by
      intro a g
      induction a with
      | nil => simp [sumG]
      | cons x xs ih => simp only [List.cons_append, sumG, ih]; omega
    rw [List.take_succ_eq_append_getElem hlt, hsum, hs]
theorem spec_begin (gs : List MlG) (n : Nat) (hn : n ≤ gs.length) (hg : gs.length ≤ 24) (ha : gs.all okS = true) : EvP (fun k => spec_l3Begin.f k gs (n : Int)) (· = sumG (gs.take n)) := spec_begin_loop gs n hn hg ha n 0 0 (by omega) rfl (by omega) (by omega)
end Go.Proofs.YtldepdaglapdeaaDoor.Pur
end
section
namespace Go.Proofs.YtldepdaglapdeaaDoor.E
open Go.RowKit Go.Proofs.YtldepdaglapdeaaDoorW.PrintWords Go.Proofs.YtldepdaglapdeaaDoorW.PrintLast Go.Proofs.YtldepdaglapdeaaDoorW.PrintMore
attribute [local go_sem] max2_int min2_int max_two min_two max_three min_three max_four min_four
set_option linter.unusedVariables false
set_option linter.unusedSimpArgs false
attribute [local go_sem] str_leq_ str_gtr_ str_geq_
def impl_copiedTones.f (l0 : List (S56)) : Option (List (S56)) := if l0.length ≤ 8796093022208 then some l0 else none
def flatT (l : List (S56)) : List Value := l.flatMap fun t => [.int .i64 t.f0, .bool t.f1]
end Go.Proofs.YtldepdaglapdeaaDoor.E
end
section
namespace Go.Proofs.YtldepdaglapdeaaDoor.E
open Go.RowKit Go.Proofs.YtldepdaglapdeaaDoorW.PrintWords Go.Proofs.YtldepdaglapdeaaDoorW.PrintLast Go.Proofs.YtldepdaglapdeaaDoorW.PrintMore
attribute [local go_sem] max2_int min2_int max_two min_two max_three min_three max_four min_four
set_option linter.unusedVariables false
set_option linter.unusedSimpArgs false
attribute [local go_sem] str_leq_ str_gtr_ str_geq_
def impl_GroupsCut.f (k : Nat) (l0 : List (S56)) (l1 : List (S42)) (a2 : Int) : Option ((List (S56)) × Bool) := (impl_groupsOf.f k l0 l1).bind fun bt332 => (if bt332.2 = true then (if a2 < 0 then (some (([] : List (S56)), false)) else (if a2 ≥ (bt332.1.length : Int) then (some (([] : List (S56)), false)) else (if 0 ≤ a2 then (if a2 < (bt332.1.length : Int) then ((impl_copiedTones.f ((rd_T73 bt332.1 a2).f0)).bind fun t337 => (some (t337, true))) else (none)) else (none)))) else (some (([] : List (S56)), false)))
end Go.Proofs.YtldepdaglapdeaaDoor.E
end
section
namespace Go.Proofs.YtldepdaglapdeaaDoor.E
open Go.RowKit Go.Proofs.YtldepdaglapdeaaDoorW.PrintWords Go.Proofs.YtldepdaglapdeaaDoorW.PrintLast Go.Proofs.YtldepdaglapdeaaDoorW.PrintMore
attribute [local go_sem] max2_int min2_int max_two min_two max_three min_three max_four min_four
set_option linter.unusedVariables false
set_option linter.unusedSimpArgs false
attribute [local go_sem] str_leq_ str_gtr_ str_geq_
def spec_GroupsCut.f (k : Nat) (l0 : List (S56)) (l1 : List (S42)) (a2 : Int) : Option ((List (S56)) × Bool) := (spec_GroupsValid.f k l0 l1).bind fun t386 => (if t386 = true then ((spec_l6In.f a2 0 (wrap64 ((l1.length : Int) - 1))).bind fun t387 => (if t387 = true then ((spec_l3Begin.f k l1 a2).bind fun t388 => ((some (([] : List (S56)) : List (S56))).bind fun y389 => (if 0 ≤ a2 then (if a2 < (l1.length : Int) then (if 0 ≤ t388 then (if t388 ≤ (wrap64 (t388 + ((rd_T42 l1 a2).f0))) then (if (wrap64 (t388 + ((rd_T42 l1 a2).f0))) ≤ (l0.length : Int) then ((some ((l0.take ((wrap64 (t388 + ((rd_T42 l1 a2).f0))) : Int).toNat).drop (t388 : Int).toNat : List (S56))).bind fun y393 => (if y389.length + y393.length < 8796093022208 then (some ((y389 ++ y393), true)) else (none))) else (none)) else (none)) else (none)) else (none)) else (none)))) else (some ((([] : List (S56))), false)))) else (some ((([] : List (S56))), false)))
end Go.Proofs.YtldepdaglapdeaaDoor.E
end
section
namespace Go.Proofs.YtldepdaglapdeaaDoor.Pur
open Go Go.RowKit Go.Proofs.YtldepdaglapdeaaDoorW.PrintWords Go.Proofs.YtldepdaglapdeaaDoorW.PrintMore Go.Proofs.YtldepdaglapdeaaDoor.E
def isHead (u : UInt8) : Prop := u = 112 ∨ u = 99 ∨ u = 116 ∨ u = 115 ∨ u = 103
theorem nnm_head (c : ByteArray) : ∃ u l, (nnm c).data.toList = u :: l ∧ isHead u := by
  unfold nnm isHead
  repeat' split
  all_goals exact ⟨_, _, rfl, by decide⟩
theorem nnm_size (c : ByteArray) (h : c.size ≤ 3) : (nnm c).size ≤ 9 := by
  unfold nnm
  repeat' split
  all_goals first | decide | skip
  rw [ByteArray.size_append]
  have : (⟨#[103, 114, 111, 117, 112, 45]⟩ : ByteArray).size = 6 := rfl
  omega
def liqB (n : ByteArray) : ByteArray := match n.data.toList with
  | [] => ⟨#[]⟩
  | u :: l => ⟨((u - 32) :: l).toArray⟩
def gname (g : GpG) : ByteArray := if g.f1 = true then liqB (nnm (con g.f0)) else nnm (con g.f0)
theorem liq_data {n : ByteArray} {u : UInt8} {l : List UInt8} (h : n.data.toList = u :: l) : (liqB n).data.toList = (u - 32) :: l := by
  unfold liqB
  rw [h]
theorem ext0 {n : ByteArray} {u : UInt8} {l : List UInt8} (h : n.data.toList = u :: l) : (n.extract 0 1).data.toList = [u] := by
  rw [ByteArray.data_extract, Array.toList_extract, List.extract_eq_take_drop, h]
  rfl
theorem ext1 {n : ByteArray} {u : UInt8} {l : List UInt8} (h : n.data.toList = u :: l) : (n.extract 1 n.size).data.toList = l := by
  have hs := list_len n
  rw [h, List.length_cons] at hs
  rw [ByteArray.data_extract, Array.toList_extract, List.extract_eq_take_drop, h, ← hs]
  simp
theorem head_up {u : UInt8} (h : isHead u) : Go.Lib.toUpperA [u] = [u - 32] ∧ u.toNat < 128 ∧ 32 ≤ u.toNat ∧ UInt8.ofNat (((u.toNat : Int) - 32) % 256).toNat = u - 32 ∧ u - 32 ≠ u ∧ u - 32 ≠ 32 := by
  unfold isHead at h
  rcases h with rfl | rfl | rfl | rfl | rfl <;> decide
theorem impl_gname (l : List TnG) (b : Bool) (hl : l.length ≤ 4) : impl_group_name.f l b = some (gname ⟨l, b⟩) := by
  have hc : (con l).size ≤ 3 := by rw [con_size]; omega
  have hn : nameB (con l) = nnm (con l) := if_pos ⟨con_ok (by omega), hc⟩
  have hz := nnm_size _ hc
  obtain ⟨u, t, hd, hu⟩ := nnm_head (con l)
  have hs := list_len (nnm (con l))
  rw [hd, List.length_cons] at hs
  obtain ⟨h1, h2, h3, _, _, _⟩ := head_up hu
  unfold impl_group_name.f
  rw [impl_con l (by omega), Option.bind_some, impl_nn, Option.bind_some, hn]
  unfold gname
  cases b with
  | false => rfl
  | true =>
    have e0 := ext0 hd
    have e1 := ext1 hd
    have z0 : ((nnm (con l)).extract 0 1).size = 1 := by rw [← list_len, e0]; rfl
    have z1 : ((nnm (con l)).extract 1 (nnm (con l)).size).size ≤ 9 := by rw [← list_len, e1]; omega
    have hup : strings_ToUpper.f ((nnm (con l)).extract 0 1) = some ⟨(Go.Lib.toUpperA [u]).toArray⟩ := by
      unfold strings_ToUpper.f
      rw [if_pos (by omega), e0, if_pos (by simp [h2])]
    have zz : (⟨(Go.Lib.toUpperA [u]).toArray⟩ : ByteArray).size = 1 := by rw [h1]; rfl
    rw [if_pos rfl, if_pos (by decide), if_pos (by omega), hup, Option.bind_some, if_pos (by omega)]
    refine congrArg some (ba_ext ?_)
    rw [app_data, e1, if_pos rfl, liq_data hd, h1]
    rfl
theorem spec_gname (l : List TnG) (b : Bool) (hl : l.length ≤ 4) : EvP (fun k => spec_l3Name.f k l b) (· = gname ⟨l, b⟩) := by
  have hc : (con l).size ≤ 3 := by rw [con_size]; omega
  have hn : nameB (con l) = nnm (con l) := if_pos ⟨con_ok (by omega), hc⟩
  have hz := nnm_size _ hc
  obtain ⟨u, t, hd, hu⟩ := nnm_head (con l)
  have hs := list_len (nnm (con l))
  rw [hd, List.length_cons] at hs
  obtain ⟨_, _, h3, h4, _, _⟩ := head_up hu
  simp only [spec_l3Name.f]
  refine EvP.bind (spec_con l (by omega)) (fun _ e => ?_)
  subst e
  refine EvP.bind (spec_nn (con l) (by omega)) (fun _ e => ?_)
  subst e
  rw [hn]
  unfold gname
  cases b with
  | false => exact EvP.no (by decide) (EvP.ret rfl)
  | true =>
    have e1 := ext1 hd
    have z1 : ((nnm (con l)).extract 1 (nnm (con l)).size).size ≤ 9 := by rw [← list_len, e1]; omega
    have zz : ∀ x : Int, (strOfNums [x]).size = 1 := fun x => by rw [strOfNums_size]; rfl
    refine EvP.yes rfl (EvP.yes (by omega) ?_)
    have hb := bt_at (nnm (con l)) 0 (by omega)
    have hb : bt (nnm (con l)) 0 = (u.toNat : Int) := by
      rw [show (0 : Int) = ((0 : Nat) : Int) from rfl, hb]
      simp only [hd, List.getElem_cons_zero]
    rw [hb]
    refine EvP.bind (P := (· = [((u.toNat : Int) - 32) % 256])) (EvP.ret rfl) (fun _ e => ?_)
    subst e
    refine EvP.yes (by omega) (EvP.yes (by have := zz (((u.toNat : Int) - 32) % 256); omega) (EvP.ret ?_))
    rw [if_pos rfl]
    apply ba_ext
    rw [app_data, e1, liq_data hd, strOfNums_data, List.map_cons, List.map_nil, h4]
    rfl
theorem gname_size (g : GpG) (h : g.f0.length ≤ 4) : (gname g).size ≤ 9 := by
  have hc : (con g.f0).size ≤ 3 := by rw [con_size]; omega
  have hz := nnm_size _ hc
  obtain ⟨u, t, hd, _⟩ := nnm_head (con g.f0)
  unfold gname
  split
  · rw [← list_len, liq_data hd]
    rw [← list_len, hd] at hz
    exact hz
  · exact hz
theorem gname_t (l : List TnG) : gname ⟨l, true⟩ = liqB (nnm (con l)) := rfl
theorem gname_f (l : List TnG) : gname ⟨l, false⟩ = nnm (con l) := rfl
theorem gname_flip (l : List TnG) (b : Bool) : ∃ u v t, (gname ⟨l, b⟩).data.toList = u :: t ∧ (gname ⟨l, !b⟩).data.toList = v :: t ∧ u ≠ v := by
  obtain ⟨u, t, hd, hu⟩ := nnm_head (con l)
  have h5 := (head_up hu).2.2.2.2.1
  cases b with
  | false => exact ⟨u, u - 32, t, by rw [gname_f]; exact hd, by rw [Bool.not_false, gname_t]; exact liq_data hd, fun e => h5 e.symm⟩
  | true => exact ⟨u - 32, u, t, by rw [gname_t]; exact liq_data hd, by rw [Bool.not_true, gname_f]; exact hd, h5⟩
def tailN : List ByteArray → List UInt8
  | [] => []
  | t :: ts => 32 :: (t.data.toList ++ tailN ts)
def joinN : List ByteArray → List UInt8
  | [] => []
  | t :: ts => t.data.toList ++ tailN ts
theorem tailN_app : ∀ a b : List ByteArray, tailN (a ++ b) = tailN a ++ tailN b
  | [], _ => rfl
  | t :: ts, b => by
    simp only [List.cons_append, tailN, tailN_app ts b, List.append_assoc]
theorem tailN_len : ∀ l : List ByteArray, (∀ t ∈ l, t.size ≤ 9) → (tailN l).length ≤ 10 * l.length
  | [], _ => Nat.le_refl _
  | t :: ts, h => by
    have h1 := tailN_len ts (fun x hx => h x (List.mem_cons_of_mem _ hx))
    have h2 := h t (List.mem_cons_self ..)
    simp only [tailN, List.length_cons, List.length_append, list_len]
    omega
theorem joinN_len (l : List ByteArray) (h : ∀ t ∈ l, t.size ≤ 9) : (joinN l).length ≤ 10 * l.length := by
  cases l with
  | nil => exact Nat.le_refl _
  | cons t ts =>
    have h1 := tailN_len ts (fun x hx => h x (List.mem_cons_of_mem _ hx))
    have h2 := h t (List.mem_cons_self ..)
    simp only [joinN, List.length_cons, List.length_append, list_len]
    omega
theorem join_tail : ∀ (t : ByteArray) (l : List ByteArray), ([32] : List UInt8).intercalate ((t :: l).map (·.data.toList)) = t.data.toList ++ tailN l
  | t, [] => by simp [List.intercalate, tailN]
  | t, u :: r => by
    have h := join_tail u r
    simp only [List.map_cons, List.intercalate, List.intersperse, List.flatten_cons, tailN] at h ⊢
    rw [h]
    simp
theorem join_is (l : List ByteArray) : ([32] : List UInt8).intercalate (l.map (·.data.toList)) = joinN l := by
  cases l with
  | nil => rfl
  | cons t r => exact join_tail t r
def gnm (m : List TnG) (gs : List MlG) : List UInt8 := match grp m gs with
  | none => []
  | some l => joinN (l.map gname)
theorem gnm_some {m : List TnG} {gs : List MlG} {l : List GpG} (h : grp m gs = some l) : gnm m gs = joinN (l.map gname) := by unfold gnm; rw [h]
theorem gnm_none {m : List TnG} {gs : List MlG} (h : grp m gs = none) : gnm m gs = [] := by unfold gnm; rw [h]
theorem grp_small {m : List TnG} {gs : List MlG} {l : List GpG} (h : grp m gs = some l) : l.length = gs.length ∧ l.length ≤ 24 ∧ ∀ g ∈ l, g.f0.length ≤ 4 := by
  obtain ⟨_, h1, _, _, h2, hc⟩ := grp_of h
  have hl := cut_len gs m l hc
  refine ⟨hl, by omega, fun g hg => ?_⟩
  obtain ⟨i, hi, rfl⟩ := List.mem_iff_getElem.mp hg
  obtain ⟨b, _, _, _, h4, he⟩ := cut_at gs m l hc i gs[i] (List.getElem?_eq_getElem (by omega))
  rw [List.getElem?_eq_getElem hi] at he
  rw [Option.some.inj he]
  simp only [List.length_drop, List.length_take]
  omega
theorem names_small {m : List TnG} {gs : List MlG} {l : List GpG} (h : grp m gs = some l) : ∀ t ∈ l.map gname, t.size ≤ 9 := by
  intro t ht
  obtain ⟨g, hg, rfl⟩ := List.mem_map.mp ht
  exact gname_size g ((grp_small h).2.2 g hg)
theorem impl_gnames_loop (l : List GpG) (hl : l.length ≤ 24) (h4 : ∀ g ∈ l, g.f0.length ≤ 4) : ∀ (d i : Nat), i + d = l.length → EvP (fun k => impl_GroupsNames.l0 k ((l.map gname).take i) l (l.length : Int) (i : Int)) (· = ⟨(joinN (l.map gname)).toArray⟩) := by
  intro d
  induction d with
  | zero =>
    intro i hi
    refine EvP.succ ?_
    simp only [impl_GroupsNames.l0]
    refine EvP.no (by omega) ?_
    rw [List.take_of_length_le (by rw [List.length_map]; omega)]
    have hj := join_is (l.map gname)
    have hz : (⟨#[32]⟩ : ByteArray).data.toList = [32] := rfl
    have hm := joinN_len (l.map gname) (fun t ht => by
      obtain ⟨g, hg, rfl⟩ := List.mem_map.mp ht
      exact gname_size g (h4 g hg))
    rw [List.length_map] at hm
    refine EvP.bind (P := (· = ⟨(joinN (l.map gname)).toArray⟩)) (EvP.con ?_ rfl) (fun _ e => EvP.ret e)
    unfold strings_Join.f Go.Lib.join
    rw [hz, hj, if_pos (by rw [List.length_map]; omega), if_pos (by omega)]
  | succ d ih =>
    intro i hi
    have hlt : i < l.length := by omega
    have e1 : Hd (wrap64 ((i : Int) + 1) = ((i + 1 : Nat) : Int)) := ⟨w64 (by omega) (by omega)⟩
    refine EvP.succ ?_
    simp only [impl_GroupsNames.l0]
    refine EvP.yes (by omega) (EvP.yes (by omega) (EvP.yes (by omega) ?_))
    rw [rdP_lt hlt, e1.out]
    refine EvP.bind (P := (· = gname l[i])) (EvP.con (impl_gname _ _ (h4 _ (List.getElem_mem hlt))) rfl) (fun _ e => ?_)
    subst e
    refine EvP.yes (by rw [List.length_take, List.length_map]; omega) ?_
    have := List.take_succ_eq_append_getElem (l := l.map gname) (i := i) (by rw [List.length_map]; exact hlt)
    rw [List.getElem_map] at this
    rw [← this]
    exact ih (i + 1) (by omega)
theorem impl_gnames (m : List TnG) (gs : List MlG) (hg : gs.length ≤ 1048576) : EvP (fun k => impl_GroupsNames.f k m gs) (· = ⟨(gnm m gs).toArray⟩) := by
  simp only [impl_GroupsNames.f]
  refine EvP.bind (impl_groups m gs hg) (fun r e => ?_)
  cases h : grp m gs with
  | none =>
    rw [e.2 h, gnm_none h]
    exact EvP.no (by decide) (EvP.ret rfl)
  | some l =>
    rw [e.1 l h, gnm_some h]
    obtain ⟨_, h2, h3⟩ := grp_small h
    exact EvP.yes rfl (impl_gnames_loop l h2 h3 l.length 0 (by omega))
theorem spec_ith {m : List TnG} {gs : List MlG} {l : List GpG} (h : grp m gs = some l) (i : Nat) (hi : i < gs.length) (hi' : i < l.length) {β : Type} (F : Nat → ByteArray → Option β) (Q : β → Prop) (hF : EvP (fun k => F k (gname l[i])) Q) :
    EvP (fun k => (spec_l3Begin.f k gs (i : Int)).bind fun t => (if 0 ≤ (i : Int) then (if (i : Int) < (gs.length : Int) then (if 0 ≤ t then (if t ≤ (wrap64 (t + gs[i].f0)) then (if (wrap64 (t + gs[i].f0)) ≤ (m.length : Int) then ((spec_l3Name.f k ((m.take ((wrap64 (t + gs[i].f0)) : Int).toNat).drop (t : Int).toNat) gs[i].f1).bind fun u => F k u) else (none)) else (none)) else (none)) else (none)) else (none))) Q := by
  obtain ⟨_, h1, ha, _, h2, hc⟩ := grp_of h
  obtain ⟨b, hb, hl, h3, h4, he⟩ := cut_at gs m l hc i gs[i] (List.getElem?_eq_getElem hi)
  refine EvP.bind (spec_begin gs i (by omega) (by omega) ha) (fun _ e => ?_)
  subst e
  rw [← hb]
  have e1 : Hd (wrap64 ((b : Int) + gs[i].f0) = ((b + gs[i].f0.toNat : Nat) : Int)) := ⟨by rw [w64 (by omega) (by omega)]; omega⟩
  rw [e1.out]
  refine EvP.yes (by omega) (EvP.yes (by omega) (EvP.yes (by omega) (EvP.yes (by omega) (EvP.yes (by omega) ?_))))
  rw [toNat_nat, toNat_nat]
  have he : l[i] = ⟨(m.take (b + gs[i].f0.toNat)).drop b, gs[i].f1⟩ := by
    rw [List.getElem?_eq_getElem hi'] at he
    exact Option.some.inj he
  rw [he] at hF
  exact EvP.bind (spec_gname _ _ (by rw [List.length_drop, List.length_take]; omega)) (fun _ e => by subst e; exact hF)
theorem spec_gnames_loop {m : List TnG} {gs : List MlG} {l : List GpG} (h : grp m gs = some l) (hm : m.length ≤ 1000000000) : ∀ (d i : Nat) (acc : ByteArray), i + d = gs.length → acc.size ≤ 10 * i → 1 ≤ i →
    EvP (fun k => spec_GroupsNames.l0 k m gs acc (i : Int)) (fun r => r.data.toList = acc.data.toList ++ tailN ((l.map gname).drop i)) := by
  obtain ⟨hl, h24, h4⟩ := grp_small h
  intro d
  induction d with
  | zero =>
    intro i acc hi ha h0
    refine EvP.succ ?_
    simp only [spec_GroupsNames.l0]
    refine EvP.no (by omega) (EvP.succ ?_)
    simp only [spec_GroupsNames.j1]
    refine EvP.no (by simp) (EvP.ret ?_)
    rw [List.drop_of_length_le (by rw [List.length_map]; omega)]
    simp [tailN]
  | succ d ih =>
    intro i acc hi ha h0
    have hlt : i < gs.length := by omega
    have hlt' : i < l.length := by omega
    have e1 : Hd (wrap64 ((i : Int) + 1) = ((i + 1 : Nat) : Int)) := ⟨w64 (by omega) (by omega)⟩
    have hs := gname_size l[i] (h4 _ (List.getElem_mem hlt'))
    refine EvP.succ ?_
    simp only [spec_GroupsNames.l0]
    refine EvP.yes (by omega) ?_
    refine EvP.bind (spec_gvalid m gs hm (by omega)) (fun _ e => ?_)
    subst e
    rw [h]
    refine EvP.succ ?_
    simp only [spec_GroupsNames.j1]
    have h32 : (⟨#[32]⟩ : ByteArray).size = 1 := rfl
    refine EvP.yes rfl (EvP.yes (by omega) (EvP.yes (by omega) ?_))
    rw [rdG_lt hlt, e1.out]
    refine spec_ith h i hlt hlt' _ _ ?_
    refine EvP.yes (by rw [ByteArray.size_append]; omega) ?_
    refine (ih (i + 1) _ (by omega) (by rw [ByteArray.size_append, ByteArray.size_append]; omega) (by omega)).mono (fun r hr => ?_)
    rw [hr, app_data, app_data, List.drop_eq_getElem_cons (l := l.map gname) (i := i) (by rw [List.length_map]; exact hlt'), List.getElem_map]
    simp [tailN]
theorem spec_gnames (m : List TnG) (gs : List MlG) (hm : m.length ≤ 1000000000) (hg : gs.length ≤ 1048576) : EvP (fun k => spec_GroupsNames.f k m gs) (· = ⟨(gnm m gs).toArray⟩) := by
  simp only [spec_GroupsNames.f]
  refine EvP.succ ?_
  simp only [spec_GroupsNames.l0]
  have fin : (x : Bool) → x = false → gnm m gs = [] → EvP (fun k => spec_GroupsNames.j1 k m gs ⟨#[]⟩ 0 x) (· = ⟨(gnm m gs).toArray⟩) := by
    intro x hx hn
    subst hx
    rw [hn]
    refine EvP.succ ?_
    simp only [spec_GroupsNames.j1]
    exact EvP.no (by simp) (EvP.ret rfl)
  refine EvP.ite (fun h0 => ?_) (fun h0 => ?_)
  · refine EvP.bind (spec_gvalid m gs hm hg) (fun _ e => ?_)
    subst e
    cases h : grp m gs with
    | none => exact fin _ rfl (gnm_none h)
    | some l =>
      obtain ⟨hl, h24, h4⟩ := grp_small h
      have hlt : 0 < gs.length := by omega
      have hlt' : 0 < l.length := by omega
      have hs := gname_size l[0] (h4 _ (List.getElem_mem hlt'))
      have hz : (⟨#[]⟩ : ByteArray).size = 0 := rfl
      rw [gnm_some h]
      refine EvP.succ ?_
      simp only [spec_GroupsNames.j1]
      refine EvP.yes rfl (EvP.no (by omega) ?_)
      rw [show (0 : Int) = ((0 : Nat) : Int) from rfl, rdG_lt hlt]
      refine spec_ith h 0 hlt hlt' _ _ ?_
      refine EvP.yes (by omega) ?_
      rw [show wrap64 (((0 : Nat) : Int) + 1) = ((1 : Nat) : Int) by decide +kernel]
      refine (spec_gnames_loop h hm (gs.length - 1) 1 _ (by omega) (by rw [ByteArray.size_append]; omega) (by omega)).mono (fun r hr => ?_)
      apply ba_ext
      rw [hr, app_data]
      obtain ⟨t, ts, rfl⟩ : ∃ t ts, l = t :: ts := by
        cases l with
        | nil => simp at hlt'
        | cons t ts => exact ⟨t, ts, rfl⟩
      simp [joinN]
  · refine fin _ rfl ?_
    obtain rfl : gs = [] := by
      cases gs with
      | nil => rfl
      | cons g gs => simp at h0
    cases h : grp m [] with
    | none => exact gnm_none h
    | some l =>
      rw [gnm_some h, List.eq_nil_of_length_eq_zero (grp_small h).1]
      rfl
end Go.Proofs.YtldepdaglapdeaaDoor.Pur
end
section
namespace Go.Proofs.YtldepdaglapdeaaDoor.E
open Go.RowKit Go.Proofs.YtldepdaglapdeaaDoorW.PrintWords Go.Proofs.YtldepdaglapdeaaDoorW.PrintLast Go.Proofs.YtldepdaglapdeaaDoorW.PrintMore
attribute [local go_sem] max2_int min2_int max_two min_two max_three min_three max_four min_four
set_option linter.unusedVariables false
set_option linter.unusedSimpArgs false
attribute [local go_sem] str_leq_ str_gtr_ str_geq_
def laws_toTone.f (a0_0 : Int) (a0_1 : Bool) : Option (Int × Bool) := some (a0_0, a0_1)
end Go.Proofs.YtldepdaglapdeaaDoor.E
end
section
namespace Go.Proofs.YtldepdaglapdeaaDoor.E
open Go.RowKit Go.Proofs.YtldepdaglapdeaaDoorW.PrintWords Go.Proofs.YtldepdaglapdeaaDoorW.PrintLast Go.Proofs.YtldepdaglapdeaaDoorW.PrintMore
attribute [local go_sem] max2_int min2_int max_two min_two max_three min_three max_four min_four
set_option linter.unusedVariables false
set_option linter.unusedSimpArgs false
attribute [local go_sem] str_leq_ str_gtr_ str_geq_
def laws_toToneS.l0 : Nat → List (S64) → List (S56) → Int → Option ((List (S56)))
 | 0, _, _, _ => none
 | k + 1, x0, x3, x4 => if x4 < (x0.length : Int) then (if 0 ≤ x4 then ((laws_toTone.f ((rd_T64 x0 x4).f0) ((rd_T64 x0 x4).f1)).bind fun bt139 => (if x4 < (x3.length : Int) then (laws_toToneS.l0 k x0 (x3.set (x4 : Int).toNat (⟨bt139.1, bt139.2⟩ : S56)) (wrap64 (x4 + 1))) else (none))) else (none)) else (some x3)
def laws_toToneS.f (k : Nat) (l0 : List (S64)) : Option ((List (S56))) := if 0 ≤ (l0.length : Int) then (if ((l0.length : Int) : Int).toNat ≤ 17592186044416 then (laws_toToneS.l0 k l0 (List.replicate ((l0.length : Int) : Int).toNat z56) 0) else (none)) else (none)
end Go.Proofs.YtldepdaglapdeaaDoor.E
end
section
namespace Go.Proofs.YtldepdaglapdeaaDoor.E
open Go.RowKit Go.Proofs.YtldepdaglapdeaaDoorW.PrintWords Go.Proofs.YtldepdaglapdeaaDoorW.PrintLast Go.Proofs.YtldepdaglapdeaaDoorW.PrintMore
attribute [local go_sem] max2_int min2_int max_two min_two max_three min_three max_four min_four
set_option linter.unusedVariables false
set_option linter.unusedSimpArgs false
attribute [local go_sem] str_leq_ str_gtr_ str_geq_
def laws_szToneS.f (l0 : List (S64)) (a1 : Int) : Option (Int) := if (wrap64 (a1 - (l0.length : Int))) < 0 then (some (-1)) else (some (wrap64 (a1 - (l0.length : Int))))
end Go.Proofs.YtldepdaglapdeaaDoor.E
end
section
namespace Go.Proofs.YtldepdaglapdeaaDoor.E
open Go.RowKit Go.Proofs.YtldepdaglapdeaaDoorW.PrintWords Go.Proofs.YtldepdaglapdeaaDoorW.PrintLast Go.Proofs.YtldepdaglapdeaaDoorW.PrintMore
attribute [local go_sem] max2_int min2_int max_two min_two max_three min_three max_four min_four
set_option linter.unusedVariables false
set_option linter.unusedSimpArgs false
attribute [local go_sem] str_leq_ str_gtr_ str_geq_
def laws_eqTone.f (a0_0 : Int) (a0_1 : Bool) (a1_0 : Int) (a1_1 : Bool) : Option (Bool) := if a0_0 = a1_0 then (if (a0_1 != a1_1) = true then (some false) else (some true)) else (some false)
end Go.Proofs.YtldepdaglapdeaaDoor.E
end
section
namespace Go.Proofs.YtldepdaglapdeaaDoor.E
open Go.RowKit Go.Proofs.YtldepdaglapdeaaDoorW.PrintWords Go.Proofs.YtldepdaglapdeaaDoorW.PrintLast Go.Proofs.YtldepdaglapdeaaDoorW.PrintMore
attribute [local go_sem] max2_int min2_int max_two min_two max_three min_three max_four min_four
set_option linter.unusedVariables false
set_option linter.unusedSimpArgs false
attribute [local go_sem] str_leq_ str_gtr_ str_geq_
def laws_eqToneS.l0 : Nat → List (S56) → List (S56) → Int → Option (Bool)
 | 0, _, _, _ => none
 | k + 1, x0, x1, x5 => if x5 < (x0.length : Int) then (if 0 ≤ x5 then (if x5 < (x1.length : Int) then ((laws_eqTone.f ((rd_T56 x0 x5).f0) ((rd_T56 x0 x5).f1) ((rd_T56 x1 x5).f0) ((rd_T56 x1 x5).f1)).bind fun t198 => (if t198 = true then (laws_eqToneS.l0 k x0 x1 (wrap64 (x5 + 1))) else (some false))) else (none)) else (none)) else (some true)
def laws_eqToneS.f (k : Nat) (l0 : List (S56)) (l1 : List (S56)) : Option (Bool) := if (l0.length : Int) = (l1.length : Int) then (laws_eqToneS.l0 k l0 l1 0) else (some false)
def laws_eqToneS.T6 : Bool × List (List Nat × List Nat) := (true, [([], []), ([], []), ([0, 1], [0, 1]), ([2], [2]), ([], []), ([], []), ([4, 5], [4, 5]), ([6], [6]), ([3, 7], [3, 7]), ([8], [8])])
def laws_eqToneS.B6 : List Nat := [0, 0, 3, 7, 0, 0, 48, 112, 255, 511]
end Go.Proofs.YtldepdaglapdeaaDoor.E
end
section
namespace Go.Proofs.YtldepdaglapdeaaDoor.Pur
open Go.RowKit Go.Proofs.YtldepdaglapdeaaDoorW.PrintWords Go.Proofs.YtldepdaglapdeaaDoor.E
abbrev Tn' := S56
def cv (t : S64) : S56 := ⟨t.f0, t.f1⟩
end Go.Proofs.YtldepdaglapdeaaDoor.Pur
end
section
namespace Go.Proofs.YtldepdaglapdeaaDoor.E
open Go.RowKit Go.Proofs.YtldepdaglapdeaaDoorW.PrintWords Go.Proofs.YtldepdaglapdeaaDoorW.PrintLast Go.Proofs.YtldepdaglapdeaaDoorW.PrintMore
attribute [local go_sem] max2_int min2_int max_two min_two max_three min_three max_four min_four
set_option linter.unusedVariables false
set_option linter.unusedSimpArgs false
attribute [local go_sem] str_leq_ str_gtr_ str_geq_
def laws_toMelisma.f (a0_0 : Int) (a0_1 : Bool) : Option (Int × Bool) := some (a0_0, a0_1)
end Go.Proofs.YtldepdaglapdeaaDoor.E
end
section
namespace Go.Proofs.YtldepdaglapdeaaDoor.E
open Go.RowKit Go.Proofs.YtldepdaglapdeaaDoorW.PrintWords Go.Proofs.YtldepdaglapdeaaDoorW.PrintLast Go.Proofs.YtldepdaglapdeaaDoorW.PrintMore
attribute [local go_sem] max2_int min2_int max_two min_two max_three min_three max_four min_four
set_option linter.unusedVariables false
set_option linter.unusedSimpArgs false
attribute [local go_sem] str_leq_ str_gtr_ str_geq_
def laws_toMelismaS.l0 : Nat → List (S66) → List (S42) → Int → Option ((List (S42)))
 | 0, _, _, _ => none
 | k + 1, x0, x3, x4 => if x4 < (x0.length : Int) then (if 0 ≤ x4 then ((laws_toMelisma.f ((rd_T66 x0 x4).f0) ((rd_T66 x0 x4).f1)).bind fun bt149 => (if x4 < (x3.length : Int) then (laws_toMelismaS.l0 k x0 (x3.set (x4 : Int).toNat (⟨bt149.1, bt149.2⟩ : S42)) (wrap64 (x4 + 1))) else (none))) else (none)) else (some x3)
def laws_toMelismaS.f (k : Nat) (l0 : List (S66)) : Option ((List (S42))) := if 0 ≤ (l0.length : Int) then (if ((l0.length : Int) : Int).toNat ≤ 17592186044416 then (laws_toMelismaS.l0 k l0 (List.replicate ((l0.length : Int) : Int).toNat z42) 0) else (none)) else (none)
end Go.Proofs.YtldepdaglapdeaaDoor.E
end
section
namespace Go.Proofs.YtldepdaglapdeaaDoor.E
open Go.RowKit Go.Proofs.YtldepdaglapdeaaDoorW.PrintWords Go.Proofs.YtldepdaglapdeaaDoorW.PrintLast Go.Proofs.YtldepdaglapdeaaDoorW.PrintMore
attribute [local go_sem] max2_int min2_int max_two min_two max_three min_three max_four min_four
set_option linter.unusedVariables false
set_option linter.unusedSimpArgs false
attribute [local go_sem] str_leq_ str_gtr_ str_geq_
def laws_szMelismaS.f (l0 : List (S66)) (a1 : Int) : Option (Int) := if (wrap64 (a1 - (l0.length : Int))) < 0 then (some (-1)) else (some (wrap64 (a1 - (l0.length : Int))))
end Go.Proofs.YtldepdaglapdeaaDoor.E
end
section
namespace Go.Proofs.YtldepdaglapdeaaDoor.E
open Go.RowKit Go.Proofs.YtldepdaglapdeaaDoorW.PrintWords Go.Proofs.YtldepdaglapdeaaDoorW.PrintLast Go.Proofs.YtldepdaglapdeaaDoorW.PrintMore
attribute [local go_sem] max2_int min2_int max_two min_two max_three min_three max_four min_four
set_option linter.unusedVariables false
set_option linter.unusedSimpArgs false
attribute [local go_sem] str_leq_ str_gtr_ str_geq_
def laws_eqMelisma.f (a0_0 : Int) (a0_1 : Bool) (a1_0 : Int) (a1_1 : Bool) : Option (Bool) := if a0_0 = a1_0 then (if (a0_1 != a1_1) = true then (some false) else (some true)) else (some false)
end Go.Proofs.YtldepdaglapdeaaDoor.E
end
section
namespace Go.Proofs.YtldepdaglapdeaaDoor.E
open Go.RowKit Go.Proofs.YtldepdaglapdeaaDoorW.PrintWords Go.Proofs.YtldepdaglapdeaaDoorW.PrintLast Go.Proofs.YtldepdaglapdeaaDoorW.PrintMore
attribute [local go_sem] max2_int min2_int max_two min_two max_three min_three max_four min_four
set_option linter.unusedVariables false
set_option linter.unusedSimpArgs false
attribute [local go_sem] str_leq_ str_gtr_ str_geq_
def laws_eqMelismaS.l0 : Nat → List (S42) → List (S42) → Int → Option (Bool)
 | 0, _, _, _ => none
 | k + 1, x0, x1, x5 => if x5 < (x0.length : Int) then (if 0 ≤ x5 then (if x5 < (x1.length : Int) then ((laws_eqMelisma.f ((rd_T42 x0 x5).f0) ((rd_T42 x0 x5).f1) ((rd_T42 x1 x5).f0) ((rd_T42 x1 x5).f1)).bind fun t203 => (if t203 = true then (laws_eqMelismaS.l0 k x0 x1 (wrap64 (x5 + 1))) else (some false))) else (none)) else (none)) else (some true)
def laws_eqMelismaS.f (k : Nat) (l0 : List (S42)) (l1 : List (S42)) : Option (Bool) := if (l0.length : Int) = (l1.length : Int) then (laws_eqMelismaS.l0 k l0 l1 0) else (some false)
def laws_eqMelismaS.T6 : Bool × List (List Nat × List Nat) := (true, [([], []), ([], []), ([0, 1], [0, 1]), ([2], [2]), ([], []), ([], []), ([4, 5], [4, 5]), ([6], [6]), ([3, 7], [3, 7]), ([8], [8])])
def laws_eqMelismaS.B6 : List Nat := [0, 0, 3, 7, 0, 0, 48, 112, 255, 511]
end Go.Proofs.YtldepdaglapdeaaDoor.E
end
section
namespace Go.Proofs.YtldepdaglapdeaaDoor.Pur
open Go.RowKit Go.Proofs.YtldepdaglapdeaaDoorW.PrintWords Go.Proofs.YtldepdaglapdeaaDoor.E
abbrev Ml' := S42
def cvG (t : S66) : S42 := ⟨t.f0, t.f1⟩
end Go.Proofs.YtldepdaglapdeaaDoor.Pur
end
section
namespace Go.Proofs.YtldepdaglapdeaaDoor.E
open Go.RowKit Go.Proofs.YtldepdaglapdeaaDoorW.PrintWords Go.Proofs.YtldepdaglapdeaaDoorW.PrintLast Go.Proofs.YtldepdaglapdeaaDoorW.PrintMore
attribute [local go_sem] max2_int min2_int max_two min_two max_three min_three max_four min_four
set_option linter.unusedVariables false
set_option linter.unusedSimpArgs false
attribute [local go_sem] str_leq_ str_gtr_ str_geq_
def laws_FnExactGroupsNames.f (k : Nat) (l0 : List (S64)) (l1 : List (S66)) : Option (Bool) := (laws_szToneS.f l0 1048576).bind fun t204 => (if t204 < 0 then (some true) else ((laws_szMelismaS.f l1 t204).bind fun t205 => (if t205 < 0 then (some true) else ((laws_toToneS.f k l0).bind fun t206 => ((laws_toMelismaS.f k l1).bind fun t209 => ((spec_GroupsNames.f k t206 t209).bind fun t212 => ((laws_toToneS.f k l0).bind fun t213 => ((laws_toMelismaS.f k l1).bind fun t216 => ((impl_GroupsNames.f k t213 t216).bind fun t219 => (if t219.toList = t212.toList then ((laws_toToneS.f k l0).bind fun t220 => ((laws_eqToneS.f k t213 t220).bind fun t223 => (if t223 = true then ((laws_toMelismaS.f k l1).bind fun t224 => ((laws_eqMelismaS.f k t216 t224).bind fun t227 => (if t227 = true then (some true) else (none)))) else (none)))) else (none)))))))))))
end Go.Proofs.YtldepdaglapdeaaDoor.E
end
section
namespace Go.Proofs.YtldepdaglapdeaaDoor.E
open Go.RowKit Go.Proofs.YtldepdaglapdeaaDoorW.PrintWords Go.Proofs.YtldepdaglapdeaaDoorW.PrintLast Go.Proofs.YtldepdaglapdeaaDoorW.PrintMore
attribute [local go_sem] max2_int min2_int max_two min_two max_three min_three max_four min_four
set_option linter.unusedVariables false
set_option linter.unusedSimpArgs false
attribute [local go_sem] str_leq_ str_gtr_ str_geq_
def laws_FnExactGroupsRead.f (k : Nat) (l0 : List (S64)) (l1 : List (S66)) (a2 : ByteArray) : Option (Bool) := if (a2.size : Int) > 1048576 then (some true) else ((laws_szToneS.f l0 1048576).bind fun t236 => (if t236 < 0 then (some true) else ((laws_szMelismaS.f l1 t236).bind fun t237 => (if t237 < 0 then (some true) else ((laws_toToneS.f k l0).bind fun t238 => ((laws_toMelismaS.f k l1).bind fun t241 => ((spec_GroupsRead.f k t238 t241 a2).bind fun t244 => ((laws_toToneS.f k l0).bind fun t245 => ((laws_toMelismaS.f k l1).bind fun t248 => ((impl_GroupsRead.f k t245 t248 a2).bind fun t251 => (if (t251 != t244) = true then (none) else ((laws_toToneS.f k l0).bind fun t252 => ((laws_eqToneS.f k t245 t252).bind fun t255 => (if t255 = true then ((laws_toMelismaS.f k l1).bind fun t256 => ((laws_eqMelismaS.f k t248 t256).bind fun t259 => (if t259 = true then (some true) else (none)))) else (none)))))))))))))))
end Go.Proofs.YtldepdaglapdeaaDoor.E
end
section
namespace Go.Proofs.YtldepdaglapdeaaDoor.Pur
open Go.RowKit Go.Proofs.YtldepdaglapdeaaDoorW.PrintWords Go.Proofs.YtldepdaglapdeaaDoorW.PrintMore Go.Proofs.YtldepdaglapdeaaDoor.E
theorem lists_beq (a b : ByteArray) : (a.toList == b.toList) = decide (a = b) := by
  rw [Bool.eq_iff_iff, beq_iff_eq, decide_eq_true_eq, list_iff]
def gread (m : List TnG) (gs : List MlG) (t : ByteArray) : Bool := (grp m gs).isSome && decide (t = ⟨(gnm m gs).toArray⟩)
theorem impl_gread (m : List TnG) (gs : List MlG) (t : ByteArray) (hg : gs.length ≤ 1048576) : EvP (fun k => impl_GroupsRead.f k m gs t) (· = gread m gs t) := by
  simp only [impl_GroupsRead.f]
  refine EvP.bind (impl_gvalid m gs hg) (fun _ e => ?_)
  subst e
  unfold gread
  refine EvP.ite (fun h => ?_) (fun h => EvP.ret ?_)
  · refine EvP.bind (impl_gnames m gs hg) (fun _ e => ?_)
    subst e
    refine EvP.ret ?_
    rw [lists_beq, h, Bool.true_and]
  · rw [Bool.eq_false_iff.mpr h]; rfl
theorem spec_gread (m : List TnG) (gs : List MlG) (t : ByteArray) (hm : m.length ≤ 1000000000) (hg : gs.length ≤ 1048576) : EvP (fun k => spec_GroupsRead.f k m gs t) (· = gread m gs t) := by
  simp only [spec_GroupsRead.f]
  refine EvP.bind (spec_gvalid m gs hm hg) (fun _ e => ?_)
  subst e
  unfold gread
  refine EvP.ite (fun h => ?_) (fun h => EvP.ret ?_)
  · refine EvP.bind (spec_gnames m gs hm hg) (fun _ e => ?_)
    subst e
    refine EvP.ret ?_
    rw [lists_beq, h, Bool.true_and]
    rw [decide_eq_decide]
    exact eq_comm
  · rw [Bool.eq_false_iff.mpr h]; rfl
end Go.Proofs.YtldepdaglapdeaaDoor.Pur
end
section
namespace Go.Proofs.YtldepdaglapdeaaDoor.E
open Go.RowKit Go.Proofs.YtldepdaglapdeaaDoorW.PrintWords Go.Proofs.YtldepdaglapdeaaDoorW.PrintLast Go.Proofs.YtldepdaglapdeaaDoorW.PrintMore
attribute [local go_sem] max2_int min2_int max_two min_two max_three min_three max_four min_four
set_option linter.unusedVariables false
set_option linter.unusedSimpArgs false
attribute [local go_sem] str_leq_ str_gtr_ str_geq_
def spec_DrawGroupsNames.f (k : Nat) (l0 : List Int) : Option ((List (S56)) × (List (S42))) := (spec_l6Open.f l0).bind fun bt322 => ((spec_l91Groups.f k bt322.1 bt322.2).bind fun bt325 => (some (bt325.1, bt325.2.1)))
end Go.Proofs.YtldepdaglapdeaaDoor.E
end
section
namespace Go.Proofs.YtldepdaglapdeaaDoor.E
open Go.RowKit Go.Proofs.YtldepdaglapdeaaDoorW.PrintWords Go.Proofs.YtldepdaglapdeaaDoorW.PrintLast Go.Proofs.YtldepdaglapdeaaDoorW.PrintMore
attribute [local go_sem] max2_int min2_int max_two min_two max_three min_three max_four min_four
set_option linter.unusedVariables false
set_option linter.unusedSimpArgs false
attribute [local go_sem] str_leq_ str_gtr_ str_geq_
def spec_DrawGroupsCut.f (k : Nat) (l0 : List Int) : Option ((List (S56)) × (List (S42)) × Int) := (spec_l6Open.f l0).bind fun bt374 => ((spec_l91Groups.f k bt374.1 bt374.2).bind fun bt377 => ((spec_l91At.f k bt374.1 bt377.2.2 (bt377.2.1.length : Int)).bind fun bt384 => (some (bt377.1, bt377.2.1, bt384.1))))
end Go.Proofs.YtldepdaglapdeaaDoor.E
end
section
namespace Go.Proofs.YtldepdaglapdeaaDoor.Pur
open Go Go.RowKit Go.Proofs.YtldepdaglapdeaaDoorW.PrintWords Go.Proofs.YtldepdaglapdeaaDoorW.PrintMore Go.Proofs.YtldepdaglapdeaaDoor.E
theorem mn_four {a : Int} (h : 1 ≤ a) : 1 ≤ mn a 4 ∧ mn a 4 ≤ a ∧ mn a 4 ≤ 4 := by unfold mn; omega
theorem groups_loop {B : List Int} (hB : okB B) (m : List TnG) : ∀ (n : Nat) (x p : Int) (acc : List MlG), x ≤ n → 0 ≤ x → n ≤ 100 → acc.length + n ≤ 100 → 0 ≤ p → p ≤ 1000000 - 10 * n →
    EvP (fun k => spec_l91Groups.l0 k m acc x B p) (fun r => r.1 = m ∧ r.2.1.length ≤ acc.length + n ∧ 0 ≤ r.2.2 ∧ r.2.2 ≤ p + 2 * n + 2) := by
  intro n
  induction n with
  | zero =>
    intro x p acc hx h0 hn ha hp0 hp1
    refine EvP.succ ?_
    simp only [spec_l91Groups.l0]
    refine EvP.no (by omega) ?_
    refine EvP.ite (fun hpos => ?_) (fun _ => EvP.ret ⟨rfl, by dsimp only; omega, hp0, by dsimp only; omega⟩)
    refine EvP.bind (pick_ok hB p 30 (by omega) (by omega)) (fun r hr => ?_)
    refine EvP.ite (fun _ => ?_) (fun _ => EvP.ite (fun _ => ?_) (fun _ => EvP.ret ⟨rfl, by dsimp only; omega, by dsimp only; omega, by dsimp only; omega⟩))
    · refine EvP.bind (P := (· = [0, 5, (-1)])) (EvP.con rfl rfl) (fun _ e => ?_)
      subst e
      refine EvP.bind (pick_ok hB r.2 3 (by omega) (by omega)) (fun q hq => ?_)
      have h3 : (([0, 5, (-1)] : List Int).length : Int) = 3 := rfl
      exact EvP.yes hq.1 (EvP.yes (by omega) (EvP.yes (by omega) (EvP.ret ⟨rfl, by simp, by dsimp only; omega, by dsimp only; omega⟩)))
    · exact EvP.yes (by omega) (EvP.ret ⟨rfl, by simp, by dsimp only; omega, by dsimp only; omega⟩)
  | succ n ih =>
    intro x p acc hx h0 hn ha hp0 hp1
    by_cases hpos : x > 0
    · refine EvP.succ ?_
      simp only [spec_l91Groups.l0]
      refine EvP.yes hpos ?_
      have h4 := mn_four (a := x) (by omega)
      refine EvP.bind (pick_ok hB p (mn x 4) (by omega) (by omega)) (fun r hr => ?_)
      refine EvP.bind (pick_ok hB r.2 4 (by omega) (by omega)) (fun q hq => ?_)
      refine EvP.yes (by omega) ?_
      have e1 : wrap64 (1 + r.1) = 1 + r.1 := w64 (by omega) (by omega)
      have e2 : wrap64 (x - (1 + r.1)) = x - (1 + r.1) := w64 (by omega) (by omega)
      rw [e1, e2]
      clear e1 e2
      have hl : (acc ++ [(⟨1 + r.1, q.1 == 0⟩ : MlG)]).length = acc.length + 1 := by rw [List.length_append]; rfl
      refine (ih _ q.2 _ (by omega) (by omega) (by omega) (by rw [hl]; omega) (by omega) (by omega)).mono (fun r' h => ?_)
      rw [hl] at h
      exact ⟨h.1, by omega, h.2.2.1, by omega⟩
    · refine (ih x p acc (by omega) h0 (by omega) (by omega) hp0 (by omega)).mono (fun r' h => ⟨h.1, by omega, h.2.2.1, by omega⟩)
theorem groups_ok {B : List Int} (hB : okB B) (p : Int) (hp : 0 ≤ p ∧ p ≤ 1000) : EvP (fun k => spec_l91Groups.f k B p) (fun r => r.1.length ≤ 10 ∧ r.2.1.length ≤ 10 ∧ 0 ≤ r.2.2 ∧ r.2.2 ≤ p + 100) := by
  simp only [spec_l91Groups.f]
  refine EvP.bind (melody_ok hB p 10 (by omega) (by omega)) (fun r hr => ?_)
  refine (groups_loop hB r.1 10 (r.1.length : Int) r.2 [] (by omega) (by omega) (by omega) (by simp) (by omega) (by omega)).mono (fun r' h => ?_)
  have h2 := h.2.1
  rw [List.length_nil] at h2
  exact ⟨by rw [h.1]; omega, by omega, h.2.2.1, by omega⟩
theorem gnm_len (m : List TnG) (gs : List MlG) : (gnm m gs).length ≤ 240 := by
  cases h : grp m gs with
  | none => rw [gnm_none h]; decide
  | some l =>
    rw [gnm_some h]
    have h1 := joinN_len (l.map gname) (names_small h)
    have h2 := (grp_small h).2.1
    rw [List.length_map] at h1
    omega
theorem draw_gread (l : List Int) (h : ∀ x ∈ l, (Lit.int .u8 x).wf = true) : EvP (fun k => spec_DrawGroupsRead.f k l) (fun r => r.1.length ≤ 10 ∧ r.2.1.length ≤ 10) := by
  simp only [spec_DrawGroupsRead.f]
  refine EvP.bind (open_code l h) (fun r hr => ?_)
  refine EvP.bind (groups_ok hr.1 r.2 (by omega)) (fun q hq => ?_)
  refine EvP.bind (spec_gnames q.1 q.2.1 (by omega) (by omega)) (fun _ e => ?_)
  subst e
  have hz : (⟨(gnm q.1 q.2.1).toArray⟩ : ByteArray).size ≤ 240 := by
    rw [← list_len]
    exact gnm_len q.1 q.2.1
  refine EvP.bind (pick_ok hr.1 q.2.2 4 (by omega) (by omega)) (fun a ha => ?_)
  refine EvP.ite (fun _ => ?_) (fun _ => EvP.ret ⟨hq.1, hq.2.1⟩)
  refine EvP.bind (of_size hr.1 a.2 (by omega) _ (by decide) 7 (by decide)) (fun b hb => ?_)
  have := hb.1
  exact EvP.yes (by omega) (EvP.ret ⟨hq.1, hq.2.1⟩)
end Go.Proofs.YtldepdaglapdeaaDoor.Pur
end
section
namespace Go.Proofs.YtldepdaglapdeaaDoor.E
open Go.RowKit Go.Proofs.YtldepdaglapdeaaDoorW.PrintWords Go.Proofs.YtldepdaglapdeaaDoorW.PrintLast Go.Proofs.YtldepdaglapdeaaDoorW.PrintMore
attribute [local go_sem] max2_int min2_int max_two min_two max_three min_three max_four min_four
set_option linter.unusedVariables false
set_option linter.unusedSimpArgs false
attribute [local go_sem] str_leq_ str_gtr_ str_geq_
theorem eqA56 (d : Nat) (w : World) (x0 y0 : Int) (x1 y1 : Bool) :
  (Op.equalIn (d + 2) 56 (.agg #[.int .i64 x0, .bool x1]) (.agg #[.int .i64 y0, .bool y1])).run Tryd.prog w = .ok (x0 == y0 && (x1 == y1)) w := by
 refine eqA_of Tryd.underlying56 (by kernel_rfl) ?_
 refine eqf_cons (by rfl) (by go_simp; rfl) (by go_simp; rfl) (by go_simp) ?_
 exact eqf_last (by rfl) (by go_simp; rfl) (by go_simp; rfl) (by go_simp)
end Go.Proofs.YtldepdaglapdeaaDoor.E
end
section
namespace Go.Proofs.YtldepdaglapdeaaDoor.E
open Go.RowKit Go.Proofs.YtldepdaglapdeaaDoorW.PrintWords Go.Proofs.YtldepdaglapdeaaDoorW.PrintLast Go.Proofs.YtldepdaglapdeaaDoorW.PrintMore
attribute [local go_sem] max2_int min2_int max_two min_two max_three min_three max_four min_four
set_option linter.unusedVariables false
set_option linter.unusedSimpArgs false
attribute [local go_sem high] eqA56
attribute [local go_sem] str_leq_ str_gtr_ str_geq_
def laws_sameTones.l0 : Nat → List (S56) → List (S56) → Int → Option (Bool)
 | 0, _, _, _ => none
 | k + 1, x0, x1, x5 => if x5 < (x0.length : Int) then (if 0 ≤ x5 then (if x5 < (x1.length : Int) then (if (!(((rd_T56 x0 x5).f0) == ((rd_T56 x1 x5).f0)) || (!(((rd_T56 x0 x5).f1) == ((rd_T56 x1 x5).f1)))) = true then (some false) else (laws_sameTones.l0 k x0 x1 (wrap64 (x5 + 1)))) else (none)) else (none)) else (some true)
def laws_sameTones.f (k : Nat) (l0 : List (S56)) (l1 : List (S56)) : Option (Bool) := if (l0.length : Int) = (l1.length : Int) then (laws_sameTones.l0 k l0 l1 0) else (some false)
end Go.Proofs.YtldepdaglapdeaaDoor.E
end
section
namespace Go.Proofs.YtldepdaglapdeaaDoor.E
open Go.RowKit Go.Proofs.YtldepdaglapdeaaDoorW.PrintWords Go.Proofs.YtldepdaglapdeaaDoorW.PrintLast Go.Proofs.YtldepdaglapdeaaDoorW.PrintMore
attribute [local go_sem] max2_int min2_int max_two min_two max_three min_three max_four min_four
set_option linter.unusedVariables false
set_option linter.unusedSimpArgs false
attribute [local go_sem] str_leq_ str_gtr_ str_geq_
def laws_names.l0 : Nat → ByteArray → Int → Int → Option (Int)
 | 0, _, _, _ => none
 | k + 1, x0, x3, x4 => if x4 < (x0.size : Int) then (if 0 ≤ x4 then (if (bt x0 x4) = 32 then (laws_names.l0 k x0 (wrap64 (x3 + 1)) (wrap64 (x4 + 1))) else (laws_names.l0 k x0 x3 (wrap64 (x4 + 1)))) else (none)) else (some x3)
def laws_names.f (k : Nat) (a0 : ByteArray) : Option (Int) := if a0.toList = ([] : List UInt8) then (some 0) else (laws_names.l0 k a0 1 0)
end Go.Proofs.YtldepdaglapdeaaDoor.E
end
section
namespace Go.Proofs.YtldepdaglapdeaaDoor.E
open Go.RowKit Go.Proofs.YtldepdaglapdeaaDoorW.PrintWords Go.Proofs.YtldepdaglapdeaaDoorW.PrintLast Go.Proofs.YtldepdaglapdeaaDoorW.PrintMore
attribute [local go_sem] max2_int min2_int max_two min_two max_three min_three max_four min_four
set_option linter.unusedVariables false
set_option linter.unusedSimpArgs false
attribute [local go_sem] str_leq_ str_gtr_ str_geq_
mutual
def laws_FnGroups.j0 : Nat → List (S56) → List (S42) → ByteArray → ByteArray → Bool → Option (Bool)
 | 0, _, _, _, _, _ => none
 | k + 1, x3, x4, x5, x6, x31 => if x31 = true then (some (x5.toList == x6.toList)) else (laws_FnGroups.l0 k x3 x4 x5 (([] : List (S56))) 0)
def laws_FnGroups.l0 : Nat → List (S56) → List (S42) → ByteArray → List (S56) → Int → Option (Bool)
 | 0, _, _, _, _, _ => none
 | k + 1, x3, x4, x5, x7, x8 => if x8 < (x4.length : Int) then ((impl_GroupsCut.f k x3 x4 x8).bind fun bt353 => (if bt353.2 = true then (if 0 ≤ x8 then (if (bt353.1.length : Int) = ((rd_T42 x4 x8).f0) then (if x7.length + bt353.1.length < 8796093022208 then (laws_FnGroups.l0 k x3 x4 x5 (x7 ++ bt353.1) (wrap64 (x8 + 1))) else (none)) else (none)) else (none)) else (none))) else ((laws_sameTones.f k x7 x3).bind fun t361 => (if t361 = true then ((laws_names.f k x5).bind fun t362 => (if t362 = (x4.length : Int) then ((impl_GroupsRead.f k x3 x4 x5).bind fun t363 => (some t363)) else (none))) else (none)))
end
def laws_FnGroups.f (k : Nat) (l0 : List Int) : Option (Bool) := if (l0.length : Int) > 1048576 then (some true) else ((spec_DrawGroupsNames.f k l0).bind fun bt342 => ((impl_GroupsNames.f k bt342.1 bt342.2).bind fun t348 => ((spec_GroupsNames.f k bt342.1 bt342.2).bind fun t349 => (if t348.toList = t349.toList then (laws_FnGroups.j0 k bt342.1 bt342.2 t348 t349 (t348.toList == ([] : List UInt8))) else (laws_FnGroups.j0 k bt342.1 bt342.2 t348 t349 true)))))
def laws_FnGroups.Pure : Prop := ∀ (l0 : List Int), l0.length ≤ maxLen → l0.length * 1 ≤ 140737488351232 → (∀ x ∈ l0, (Lit.int .u8 x).wf = true) → ∃ k, laws_FnGroups.f k l0 = some true
end Go.Proofs.YtldepdaglapdeaaDoor.E
end
section
namespace Go.Proofs.YtldepdaglapdeaaDoor.E
open Go.RowKit Go.Proofs.YtldepdaglapdeaaDoorW.PrintWords Go.Proofs.YtldepdaglapdeaaDoorW.PrintLast Go.Proofs.YtldepdaglapdeaaDoorW.PrintMore
attribute [local go_sem] max2_int min2_int max_two min_two max_three min_three max_four min_four
set_option linter.unusedVariables false
set_option linter.unusedSimpArgs false
attribute [local go_sem] str_leq_ str_gtr_ str_geq_
def impl_ContourOf.f (k : Nat) (l0 : List (S56)) : Option (ByteArray) := (impl_MelodyValid.f k l0).bind fun t406 => (if t406 = true then ((impl_melody_contour.f l0).bind fun t407 => (some t407)) else (some (⟨#[]⟩ : ByteArray)))
end Go.Proofs.YtldepdaglapdeaaDoor.E
end
section
namespace Go.Proofs.YtldepdaglapdeaaDoor.E
open Go.RowKit Go.Proofs.YtldepdaglapdeaaDoorW.PrintWords Go.Proofs.YtldepdaglapdeaaDoorW.PrintLast Go.Proofs.YtldepdaglapdeaaDoorW.PrintMore
attribute [local go_sem] max2_int min2_int max_two min_two max_three min_three max_four min_four
set_option linter.unusedVariables false
set_option linter.unusedSimpArgs false
attribute [local go_sem] str_leq_ str_gtr_ str_geq_
def laws_FnGroupsCut.j0 : Nat → List (S42) → Int → List (S56) → Bool → List (S56) → Bool → Bool → Option (Bool)
 | 0, _, _, _, _, _, _, _ => none
 | k + 1, x4, x5, x6, x7, x8, x9, x48 => if x48 = true then (if (x7 == x9) = true then ((laws_sameTones.f k x6 x8).bind fun t424 => (some t424)) else (none)) else ((impl_ContourOf.f k x6).bind fun t425 => ((impl_NeumeName.f t425).bind fun t426 => (if 0 ≤ x5 then (if x5 < (x4.length : Int) then ((impl_GroupsNames.f k x6 (([(⟨(rd_T42 x4 x5).f0, (rd_T42 x4 x5).f1⟩ : S42)] : List (S42)))).bind fun t431 => ((impl_GroupsNames.f k x6 (([(⟨(rd_T42 x4 x5).f0, false⟩ : S42)] : List (S42)))).bind fun t436 => (if t426.toList = ([] : List UInt8) then (none) else (if t436.toList = t426.toList then (if ((t431.toList == t426.toList) == (!((rd_T42 x4 x5).f1))) = true then (if 1 ≤ (t431.size : Int) then (if 1 ≤ (t426.size : Int) then (some ((t431.extract 1 t431.size).toList == (t426.extract 1 t426.size).toList)) else (none)) else (none)) else (none)) else (none))))) else (none)) else (none))))
def laws_FnGroupsCut.f (k : Nat) (l0 : List Int) : Option (Bool) := if (l0.length : Int) > 1048576 then (some true) else ((spec_DrawGroupsCut.f k l0).bind fun bt408 => ((impl_GroupsCut.f k bt408.1 bt408.2.1 bt408.2.2).bind fun bt415 => ((spec_GroupsCut.f k bt408.1 bt408.2.1 bt408.2.2).bind fun bt419 => (if (bt415.2 != bt419.2) = true then (laws_FnGroupsCut.j0 k bt408.2.1 bt408.2.2 bt415.1 bt415.2 bt419.1 bt419.2 true) else ((laws_sameTones.f k bt415.1 bt419.1).bind fun t423 => (if t423 = true then (laws_FnGroupsCut.j0 k bt408.2.1 bt408.2.2 bt415.1 bt415.2 bt419.1 bt419.2 (!bt415.2)) else (laws_FnGroupsCut.j0 k bt408.2.1 bt408.2.2 bt415.1 bt415.2 bt419.1 bt419.2 true)))))))
def laws_FnGroupsCut.Pure : Prop := ∀ (l0 : List Int), l0.length ≤ maxLen → l0.length * 1 ≤ 140737488351232 → (∀ x ∈ l0, (Lit.int .u8 x).wf = true) → ∃ k, laws_FnGroupsCut.f k l0 = some true
end Go.Proofs.YtldepdaglapdeaaDoor.E
end
section
namespace Go.Proofs.YtldepdaglapdeaaDoor.Pur
open Go Go.RowKit Go.Proofs.YtldepdaglapdeaaDoorW.PrintWords Go.Proofs.YtldepdaglapdeaaDoorW.PrintMore Go.Proofs.YtldepdaglapdeaaDoor.E
def gcut (m : List TnG) (gs : List MlG) (a : Int) : List TnG × Bool := match grp m gs with
  | none => ([], false)
  | some l => if 0 ≤ a ∧ a < (l.length : Int) then ((rd_T73 l a).f0, true) else ([], false)
end Go.Proofs.YtldepdaglapdeaaDoor.Pur
end
section
namespace Go.Proofs.YtldepdaglapdeaaDoor.Pur
open Go Go.RowKit Go.Proofs.YtldepdaglapdeaaDoorW.PrintWords Go.Proofs.YtldepdaglapdeaaDoorW.PrintMore Go.Proofs.YtldepdaglapdeaaDoor.E
theorem cut_flip : ∀ (gs : List MlG) (m : List TnG) (l : List GpG) (i : Nat) (g : MlG), cutG m gs = some l → gs[i]? = some g →
    ∃ A c B, l = A ++ ⟨c, g.f1⟩ :: B ∧ cutG m (gs.set i ⟨g.f0, !g.f1⟩) = some (A ++ ⟨c, !g.f1⟩ :: B)
  | [], m, l, i, g, h, hi => by simp at hi
  | g' :: gs, m, l, i, g, h, hi => by
    unfold cutG at h
    split at h
    · rename_i hc
      obtain ⟨l', h', rfl⟩ := Option.map_eq_some_iff.mp h
      cases i with
      | zero =>
        obtain rfl : g' = g := by simpa using hi
        refine ⟨[], m.take g'.f0.toNat, l', rfl, ?_⟩
        rw [List.set_cons_zero]
        unfold cutG
        rw [if_pos hc, h']
        rfl
      | succ i =>
        obtain ⟨A, c, B, rfl, e⟩ := cut_flip gs _ l' i g h' (by simpa using hi)
        refine ⟨⟨m.take g'.f0.toNat, g'.f1⟩ :: A, c, B, rfl, ?_⟩
        rw [List.set_cons_succ]
        unfold cutG
        rw [if_pos hc, e]
        rfl
    · exact absurd h (by simp)
theorem join_flip (A B : List ByteArray) (x y : ByteArray) (u v : UInt8) (t : List UInt8) (hx : x.data.toList = u :: t) (hy : y.data.toList = v :: t) (huv : u ≠ v) : joinN (A ++ x :: B) ≠ joinN (A ++ y :: B) := by
  intro e
  have key : x.data.toList ++ tailN B = y.data.toList ++ tailN B → False := by
    intro e
    rw [hx, hy] at e
    exact huv (List.cons.inj e).1
  cases A with
  | nil => exact key e
  | cons a A =>
    simp only [List.cons_append, joinN, tailN_app, tailN] at e
    have e := List.append_cancel_left e
    have e := List.append_cancel_left e
    exact key (List.cons.inj e).2
theorem gnm_flip {m : List TnG} {gs : List MlG} {l : List GpG} (h : grp m gs = some l) (i : Nat) (g : MlG) (hi : gs[i]? = some g) : gnm m (gs.set i ⟨g.f0, !g.f1⟩) ≠ gnm m gs := by
  obtain ⟨hok, _, _, _, _, hc⟩ := grp_of h
  obtain ⟨A, c, B, e1, e2⟩ := cut_flip gs m l i g hc hi
  have h' : grp m (gs.set i ⟨g.f0, !g.f1⟩) = some (A ++ ⟨c, !g.f1⟩ :: B) := by
    unfold grp
    rw [if_pos hok, e2]
  rw [gnm_some h, gnm_some h', e1]
  simp only [List.map_append, List.map_cons]
  obtain ⟨u, v, t, hu, hv, huv⟩ := gname_flip c g.f1
  exact join_flip _ _ _ _ v u t hv hu (fun e => huv e.symm)
theorem law_gread (l1 l2 : List Int) (_ : (l1.length : Int) ≤ 9223372036854775807) (hb : ∀ x ∈ l1, (Lit.int .u8 x).wf = true) (_ : (l2.length : Int) ≤ 9223372036854775807) (_ : ∀ x ∈ l2, (Lit.int .u8 x).wf = true) : ∃ k, laws_FnGroupsRead.f k l1 l2 = some true := by
  refine EvP.rounds ?_
  have triv : ∀ b, b = true → EvP (fun k => laws_FnGroupsRead.j0 k l1 l2 b) (· = true) := by
    intro b e
    subst e
    refine EvP.succ ?_
    simp only [laws_FnGroupsRead.j0]
    exact EvP.yes trivial (EvP.ret rfl)
  simp only [laws_FnGroupsRead.f]
  refine EvP.ite (fun _ => triv true rfl) (fun _ => ?_)
  by_cases hlong : (l2.length : Int) > 1048576
  · exact triv _ (decide_eq_true hlong)
  rw [decide_eq_false hlong]
  refine EvP.succ ?_
  simp only [laws_FnGroupsRead.j0]
  refine EvP.no (by simp) ?_
  refine EvP.bind (draw_gread l1 hb) (fun r hr => ?_)
  obtain ⟨m, gs, t⟩ := r
  dsimp only at hr ⊢
  obtain ⟨hm, hg⟩ := hr
  refine EvP.bind (impl_gread m gs t (by omega)) (fun _ e => ?_)
  subst e
  refine EvP.bind (spec_gread m gs t (by omega) (by omega)) (fun _ e => ?_)
  subst e
  refine EvP.no (by simp) (EvP.succ ?_)
  simp only [laws_FnGroupsRead.j1]
  refine EvP.ite (fun _ => EvP.ret (by simp)) (fun hx => ?_)
  have hrd : gread m gs t = true := by
    cases h : gread m gs t with
    | true => rfl
    | false => rw [h] at hx; exact absurd rfl hx
  unfold gread at hrd
  rw [Bool.and_eq_true, decide_eq_true_eq] at hrd
  obtain ⟨hs, ht⟩ := hrd
  obtain ⟨ls, h⟩ := Option.isSome_iff_exists.mp hs
  have htl : t.data.toList = gnm m gs := by rw [ht]
  have hts : t.size ≤ 240 := by rw [← list_len, htl]; exact gnm_len m gs
  obtain ⟨_, _, _, hsum, _, hc⟩ := grp_of h
  refine EvP.ite (fun h0 => ?_) (fun h0 => ?_)
  · obtain rfl : gs = [] := List.eq_nil_of_length_eq_zero (by omega)
    have hls := (grp_small h).1
    refine EvP.yes ?_ (EvP.ret ?_)
    · rw [list_eq, htl, gnm_some h, List.eq_nil_of_length_eq_zero hls]
      rfl
    · rw [beq_iff_eq]
      simp only [sumG] at hsum
      exact hsum.symm
  · refine EvP.bind (P := (· = ([] : List MlG))) (EvP.ret rfl) (fun _ e => ?_)
    subst e
    refine EvP.yes (by rw [List.length_nil]; omega) ?_
    refine EvP.bind (P := (· = gs)) (EvP.ret rfl) (fun y e => ?_)
    rw [e]
    clear e y
    have hpos : 0 < (gs.length : Int) := by omega
    have i0 := Int.emod_nonneg (l2.length : Int) (show (gs.length : Int) ≠ 0 by omega)
    have i1 := Int.emod_lt_of_pos (l2.length : Int) hpos
    refine EvP.yes i0 (EvP.yes i1 (EvP.yes (by omega) ?_))
    obtain ⟨i, hi⟩ := Int.eq_ofNat_of_zero_le i0
    rw [hi] at i1 ⊢
    have hlt : i < gs.length := by omega
    rw [toNat_nat, rdG_lt hlt]
    have hno : gread m gs (t ++ (⟨#[32, 112, 101, 115]⟩ : ByteArray)) = false := by
      unfold gread
      rw [Bool.and_eq_false_iff]
      right
      apply decide_eq_false
      intro e
      have e2 := congrArg ByteArray.size (e.trans ht.symm)
      rw [ByteArray.size_append] at e2
      have : (⟨#[32, 112, 101, 115]⟩ : ByteArray).size = 4 := rfl
      omega
    refine EvP.bind (impl_gread m gs _ (by omega)) (fun _ e => ?_)
    subst e
    refine EvP.no (by rw [hno]; decide) ?_
    refine EvP.bind (impl_gread m _ t (by rw [List.length_set]; omega)) (fun _ e => ?_)
    subst e
    refine EvP.ret ?_
    have hfl := gnm_flip h i gs[i] (List.getElem?_eq_getElem hlt)
    have : gread m (gs.set i ⟨gs[i].f0, !gs[i].f1⟩) t = false := by
      unfold gread
      rw [Bool.and_eq_false_iff]
      right
      apply decide_eq_false
      intro e
      apply hfl
      rw [← htl, e]
    rw [this]
    rfl
end Go.Proofs.YtldepdaglapdeaaDoor.Pur
end
section
namespace Go.Proofs.YtldepdaglapdeaaDoor.Head
set_option maxRecDepth 100000
theorem and_t {a b : Bool} (h : a = true) (k : b = true) : (a && b) = true := by rw [h, k]; rfl
theorem mayEnter_of {P : Program} {l : List String} {W rest : List (List Char)} (h : behindMainWord (wordsSigns P.initOrder.toList) = W) (hc : ∃ c r, W = c :: r ∧ (c == "gc".toList || c == "spec".toList) = false ∧ (c == "carried".toList) = false) (hs : stripLifts liftWords W = (l, "cut".toList :: rest))
    (hl : (l.contains "finals" || !P.laysLater) = true) (hb : (l.contains "reflectrows" || !P.bearsReflect) = true) (hr : (l.contains "reflectrows" || !l.contains "leanrows") = true) (hd : P.doorFits l = true) : P.mayEnter = true := by
  obtain ⟨c, r, rfl, h1, h2⟩ := hc
  unfold Program.mayEnter
  rw [h]
  dsimp only
  rw [hs, hl, hb, hr, hd, h1, h2]
  simp
theorem headLifts_of {P : Program} {l : List String} {W rest : List (List Char)} (h : behindMainWord (wordsSigns P.initOrder.toList) = W) (hs : stripLifts liftWords W = (l, "cut".toList :: rest)) : P.headLifts = l := by
  unfold Program.headLifts
  rw [h]
  dsimp only
  rw [hs]
  simp
theorem liftsFinal_of {P : Program} {l : List String} {W rest : List (List Char)} (h : behindMainWord (wordsSigns P.initOrder.toList) = W) (hc : ∃ c r, W = c :: r ∧ (c == "gc".toList || c == "spec".toList) = false ∧ (c == "carried".toList) = false) (hs : stripLifts liftWords W = (l, "cut".toList :: rest)) : P.liftsFinal = l.contains "finals" := by
  unfold Program.liftsFinal
  rw [headLifts_of h hs, h]
  obtain ⟨c, r, rfl, h1, h2⟩ := hc
  have h3 : ((c :: r).head? == some "carried".toList) = false := by
    rw [beq_eq_false_iff_ne] at h2 ⊢
    exact fun e => h2 (Option.some.inj e)
  dsimp only
  rw [h3, Bool.false_and, Bool.false_or]
theorem make_of {P : Program} {rest : List (List Char)} (h : behindMainWord (wordsSigns P.initOrder.toList) = "cut".toList :: rest) : P.make = some .cut := by
  unfold Program.make
  rw [h]
  dsimp only
  rw [if_neg (by decide), if_pos (by simp)]
theorem mainIs_of {P : Program} {s : List Char} {rest : List (List Char)} (h : wordsSigns P.initOrder.toList = "harness".toList :: s :: rest) (hs : isSumSigns s = true) : P.mainIs = some (true, s) := by
  unfold Program.mainIs
  rw [h]
  dsimp only
  rw [hs]
  simp
def io : List Nat := [104, 97, 114, 110, 101, 115, 115, 32, 57, 99, 50, 99, 97, 51, 98, 50, 56, 49, 102, 102, 56, 98, 49, 57, 101, 56, 57, 55, 53, 51, 99, 51, 53, 97, 56, 57, 48, 52, 57, 102, 98, 48, 54, 100, 51, 100, 50, 98, 49, 50, 97, 100, 102, 57, 52, 55, 99, 51, 100, 99, 50, 55, 56, 54, 50, 48, 54, 55, 57, 52, 52, 56, 32, 99, 117, 116, 32, 97, 116, 32, 108, 111, 111, 112, 46, 101, 120, 97, 109, 112, 108, 101, 47, 110, 101, 117, 109, 101, 115, 47, 108, 97, 119, 115, 46, 70, 110, 69, 120, 97, 99, 116, 71, 114, 111, 117, 112, 115, 78, 97, 109, 101, 115, 32, 108, 111, 111, 112, 46, 101, 120, 97, 109, 112, 108, 101, 47, 110, 101, 117, 109, 101, 115, 47, 108, 97, 119, 115, 46, 70, 110, 69, 120, 97, 99, 116, 71, 114, 111, 117, 112, 115, 82, 101, 97, 100, 32, 108, 111, 111, 112, 46, 101, 120, 97, 109, 112, 108, 101, 47, 110, 101, 117, 109, 101, 115, 47, 108, 97, 119, 115, 46, 70, 110, 71, 114, 111, 117, 112, 115, 32, 108, 111, 111, 112, 46, 101, 120, 97, 109, 112, 108, 101, 47, 110, 101, 117, 109, 101, 115, 47, 108, 97, 119, 115, 46, 70, 110, 71, 114, 111, 117, 112, 115, 67, 117, 116, 32, 108, 111, 111, 112, 46, 101, 120, 97, 109, 112, 108, 101, 47, 110, 101, 117, 109, 101, 115, 47, 108, 97, 119, 115, 46, 70, 110, 78, 101, 117, 109, 101, 67, 111, 110, 116, 111, 117, 114, 32, 108, 111, 111, 112, 46, 101, 120, 97, 109, 112, 108, 101, 47, 110, 101, 117, 109, 101, 115, 47, 108, 97, 119, 115, 46, 70, 110, 71, 114, 111, 117, 112, 115, 82, 101, 97, 100]
def ws : List (List Nat) := [[104, 97, 114, 110, 101, 115, 115], [57, 99, 50, 99, 97, 51, 98, 50, 56, 49, 102, 102, 56, 98, 49, 57, 101, 56, 57, 55, 53, 51, 99, 51, 53, 97, 56, 57, 48, 52, 57, 102, 98, 48, 54, 100, 51, 100, 50, 98, 49, 50, 97, 100, 102, 57, 52, 55, 99, 51, 100, 99, 50, 55, 56, 54, 50, 48, 54, 55, 57, 52, 52, 56], [99, 117, 116], [97, 116], [108, 111, 111, 112, 46, 101, 120, 97, 109, 112, 108, 101, 47, 110, 101, 117, 109, 101, 115, 47, 108, 97, 119, 115, 46, 70, 110, 69, 120, 97, 99, 116, 71, 114, 111, 117, 112, 115, 78, 97, 109, 101, 115], [108, 111, 111, 112, 46, 101, 120, 97, 109, 112, 108, 101, 47, 110, 101, 117, 109, 101, 115, 47, 108, 97, 119, 115, 46, 70, 110, 69, 120, 97, 99, 116, 71, 114, 111, 117, 112, 115, 82, 101, 97, 100], [108, 111, 111, 112, 46, 101, 120, 97, 109, 112, 108, 101, 47, 110, 101, 117, 109, 101, 115, 47, 108, 97, 119, 115, 46, 70, 110, 71, 114, 111, 117, 112, 115], [108, 111, 111, 112, 46, 101, 120, 97, 109, 112, 108, 101, 47, 110, 101, 117, 109, 101, 115, 47, 108, 97, 119, 115, 46, 70, 110, 71, 114, 111, 117, 112, 115, 67, 117, 116], [108, 111, 111, 112, 46, 101, 120, 97, 109, 112, 108, 101, 47, 110, 101, 117, 109, 101, 115, 47, 108, 97, 119, 115, 46, 70, 110, 78, 101, 117, 109, 101, 67, 111, 110, 116, 111, 117, 114], [108, 111, 111, 112, 46, 101, 120, 97, 109, 112, 108, 101, 47, 110, 101, 117, 109, 101, 115, 47, 108, 97, 119, 115, 46, 70, 110, 71, 114, 111, 117, 112, 115, 82, 101, 97, 100]]
def ch (w : List Nat) : List Char := w.map Char.ofNat
theorem io_is : Tryd.prog.initOrder = String.ofList (ch io) := by kernel_rfl
theorem io_ws : wordsSigns (ch io) = ws.map ch := by kernel_rfl
theorem io_all : wordsSigns Tryd.prog.initOrder.toList = ws.map ch := by rw [io_is, String.toList_ofList, io_ws]
theorem be : behindMainWord (ws.map ch) = (ws.drop 2).map ch := by kernel_rfl
theorem io_be : behindMainWord (wordsSigns Tryd.prog.initOrder.toList) = (ws.drop 2).map ch := by rw [io_all, be]
theorem first : ∃ c r, (ws.drop 2).map ch = c :: r ∧ (c == "gc".toList || c == "spec".toList) = false ∧ (c == "carried".toList) = false := ⟨ch (ws.getD 2 []), (ws.drop 3).map ch, by kernel_rfl, by kernel_rfl, by kernel_rfl⟩
theorem st : stripLifts liftWords ((ws.drop 2).map ch) = ([], "cut".toList :: ((ws.drop 3).map ch)) := by kernel_rfl
theorem ll : ([].contains "finals" || !Tryd.prog.laysLater) = true := by kernel_rfl
theorem br : ([].contains "reflectrows" || !Tryd.prog.bearsReflect) = true := by kernel_rfl
theorem rr : ([].contains "reflectrows" || ![].contains "leanrows") = true := by kernel_rfl
theorem df : Tryd.prog.doorFits [] = true := by kernel_rfl
theorem mayE : Tryd.prog.mayEnter = true := mayEnter_of io_be first st ll br rr df
theorem finE : Tryd.prog.liftsFinal = [].contains "finals" := liftsFinal_of io_be first st
theorem mainE : Tryd.prog.mainIs = some (true, ch [57, 99, 50, 99, 97, 51, 98, 50, 56, 49, 102, 102, 56, 98, 49, 57, 101, 56, 57, 55, 53, 51, 99, 51, 53, 97, 56, 57, 48, 52, 57, 102, 98, 48, 54, 100, 51, 100, 50, 98, 49, 50, 97, 100, 102, 57, 52, 55, 99, 51, 100, 99, 50, 55, 56, 54, 50, 48, 54, 55, 57, 52, 52, 56]) := mainIs_of (rest := (ws.drop 2).map ch) (io_all.trans (by kernel_rfl)) (by kernel_rfl)
theorem makeE : Tryd.prog.make = some .cut := make_of (io_be.trans (by kernel_rfl : (ws.drop 2).map ch = "cut".toList :: ((ws.drop 3).map ch)))
end Go.Proofs.YtldepdaglapdeaaDoor.Head
end
section
namespace Go.Proofs.YtldepdaglapdeaaDoor.Pur
open Go.RowKit Go.ChangeShapes Go.Deep Go.Proofs.YtldepdaglapdeaaDoorW.PrintWords Go.Proofs.YtldepdaglapdeaaDoor.E
theorem open_rowP {P : Program} {H : Type} {enc : TypeId × Value → H} {W : World} {α : Type} [Inhabited α] {d : Kd α} {p : α → Prop} {t e : TypeId} {fuel : Nat} {cs : List Value} {x : DataW H × List MemPlace} (ht : P.underlying t = some (.slice e)) (hc : P.cellsOf e = d.sz)
    (o : ∀ (fuel : Nat) (cs : List Value) (x : DataW H × List MemPlace), DataW.trod enc P W 0 (fun _ => true) true fuel e cs = some x → ∃ y, d.K W y cs ∧ p y)
    (h : DataW.trod enc P W 0 (fun _ => true) true fuel t cs = some x) : ∃ (A : Option Addr) (c : Nat) (l : List α), cs = [.slice A l.length c] ∧ l.length ≤ c ∧ (l.length : Int) ≤ 9223372036854775807 ∧ d.C W A l.length l ∧ ∀ y ∈ l, p y := by
  rcases open_slice ht h with ⟨rfl, _⟩ | ⟨a, len, cap, m, n, D, Pl, rfl, _, hl, hm, hmm, _, hx⟩
  · exact ⟨none, 0, [], rfl, Nat.le_refl _, by simp, ⟨rfl, by simp, fun h => absurd h (by simp)⟩, fun y hy => by cases hy⟩
  · have hlm : len ≤ m := by rw [hmm]; simp; omega
    unfold maxLen at hm
    obtain ⟨Y, hY⟩ := choose_lt (α := α) (n := len) (p := fun i y => ∃ cs', W.cells? 0 (a.add (i * P.cellsOf e)) (P.cellsOf e) = some cs' ∧ d.K W y cs' ∧ p y) (fun i hi => by
      obtain ⟨cs', h1, h2⟩ := hx i (by omega)
      obtain ⟨y, hy, hp⟩ := o _ _ _ h2
      exact ⟨y, cs', h1, hy, hp⟩)
    have hlen : ((List.range len).map Y).length = len := by simp
    refine ⟨some a, cap, (List.range len).map Y, by rw [hlen], by rw [hlen]; exact hl, by rw [hlen]; omega, ⟨rfl, by rw [hlen]; omega, fun _ => ⟨a, rfl, fun j q hj => ?_⟩⟩, fun y hy => ?_⟩
    · obtain ⟨hj1, hj2⟩ := List.getElem?_eq_some_iff.1 hj
      rw [hlen] at hj1
      simp only [List.getElem_map, List.getElem_range] at hj2
      subst hj2
      obtain ⟨cs', h1, h2, _⟩ := hY j hj1
      obtain ⟨_, g1, g2⟩ := World.cells?_some h1
      refine ⟨cs', by rw [g1, hc], h2, fun i u hu => ?_⟩
      have := g2 i (by rw [← g1]; exact (List.getElem?_eq_some_iff.1 hu).1)
      rw [Go.Deep.add_add, hc, hu] at this
      exact this
    · obtain ⟨j, hj, rfl⟩ := List.mem_map.mp hy
      obtain ⟨_, _, _, hp⟩ := hY j (List.mem_range.mp hj)
      exact hp
theorem open_intsR {P : Program} {H : Type} {enc : TypeId × Value → H} {W : World} {k : IntKind} {t e : TypeId} {fuel : Nat} {cs : List Value} {x : DataW H × List MemPlace} (ht : P.underlying t = some (.slice e)) (he : P.underlying e = some (.int k)) (hc : P.cellsOf e = 1) (h : DataW.trod enc P W 0 (fun _ => true) true fuel t cs = some x) :
    ∃ (A : Option Addr) (c : Nat) (l : List Int), cs = [.slice A l.length c] ∧ l.length ≤ c ∧ (l.length : Int) ≤ 9223372036854775807 ∧ (Kd.int k).C W A l.length l ∧ ∀ y ∈ l, (Lit.int k y).wf = true :=
  open_rowP ht hc (fun fuel cs x h => by
    obtain ⟨s, rfl, _, hs⟩ := DataW.trod_int he h
    exact ⟨s, rfl, hs⟩) h
end Go.Proofs.YtldepdaglapdeaaDoor.Pur
end
