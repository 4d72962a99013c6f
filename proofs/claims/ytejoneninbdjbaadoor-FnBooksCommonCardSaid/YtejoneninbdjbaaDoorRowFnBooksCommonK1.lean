/- Proved: for all arguments the given program's laws.FnBooksCommon returns true, and its arguments read afterwards as they read before (the given constant Rows.FnBooksCommonCardSaid).
Conditions: none ahead of the given statement; the statement itself begins in a world whose listed package-level variables hold what the program's text lays there, and its card ties them to that text. -/
import Derived.Test.YtejoneninbdjbaaDoorRowFnBooksCommonK0
section
namespace Go.Proofs.YtejoneninbdjbaaDoor.E
open Go.RowKit Go.Proofs.YtejoneninbdjbaaDoorW.PrintWords Go.Proofs.YtejoneninbdjbaaDoorW.PrintLast Go.Proofs.YtejoneninbdjbaaDoorW.PrintMore
attribute [local go_sem] max2_int min2_int max_two min_two max_three min_three max_four min_four
set_option linter.unusedVariables false
set_option linter.unusedSimpArgs false
attribute [local go_sem] str_leq_ str_gtr_ str_geq_
mutual
def spec_l92Books.l0 : Nat → Bool → List ByteArray → Int → Int → Int → List Int → Int → Option (List ByteArray × Int)
 | 0, _, _, _, _, _, _, _ => none
 | k + 1, x1, x5, x6, x7, x8, x1000, x1001 => if x8 < x6 then (spec_l92Books.l1 k x1 x5 x6 x7 x8 (⟨#[]⟩ : ByteArray) 0 x1000 x1001) else ((spec_l6Rd_pick.f k x1000 x1001 40).bind fun bt269 => (if bt269.1 = 0 then (if 0 < (x5.length : Int) then (if (rdOf ByteArray.empty x5 0).size + 1 ≤ 9223372036854775807 then (some ((x5.set (0 : Int).toNat ((rdOf ByteArray.empty x5 0) ++ (⟨#[97]⟩ : ByteArray))), bt269.2)) else (none)) else (none)) else (if bt269.1 = 1 then (if 0 ≤ (wrap64 (x6 - 1)) then (if (wrap64 (x6 - 1)) < (x5.length : Int) then (if 1 ≤ ((rdOf ByteArray.empty x5 (wrap64 (x6 - 1))).size : Int) then (if 1 + ((rdOf ByteArray.empty x5 (wrap64 (x6 - 1))).extract 1 (rdOf ByteArray.empty x5 (wrap64 (x6 - 1))).size).size ≤ 9223372036854775807 then (some ((x5.set ((wrap64 (x6 - 1)) : Int).toNat ((⟨#[101]⟩ : ByteArray) ++ ((rdOf ByteArray.empty x5 (wrap64 (x6 - 1))).extract 1 (rdOf ByteArray.empty x5 (wrap64 (x6 - 1))).size))), bt269.2)) else (none)) else (none)) else (none)) else (none)) else (if bt269.1 = 2 then (some ((([] : List ByteArray)), bt269.2)) else (some (x5, bt269.2))))))
def spec_l92Books.l1 : Nat → Bool → List ByteArray → Int → Int → Int → ByteArray → Int → List Int → Int → Option (List ByteArray × Int)
 | 0, _, _, _, _, _, _, _, _, _ => none
 | k + 1, x1, x5, x6, x7, x8, x9, x10, x1000, x1001 => if x10 < x7 then (if x8 > 0 then ((spec_l6Rd_pick.f k x1000 x1001 3).bind fun bt250 => (if bt250.1 > 0 then (if 0 ≤ (wrap64 (x8 - 1)) then (if (wrap64 (x8 - 1)) < (x5.length : Int) then (if 0 ≤ x10 then (if x10 < ((rdOf ByteArray.empty x5 (wrap64 (x8 - 1))).size : Int) then (if (bt (rdOf ByteArray.empty x5 (wrap64 (x8 - 1))) x10) = 63 then ((spec_l6Rd_of.f k x1000 bt250.2 (([(⟨#[97]⟩ : ByteArray), (⟨#[98]⟩ : ByteArray), (⟨#[99]⟩ : ByteArray), (⟨#[97]⟩ : ByteArray), (⟨#[100]⟩ : ByteArray)] : List ByteArray))).bind fun bt256 => (if x9.size + bt256.1.size ≤ 9223372036854775807 then (spec_l92Books.l1 k x1 x5 x6 x7 x8 (x9 ++ bt256.1) (wrap64 (x10 + 1)) x1000 bt256.2) else (none))) else (if x10 ≤ (wrap64 (x10 + 1)) then (if (wrap64 (x10 + 1)) ≤ ((rdOf ByteArray.empty x5 (wrap64 (x8 - 1))).size : Int) then (if x9.size + ((rdOf ByteArray.empty x5 (wrap64 (x8 - 1))).extract (x10 : Int).toNat ((wrap64 (x10 + 1)) : Int).toNat).size ≤ 9223372036854775807 then (spec_l92Books.l1 k x1 x5 x6 x7 x8 (x9 ++ ((rdOf ByteArray.empty x5 (wrap64 (x8 - 1))).extract (x10 : Int).toNat ((wrap64 (x10 + 1)) : Int).toNat)) (wrap64 (x10 + 1)) x1000 bt250.2) else (none)) else (none)) else (none))) else (none)) else (none)) else (none)) else (none)) else ((spec_l6Rd_of.f k x1000 bt250.2 (([(⟨#[97]⟩ : ByteArray), (⟨#[98]⟩ : ByteArray), (⟨#[99]⟩ : ByteArray), (⟨#[97]⟩ : ByteArray), (⟨#[100]⟩ : ByteArray)] : List ByteArray))).bind fun bt262 => (if x9.size + bt262.1.size ≤ 9223372036854775807 then (spec_l92Books.l1 k x1 x5 x6 x7 x8 (x9 ++ bt262.1) (wrap64 (x10 + 1)) x1000 bt262.2) else (none))))) else ((spec_l6Rd_of.f k x1000 x1001 (([(⟨#[97]⟩ : ByteArray), (⟨#[98]⟩ : ByteArray), (⟨#[99]⟩ : ByteArray), (⟨#[97]⟩ : ByteArray), (⟨#[100]⟩ : ByteArray)] : List ByteArray))).bind fun bt267 => (if x9.size + bt267.1.size ≤ 9223372036854775807 then (spec_l92Books.l1 k x1 x5 x6 x7 x8 (x9 ++ bt267.1) (wrap64 (x10 + 1)) x1000 bt267.2) else (none)))) else (if x1 = true then ((spec_l6Rd_pick.f k x1000 x1001 3).bind fun bt239 => (if bt239.1 = 0 then (if 0 ≤ x7 then (if x7 ≤ 4 then (if x5.length < 8796093022208 then (spec_l92Books.l0 k x1 (x5 ++ [(⟨#[63, 63, 63, 63]⟩ : ByteArray).extract 0 (x7 : Int).toNat]) x6 x7 (wrap64 (x8 + 1)) x1000 bt239.2) else (none)) else (none)) else (none)) else (if x5.length < 8796093022208 then (spec_l92Books.l0 k x1 (x5 ++ [x9]) x6 x7 (wrap64 (x8 + 1)) x1000 bt239.2) else (none)))) else (if x5.length < 8796093022208 then (spec_l92Books.l0 k x1 (x5 ++ [x9]) x6 x7 (wrap64 (x8 + 1)) x1000 x1001) else (none)))
end
def spec_l92Books.f (k : Nat) (s0_0 : List Int) (s0_1 : Int) (a1 : Bool) : Option (List ByteArray × Int) := (spec_l6Rd_pick.f k s0_0 s0_1 5).bind fun bt235 => ((spec_l6Rd_pick.f k s0_0 bt235.2 4).bind fun bt237 => (spec_l92Books.l0 k a1 (([] : List ByteArray)) (wrap64 (1 + bt235.1)) (wrap64 (1 + bt237.1)) 0 s0_0 bt237.2))
set_option maxHeartbeats 8000000 in
set_option maxRecDepth 100000 in
theorem spec_l92Books.calls (k : Nat) (g : Nat) (s0_0 : List Int) (s0_1 : Int) (a1 : Bool) (r1 : List ByteArray) (r2 : Int) (w0 w : World) (hI : IsS79 w0 w g s0_0 s0_1) (hB : Below w0.heap.size w0 w) (h : spec_l92Books.f k s0_0 s0_1 a1 = some (r1, r2)) :
  Calls Tryd.prog 66 #[.pointer (some ⟨g, 0, none⟩), .bool a1] w fun e w' => ∃ v0_ : Value, e = .returned (v0_) ∧ Kd.R Kd.string 9 w' w.heap.size (fun _ => True) v0_ r1 ∧ IsS79 w0 w' g s0_0 r2 ∧ Below w0.heap.size w0 w' ∧ KeepBut w w' g none := by
 have HI0 := Aside0.mk hI
 have HK := Aside0.mk (KeepBut.refl w g none)
 have HL := Aside0.mk hB.size
 clear hI
 have HW0 := Aside0.mk hB.size
 have HB := Aside0.mk hB
 clear hB
 have H : ((spec_l6Rd_pick.f k s0_0 s0_1 5).bind fun bt235 => ((spec_l6Rd_pick.f k s0_0 bt235.2 4).bind fun bt237 => (spec_l92Books.l0 k a1 (([] : List ByteArray)) (wrap64 (1 + bt235.1)) (wrap64 (1 + bt237.1)) 0 s0_0 bt237.2))) = some (r1, r2) := h
 clear h
 obtain ⟨y232, hy232⟩ : ∃ y_ : List ByteArray, y_ = (([] : List ByteArray)) := ⟨_, rfl⟩
 replace H : ((spec_l6Rd_pick.f k s0_0 s0_1 5).bind fun bt235 => ((spec_l6Rd_pick.f k s0_0 bt235.2 4).bind fun bt237 => (spec_l92Books.l0 k a1 y232 (wrap64 (1 + bt235.1)) (wrap64 (1 + bt237.1)) 0 s0_0 bt237.2))) = some (r1, r2) := by first | (rw [hy232]; with_reducible exact H) | (have H2_ := (Option.bind_some _ _).symm.trans H; rw [hy232]; with_reducible exact H2_) | (have H2_ := (Option.bind_some _ _).symm.trans H; with_reducible exact H2_) | with_reducible exact H | (rw [hy232]; exact H) | exact H
 have Ny232 := Aside0.mk hy232
 clear hy232
 replace H := Option.bind_eq_some_iff.mp H
 obtain ⟨⟨t235, t236⟩, A30, H⟩ := H
 replace H : ((spec_l6Rd_pick.f k s0_0 t236 4).bind fun bt237 => (spec_l92Books.l0 k a1 y232 (wrap64 (1 + t235)) (wrap64 (1 + bt237.1)) 0 s0_0 bt237.2)) = some (r1, r2) := H
 have A3 := Aside0.mk A30
 clear A30
 replace H := Option.bind_eq_some_iff.mp H
 obtain ⟨⟨t237, t238⟩, A40, H⟩ := H
 replace H : (spec_l92Books.l0 k a1 y232 (wrap64 (1 + t235)) (wrap64 (1 + t237)) 0 s0_0 t238) = some (r1, r2) := H
 have A4 := Aside0.mk A40
 clear A40
 have H' := Aside0.mk H
 clear H
 go_enter Tryd.func66, Tryd.ntmps66
 go_wp2_with (first | ((with_reducible refine gate_dst (N := 11) rfl ?_); refine Kd.R_lit Kd.string _ 9 ?hg (N := 11) ?hd (xs := ([] : List ByteArray)) (inner := []) (ok := fun _ => True) (okp := fun _ => True) ?hr ?hp (fun _ hk => hk) trivial (Below.refl _ _) (Nat.le_refl _) (by simp) ?_; (case hd => rfl); (case hg => rfl); (case hr => first | (go_simp; done) | (go_simp; rfl)); (case hp => exact (Reps.none _ _)); intro v233 w5 ho6 hb hg_ hnew_; clear hg_ hnew_; (first | rw [← Ny232.out] at ho6 | (simp only [Int.reduceToNat] at ho6; rw [← Ny232.out] at ho6)); have n0_ := Aside0.mk (Kd.R_lower ho6 (keep_size (w := w) (g := g) (row := none) (by repeat (first | (with_reducible first | exact HK.out | apply KeepBut.set_ | apply keep_drewN | apply keep_drew | apply keep_alloc) | exact HK.out)))); have n1_ := Aside0.mk (IsS79.below (by repeat (first | (with_reducible first | exact HI0.out | apply IsS79.alloc | apply IsS79.drewN | apply IsS79.drew | apply IsS79.set_1) | exact HI0.out)) hb); have n2_ := Aside0.mk (KeepBut.trans (by repeat (first | (with_reducible first | exact HK.out | apply KeepBut.set_ | apply keep_drewN | apply keep_drew | apply keep_alloc) | exact HK.out)) (KeepBut.of_below hb g none) (.inl rfl)); have n3_ := Aside0.mk (below_step (by repeat (first | (with_reducible first | exact HB.out | apply below_alloc | apply pw_below_drewN | apply below_drew1 | refine below_set ?_ (IsS79.ge HI0.out)) | exact HB.out)) hb); clear HI0; clear HK; clear HB; have HO234 := n0_; have HI0 := n1_; have HK := n2_; have HB := n3_; clear n0_ n1_ n2_ n3_; clear hb ho6) | ((with_reducible refine gate_callee (f := 81) rfl ?_); refine goesL_ (some 13) rfl rfl Tryd.func81 (by kernel_rfl) rfl #[.pointer (some ⟨g, 0, none⟩), .int .i64 5] rfl (by (try simp only [List.map_toArray, List.map_cons, List.map_nil]); first | done | rfl | (simp only [List.length_drop, List.length_take]; rfl)) ?_; (with_reducible refine (spec_l6Rd_pick.calls k g s0_0 s0_1 5 t235 t236 w0 _ ?side1 ?side2 A3.out).mono ?_); (case side1 => repeat (first | (with_reducible first | exact HI0.out | apply IsS79.alloc | apply IsS79.drewN | apply IsS79.drew | apply IsS79.set_1) | exact HI0.out)); (case side2 => repeat (first | (with_reducible first | exact HB.out | apply below_alloc | apply pw_below_drewN | apply below_drew1 | refine below_set ?_ (IsS79.ge HI0.out)) | exact HB.out)); rintro e w7 ⟨rfl, hi, hb, hk⟩; refine ⟨_, rfl, ?_⟩; have n0_ := Aside0.mk (Kd.R_mono (Kd.R_keep (IsS79.apart (show IsS79 w0 _ g s0_0 s0_1 from by repeat (first | (with_reducible first | exact HI0.out | apply IsS79.alloc | apply IsS79.drewN | apply IsS79.drew | apply IsS79.set_1) | exact HI0.out)) (by (with_reducible repeat (first | apply Kd.R_alloc | apply Kd.R_drewN | apply Kd.R_drew)); exact HO234.out) (by decide)) hk (fun _ h => h.2)) (fun _ h => h.1)); have n1_ := Aside0.mk (KeepBut.trans (by repeat (first | (with_reducible first | exact HK.out | apply KeepBut.set_ | apply keep_drewN | apply keep_drew | apply keep_alloc) | exact HK.out)) hk (.inl rfl)); have n2_ := Aside0.mk (hb); have n3_ := Aside0.mk (hi); clear HO234; clear HK; clear HB; clear HI0; have HO234 := n0_; have HK := n1_; have HB := n2_; have HI0 := n3_; clear n0_ n1_ n2_ n3_; (try clear hb); (try clear hb2); (try clear hk); (try clear hi)) | ((with_reducible refine gate_callee (f := 81) rfl ?_); refine goesL_ (some 16) rfl rfl Tryd.func81 (by kernel_rfl) rfl #[.pointer (some ⟨g, 0, none⟩), .int .i64 4] rfl (by (try simp only [List.map_toArray, List.map_cons, List.map_nil]); first | done | rfl | (simp only [List.length_drop, List.length_take]; rfl)) ?_; (with_reducible refine (spec_l6Rd_pick.calls k g s0_0 t236 4 t237 t238 w0 _ ?side1 ?side2 A4.out).mono ?_); (case side1 => repeat (first | (with_reducible first | exact HI0.out | apply IsS79.alloc | apply IsS79.drewN | apply IsS79.drew | apply IsS79.set_1) | exact HI0.out)); (case side2 => repeat (first | (with_reducible first | exact HB.out | apply below_alloc | apply pw_below_drewN | apply below_drew1 | refine below_set ?_ (IsS79.ge HI0.out)) | exact HB.out)); rintro e w8 ⟨rfl, hi, hb, hk⟩; refine ⟨_, rfl, ?_⟩; have n0_ := Aside0.mk (Kd.R_mono (Kd.R_keep (IsS79.apart (show IsS79 w0 _ g s0_0 t236 from by repeat (first | (with_reducible first | exact HI0.out | apply IsS79.alloc | apply IsS79.drewN | apply IsS79.drew | apply IsS79.set_1) | exact HI0.out)) (by (with_reducible repeat (first | apply Kd.R_alloc | apply Kd.R_drewN | apply Kd.R_drew)); exact HO234.out) (by decide)) hk (fun _ h => h.2)) (fun _ h => h.1)); have n1_ := Aside0.mk (KeepBut.trans (by repeat (first | (with_reducible first | exact HK.out | apply KeepBut.set_ | apply keep_drewN | apply keep_drew | apply keep_alloc) | exact HK.out)) hk (.inl rfl)); have n2_ := Aside0.mk (hb); have n3_ := Aside0.mk (hi); clear HO234; clear HK; clear HB; clear HI0; have HO234 := n0_; have HK := n1_; have HB := n2_; have HI0 := n3_; clear n0_ n1_ n2_ n3_; (try clear hb); (try clear hb2); (try clear hk); (try clear hi)))
 go_loopg [5, 8] k (fun kq v5 v8 w' => ∃ (x5_1 : List ByteArray) (x8_1 : Int) (x1001_1 : Int), v8 = .int .i64 x8_1 ∧ Aside0 (spec_l92Books.l0 kq a1 x5_1 (wrap64 (1 + t235)) (wrap64 (1 + t237)) x8_1 s0_0 x1001_1 = some (r1, r2)) ∧ Aside0 (kq ≤ k) ∧ Aside0 (Kd.R Kd.string 9 w' w.heap.size (fun _ => True) v5 x5_1) ∧ Aside0 (IsS79 w0 w' g s0_0 x1001_1) ∧ Aside0 (KeepBut w w' g none) ∧ Aside0 (Below w0.heap.size w0 w'))
 case atStart => exact ⟨(y232), (0), (t238), (by first | rfl | (simp; done) | (simp [*]; done)), H', ⟨Nat.le_refl _⟩, ⟨by (with_reducible repeat (first | apply Kd.R_alloc | apply Kd.R_drewN | apply Kd.R_drew)); exact HO234.out⟩, ⟨by repeat (first | (with_reducible first | exact HI0.out | apply IsS79.alloc | apply IsS79.drewN | apply IsS79.drew | apply IsS79.set_1) | exact HI0.out)⟩, ⟨by repeat (first | (with_reducible first | exact HK.out | apply KeepBut.set_ | apply keep_drewN | apply keep_drew | apply keep_alloc) | exact HK.out)⟩, ⟨by repeat (first | (with_reducible first | exact HB.out | apply below_alloc | apply pw_below_drewN | apply below_drew1 | refine below_set ?_ (IsS79.ge HI0.out)) | exact HB.out)⟩⟩
 case round =>
  clear H'
  try clear p2
  try clear c6
  try clear p6
  try clear c8
  obtain ⟨x5_1, x8_1, x1001_1, rfl, HA, HK1, HO_5, HI0, HK, HB⟩ := hrel
  cases gk with
  | zero => exact absurd HA.out (by simp [spec_l92Books.l0])
  | succ k1 =>
   have H := HA.out
   clear HA
   simp only [spec_l92Books.l0] at H
   by_cases c9 : x8_1 < (wrap64 (1 + t235))
   rotate_left
   ·rw [if_neg c9] at H
    have c9b0 : decide (x8_1 < (wrap64 (1 + t235))) = false := decide_eq_false c9
    clear c9
    replace H := Option.bind_eq_some_iff.mp H
    obtain ⟨⟨t269, t270⟩, A620, H⟩ := H
    replace H : (if t269 = 0 then (if 0 < (x5_1.length : Int) then (if (rdOf ByteArray.empty x5_1 0).size + 1 ≤ 9223372036854775807 then (some ((x5_1.set (0 : Int).toNat ((rdOf ByteArray.empty x5_1 0) ++ (⟨#[97]⟩ : ByteArray))), t270)) else (none)) else (none)) else (if t269 = 1 then (if 0 ≤ (wrap64 ((wrap64 (1 + t235)) - 1)) then (if (wrap64 ((wrap64 (1 + t235)) - 1)) < (x5_1.length : Int) then (if 1 ≤ ((rdOf ByteArray.empty x5_1 (wrap64 ((wrap64 (1 + t235)) - 1))).size : Int) then (if 1 + ((rdOf ByteArray.empty x5_1 (wrap64 ((wrap64 (1 + t235)) - 1))).extract 1 (rdOf ByteArray.empty x5_1 (wrap64 ((wrap64 (1 + t235)) - 1))).size).size ≤ 9223372036854775807 then (some ((x5_1.set ((wrap64 ((wrap64 (1 + t235)) - 1)) : Int).toNat ((⟨#[101]⟩ : ByteArray) ++ ((rdOf ByteArray.empty x5_1 (wrap64 ((wrap64 (1 + t235)) - 1))).extract 1 (rdOf ByteArray.empty x5_1 (wrap64 ((wrap64 (1 + t235)) - 1))).size))), t270)) else (none)) else (none)) else (none)) else (none)) else (if t269 = 2 then (some ((([] : List ByteArray)), t270)) else (some (x5_1, t270))))) = some (r1, r2) := H
    have A62 := Aside0.mk A620
    clear A620
    by_cases c63 : t269 = 0
    ·rw [if_pos c63] at H
     have c63b0 : (t269 == 0) = true := beq_iff_eq.mpr c63
     have c63b1 : (t269 != 0) = false := bne_eq_false_iff_eq.mpr c63
     clear c63
     by_cases c64 : 0 < (x5_1.length : Int)
     rotate_left
     ·rw [if_neg c64] at H
      exact absurd H (by simp)
     rw [if_pos c64] at H
     have c64b0 : decide (0 < (x5_1.length : Int)) = true := decide_eq_true c64
     have c64b1 : decide (0 < x5_1.length) = true := decide_eq_true (by omega)
     clear c64
     by_cases c65 : (rdOf ByteArray.empty x5_1 0).size + 1 ≤ 9223372036854775807
     rotate_left
     ·rw [if_neg c65] at H
      exact absurd H (by simp)
     rw [if_pos c65] at H
     have c65b0 := eq_true c65
     have c65b1 : decide ((rdOf ByteArray.empty x5_1 0).size + 1 ≤ 9223372036854775807) = true := decide_eq_true c65
     try have c65b2 : (9223372036854775807 < (rdOf ByteArray.empty x5_1 0).size + 1) = False := eq_false (Nat.not_lt.2 c65)
     obtain ⟨y272, hy272⟩ : ∃ y_ : List ByteArray, y_ = (x5_1.set (0 : Int).toNat ((rdOf ByteArray.empty x5_1 0) ++ (⟨#[97]⟩ : ByteArray))) := ⟨_, rfl⟩
     replace H : (some (y272, t270)) = some (r1, r2) := by first | (rw [hy272]; with_reducible exact H) | (have H2_ := (Option.bind_some _ _).symm.trans H; rw [hy272]; with_reducible exact H2_) | (have H2_ := (Option.bind_some _ _).symm.trans H; with_reducible exact H2_) | with_reducible exact H | (rw [hy272]; exact H) | exact H
     have Ny272 := Aside0.mk hy272
     clear hy272
     simp only [Option.some.injEq, Prod.mk.injEq] at H
     obtain ⟨rfl, rfl⟩ := H
     go_wp2_with (first | ((with_reducible refine gate_callee (f := 81) rfl ?_); refine goesL_ (some 74) rfl rfl Tryd.func81 (by kernel_rfl) rfl #[.pointer (some ⟨g, 0, none⟩), .int .i64 40] rfl (by (try simp only [List.map_toArray, List.map_cons, List.map_nil]); first | done | rfl | (simp only [List.length_drop, List.length_take]; rfl)) ?_; (with_reducible refine (spec_l6Rd_pick.calls k1 g s0_0 x1001_1 40 t269 t270 w0 _ ?side1 ?side2 A62.out).mono ?_); (case side1 => repeat (first | (with_reducible first | exact HI0.out | apply IsS79.alloc | apply IsS79.drewN | apply IsS79.drew | apply IsS79.set_1) | exact HI0.out)); (case side2 => repeat (first | (with_reducible first | exact HB.out | apply below_alloc | apply pw_below_drewN | apply below_drew1 | refine below_set ?_ (IsS79.ge HI0.out)) | exact HB.out)); rintro e w67 ⟨rfl, hi, hb, hk⟩; refine ⟨_, rfl, ?_⟩; have n0_ := Aside0.mk (Kd.R_mono (Kd.R_keep (IsS79.apart (show IsS79 w0 _ g s0_0 x1001_1 from by repeat (first | (with_reducible first | exact HI0.out | apply IsS79.alloc | apply IsS79.drewN | apply IsS79.drew | apply IsS79.set_1) | exact HI0.out)) (by (with_reducible repeat (first | apply Kd.R_alloc | apply Kd.R_drewN | apply Kd.R_drew)); exact HO_5.out) (by decide)) hk (fun _ h => h.2)) (fun _ h => h.1)); have n1_ := Aside0.mk (KeepBut.trans (by repeat (first | (with_reducible first | exact HK.out | apply KeepBut.set_ | apply keep_drewN | apply keep_drew | apply keep_alloc) | exact HK.out)) hk (.inl rfl)); have n2_ := Aside0.mk (hb); have n3_ := Aside0.mk (hi); clear HO_5; clear HK; clear HB; clear HI0; have HO_5 := n0_; have HK := n1_; have HB := n2_; have HI0 := n3_; clear n0_ n1_ n2_ n3_; (try clear hb); (try clear hb2); (try clear hk); (try clear hi); obtain ⟨Ao68, co68, eo68⟩ := Kd.R_slice HO_5.out; subst eo68; have p271 : 0 ≤ (0 : Int) := (by omega); have q271 : 0 < (x5_1.length : Int) := of_decide_eq_true (by first | (with_reducible assumption) | assumption); obtain ⟨ad271, e271, hx271_0⟩ := Kd.at_string (Kd.R_reads' HO_5.out).2.2 0 p271 q271; cases e271; have qi271 : (0 < x5_1.length) = True := eq_true (by omega); (try rw [show ((0 : Int)).toNat = 0 from rfl] at hx271_0); (try rw [Addr.add_zero'] at hx271_0); replace p271 := eq_true p271; replace q271 := eq_true q271; have p66 : 0 ≤ (0 : Int) := (by omega); have q66 : (0 : Int) < ((x5_1.length : Int) : Int) := of_decide_eq_true (by first | (with_reducible assumption) | assumption); have qi66 : (0 < x5_1.length) = True := eq_true (by omega); obtain ⟨go66, co66, eo66, gb66, gl66, cl66, HG66⟩ := Kd.R_form HO_5.out (by omega); (first | cases eo66 | (injection eo66 with ea_ en_ ec_; (first | subst ea_ | (injection ea_ with ea_; subst ea_)); subst ec_; clear en_)); have GB66 := Aside0.mk gb66; have GG66 := Aside0.mk HG66; clear gb66 gl66 HG66; (first | simp only [add_plain] at hx271_0 | skip); obtain ⟨hx66_0, hf66_0⟩ := Kd.R_celln (⟨#[]⟩ : ByteArray) HO_5.out (0 : Int) p66 q66; (try rw [show ((0 : Int)).toNat = 0 from rfl] at hx66_0); (try simp only [Nat.reduceMul, Nat.zero_mul, Nat.zero_add, Nat.reduceAdd] at hx66_0); (try rw [show ((0 : Int)).toNat = 0 from rfl] at hf66_0); (try simp only [Nat.reduceMul, Nat.zero_mul, Nat.zero_add, Nat.reduceAdd] at hf66_0); replace p66 := eq_true p66; replace q66 := eq_true q66; obtain ⟨hy69_, hz69_⟩ := Kd.R_celln (⟨#[]⟩ : ByteArray) HO_5.out (0 : Int) (by omega) (of_decide_eq_true (by first | (with_reducible assumption) | assumption)); (try simp only [Int.reduceToNat, Int.toNat_zero, Int.toNat_ofNat, Nat.reduceMul, Nat.zero_mul, Nat.zero_add] at hy69_ hz69_); (try rw [show ((0 : Int)).toNat = 0 from rfl] at hy69_); (try rw [show ((0 : Int)).toNat = 0 from rfl] at hz69_); have HP69 := Kd.R_putg HO_5.out (0 : Int) ((rdOf ByteArray.empty x5_1 0) ++ (⟨#[97]⟩ : ByteArray))) | ((with_reducible refine gate_store (t := 9) (p := 82) rfl ?_); refine store_event (t := 9) (p := 82) (v := ?vo_w70) (w1 := (w67.setCell ⟨go66, (0 : Int).toNat, none⟩ (.string ((rdOf ByteArray.empty x5_1 0) ++ (⟨#[97]⟩ : ByteArray))))) ?hg ?ho ?hn ?hr ?_; (case ho => rfl); (case hg => rfl); (case hn => rfl); (case hr => first | (go_simp; done) | (go_simp; rfl)); intro w70 hw; have hg : w67.grownBy w70 (some go66) := (by rw [hw]; exact HP69.2); have hp_ : Kd.R Kd.string 9 w70 w.heap.size (fun _ => True) (.slice (some ⟨go66, 0, none⟩) x5_1.length co68) y272 := (by rw [hw, Ny272.out]; exact HP69.1); clear HP69; have n0_ := Aside0.mk (hp_); have n1_ := Aside0.mk (IsS79.grown (by repeat (first | (with_reducible first | exact HI0.out | apply IsS79.alloc | apply IsS79.drewN | apply IsS79.drew | apply IsS79.set_1) | exact HI0.out)) hg (IsS79.own_ne HI0.out HO_5.out (by decide))); have n2_ := Aside0.mk ((by rw [hw]; exact below_set (HB.out) (Nat.le_trans HL.out GB66.out) : Below w0.heap.size w0 w70)); have n3_ := Aside0.mk (KeepBut.trans (by repeat (first | (with_reducible first | exact HK.out | apply KeepBut.set_ | apply keep_drewN | apply keep_drew | apply keep_alloc) | exact HK.out)) (KeepBut.of_grown hg g) (Kd.R_base2 HO_5.out)); clear HO_5; clear HI0; clear HB; clear HK; have HO_5 := n0_; have HI0 := n1_; have HB := n2_; have HK := n3_; clear n0_ n1_ n2_ n3_; clear hg hw hp_))
     go_ret
     exact ⟨_, by first | rfl | (simp [errW_none, errW_some] <;> rfl) | (simp [*, errW_none, errW_some] <;> rfl), by (with_reducible repeat (first | apply Kd.R_alloc | apply Kd.R_drewN | apply Kd.R_drew)); exact HO_5.out, by repeat (first | (with_reducible first | exact HI0.out | apply IsS79.alloc | apply IsS79.drewN | apply IsS79.drew | apply IsS79.set_1) | exact HI0.out), by repeat (first | (with_reducible first | exact HB.out | apply below_alloc | apply pw_below_drewN | apply below_drew1 | refine below_set ?_ (IsS79.ge HI0.out)) | exact HB.out), by repeat (first | (with_reducible first | exact HK.out | apply KeepBut.set_ | apply keep_drewN | apply keep_drew | apply keep_alloc) | exact HK.out)⟩
    rw [if_neg c63] at H
    have c63b0 : (t269 == 0) = false := beq_eq_false_iff_ne.mpr c63
    have c63b1 : (t269 != 0) = true := bne_iff_ne.mpr c63
    by_cases c71 : t269 = 1
    rotate_left
    ·rw [if_neg c71] at H
     have c71b0 : (t269 == 1) = false := beq_eq_false_iff_ne.mpr c71
     have c71b1 : (t269 != 1) = true := bne_iff_ne.mpr c71
     by_cases c82 : t269 = 2
     rotate_left
     ·rw [if_neg c82] at H
      have c82b0 : (t269 == 2) = false := beq_eq_false_iff_ne.mpr c82
      have c82b1 : (t269 != 2) = true := bne_iff_ne.mpr c82
      simp only [Option.some.injEq, Prod.mk.injEq] at H
      obtain ⟨rfl, rfl⟩ := H
      go_wp2_with (first | ((with_reducible refine gate_callee (f := 81) rfl ?_); refine goesL_ (some 74) rfl rfl Tryd.func81 (by kernel_rfl) rfl #[.pointer (some ⟨g, 0, none⟩), .int .i64 40] rfl (by (try simp only [List.map_toArray, List.map_cons, List.map_nil]); first | done | rfl | (simp only [List.length_drop, List.length_take]; rfl)) ?_; (with_reducible refine (spec_l6Rd_pick.calls k1 g s0_0 x1001_1 40 t269 t270 w0 _ ?side1 ?side2 A62.out).mono ?_); (case side1 => repeat (first | (with_reducible first | exact HI0.out | apply IsS79.alloc | apply IsS79.drewN | apply IsS79.drew | apply IsS79.set_1) | exact HI0.out)); (case side2 => repeat (first | (with_reducible first | exact HB.out | apply below_alloc | apply pw_below_drewN | apply below_drew1 | refine below_set ?_ (IsS79.ge HI0.out)) | exact HB.out)); rintro e w86 ⟨rfl, hi, hb, hk⟩; refine ⟨_, rfl, ?_⟩; have n0_ := Aside0.mk (Kd.R_mono (Kd.R_keep (IsS79.apart (show IsS79 w0 _ g s0_0 x1001_1 from by repeat (first | (with_reducible first | exact HI0.out | apply IsS79.alloc | apply IsS79.drewN | apply IsS79.drew | apply IsS79.set_1) | exact HI0.out)) (by (with_reducible repeat (first | apply Kd.R_alloc | apply Kd.R_drewN | apply Kd.R_drew)); exact HO_5.out) (by decide)) hk (fun _ h => h.2)) (fun _ h => h.1)); have n1_ := Aside0.mk (KeepBut.trans (by repeat (first | (with_reducible first | exact HK.out | apply KeepBut.set_ | apply keep_drewN | apply keep_drew | apply keep_alloc) | exact HK.out)) hk (.inl rfl)); have n2_ := Aside0.mk (hb); have n3_ := Aside0.mk (hi); clear HO_5; clear HK; clear HB; clear HI0; have HO_5 := n0_; have HK := n1_; have HB := n2_; have HI0 := n3_; clear n0_ n1_ n2_ n3_; (try clear hb); (try clear hb2); (try clear hk); (try clear hi)))
      go_ret
      exact ⟨_, by first | rfl | (simp [errW_none, errW_some] <;> rfl) | (simp [*, errW_none, errW_some] <;> rfl), by (with_reducible repeat (first | apply Kd.R_alloc | apply Kd.R_drewN | apply Kd.R_drew)); exact HO_5.out, by repeat (first | (with_reducible first | exact HI0.out | apply IsS79.alloc | apply IsS79.drewN | apply IsS79.drew | apply IsS79.set_1) | exact HI0.out), by repeat (first | (with_reducible first | exact HB.out | apply below_alloc | apply pw_below_drewN | apply below_drew1 | refine below_set ?_ (IsS79.ge HI0.out)) | exact HB.out), by repeat (first | (with_reducible first | exact HK.out | apply KeepBut.set_ | apply keep_drewN | apply keep_drew | apply keep_alloc) | exact HK.out)⟩
     rw [if_pos c82] at H
     have c82b0 : (t269 == 2) = true := beq_iff_eq.mpr c82
     have c82b1 : (t269 != 2) = false := bne_eq_false_iff_eq.mpr c82
     clear c82
     obtain ⟨y275, hy275⟩ : ∃ y_ : List ByteArray, y_ = (([] : List ByteArray)) := ⟨_, rfl⟩
     replace H : (some (y275, t270)) = some (r1, r2) := by first | (rw [hy275]; with_reducible exact H) | (have H2_ := (Option.bind_some _ _).symm.trans H; rw [hy275]; with_reducible exact H2_) | (have H2_ := (Option.bind_some _ _).symm.trans H; with_reducible exact H2_) | with_reducible exact H | (rw [hy275]; exact H) | exact H
     have Ny275 := Aside0.mk hy275
     clear hy275
     simp only [Option.some.injEq, Prod.mk.injEq] at H
     obtain ⟨rfl, rfl⟩ := H
     go_wp2_with (first | ((with_reducible refine gate_callee (f := 81) rfl ?_); refine goesL_ (some 74) rfl rfl Tryd.func81 (by kernel_rfl) rfl #[.pointer (some ⟨g, 0, none⟩), .int .i64 40] rfl (by (try simp only [List.map_toArray, List.map_cons, List.map_nil]); first | done | rfl | (simp only [List.length_drop, List.length_take]; rfl)) ?_; (with_reducible refine (spec_l6Rd_pick.calls k1 g s0_0 x1001_1 40 t269 t270 w0 _ ?side1 ?side2 A62.out).mono ?_); (case side1 => repeat (first | (with_reducible first | exact HI0.out | apply IsS79.alloc | apply IsS79.drewN | apply IsS79.drew | apply IsS79.set_1) | exact HI0.out)); (case side2 => repeat (first | (with_reducible first | exact HB.out | apply below_alloc | apply pw_below_drewN | apply below_drew1 | refine below_set ?_ (IsS79.ge HI0.out)) | exact HB.out)); rintro e w83 ⟨rfl, hi, hb, hk⟩; refine ⟨_, rfl, ?_⟩; have n0_ := Aside0.mk (Kd.R_mono (Kd.R_keep (IsS79.apart (show IsS79 w0 _ g s0_0 x1001_1 from by repeat (first | (with_reducible first | exact HI0.out | apply IsS79.alloc | apply IsS79.drewN | apply IsS79.drew | apply IsS79.set_1) | exact HI0.out)) (by (with_reducible repeat (first | apply Kd.R_alloc | apply Kd.R_drewN | apply Kd.R_drew)); exact HO_5.out) (by decide)) hk (fun _ h => h.2)) (fun _ h => h.1)); have n1_ := Aside0.mk (KeepBut.trans (by repeat (first | (with_reducible first | exact HK.out | apply KeepBut.set_ | apply keep_drewN | apply keep_drew | apply keep_alloc) | exact HK.out)) hk (.inl rfl)); have n2_ := Aside0.mk (hb); have n3_ := Aside0.mk (hi); clear HO_5; clear HK; clear HB; clear HI0; have HO_5 := n0_; have HK := n1_; have HB := n2_; have HI0 := n3_; clear n0_ n1_ n2_ n3_; (try clear hb); (try clear hb2); (try clear hk); (try clear hi)) | ((with_reducible refine gate_dst (N := 98) rfl ?_); refine Kd.R_lit Kd.string _ 9 ?hg (N := 98) ?hd (xs := ([] : List ByteArray)) (inner := []) (ok := fun _ => True) (okp := fun _ => True) ?hr ?hp (fun _ hk => hk) trivial (Below.refl _ _) (Nat.le_refl _) (by simp) ?_; (case hd => rfl); (case hg => rfl); (case hr => first | (go_simp; done) | (go_simp; rfl)); (case hp => exact (Reps.none _ _)); intro v276 w84 ho85 hb hg_ hnew_; clear hg_ hnew_; (first | rw [← Ny275.out] at ho85 | (simp only [Int.reduceToNat] at ho85; rw [← Ny275.out] at ho85)); have n0_ := Aside0.mk (Kd.R_elder' (by (with_reducible repeat (first | apply Kd.R_alloc | apply Kd.R_drewN | apply Kd.R_drew)); exact HO_5.out) (Kd.R_base ho85) hb); have n1_ := Aside0.mk (Kd.R_lower (Kd.R_new' ho85 (Kd.R_lt (by (with_reducible repeat (first | apply Kd.R_alloc | apply Kd.R_drewN | apply Kd.R_drew)); exact HO_5.out))) (keep_size (w := w) (g := g) (row := none) (by repeat (first | (with_reducible first | exact HK.out | apply KeepBut.set_ | apply keep_drewN | apply keep_drew | apply keep_alloc) | exact HK.out)))); have n2_ := Aside0.mk (IsS79.below (by repeat (first | (with_reducible first | exact HI0.out | apply IsS79.alloc | apply IsS79.drewN | apply IsS79.drew | apply IsS79.set_1) | exact HI0.out)) hb); have n3_ := Aside0.mk (KeepBut.trans (by repeat (first | (with_reducible first | exact HK.out | apply KeepBut.set_ | apply keep_drewN | apply keep_drew | apply keep_alloc) | exact HK.out)) (KeepBut.of_below hb g none) (.inl rfl)); have n4_ := Aside0.mk (below_step (by repeat (first | (with_reducible first | exact HB.out | apply below_alloc | apply pw_below_drewN | apply below_drew1 | refine below_set ?_ (IsS79.ge HI0.out)) | exact HB.out)) hb); clear HO_5; clear HI0; clear HK; clear HB; have HO_5 := n0_; have HO277 := n1_; have HI0 := n2_; have HK := n3_; have HB := n4_; clear n0_ n1_ n2_ n3_ n4_; clear hb ho85))
     go_ret
     exact ⟨_, by first | rfl | (simp [errW_none, errW_some] <;> rfl) | (simp [*, errW_none, errW_some] <;> rfl), by (with_reducible repeat (first | apply Kd.R_alloc | apply Kd.R_drewN | apply Kd.R_drew)); exact Kd.R_mono HO277.out (fun _ hk => trivial), by repeat (first | (with_reducible first | exact HI0.out | apply IsS79.alloc | apply IsS79.drewN | apply IsS79.drew | apply IsS79.set_1) | exact HI0.out), by repeat (first | (with_reducible first | exact HB.out | apply below_alloc | apply pw_below_drewN | apply below_drew1 | refine below_set ?_ (IsS79.ge HI0.out)) | exact HB.out), by repeat (first | (with_reducible first | exact HK.out | apply KeepBut.set_ | apply keep_drewN | apply keep_drew | apply keep_alloc) | exact HK.out)⟩
    rw [if_pos c71] at H
    have c71b0 : (t269 == 1) = true := beq_iff_eq.mpr c71
    have c71b1 : (t269 != 1) = false := bne_eq_false_iff_eq.mpr c71
    clear c71
    obtain ⟨ji72, hji72⟩ : ∃ j_ : Int, (wrap64 ((wrap64 (1 + t235)) - 1)) = j_ := ⟨_, rfl⟩
    replace H : (if 0 ≤ (ji72) then (if (ji72) < (x5_1.length : Int) then (if 1 ≤ ((rdOf ByteArray.empty x5_1 (ji72)).size : Int) then (if 1 + ((rdOf ByteArray.empty x5_1 (ji72)).extract 1 (rdOf ByteArray.empty x5_1 (ji72)).size).size ≤ 9223372036854775807 then (some ((x5_1.set ((ji72) : Int).toNat ((⟨#[101]⟩ : ByteArray) ++ ((rdOf ByteArray.empty x5_1 (ji72)).extract 1 (rdOf ByteArray.empty x5_1 (ji72)).size))), t270)) else (none)) else (none)) else (none)) else (none)) = some (r1, r2) := by first | (rw [hji72] at H; exact H) | (simp only [hji72] at H ⊢; exact H)
    (try rw [hji72] at A62)
    have hji72w : (IntKind.i64.wrap ((wrap64 (1 + t235)) - 1)) = ji72 := (i64_w _).trans hji72
    by_cases c73 : 0 ≤ (ji72)
    rotate_left
    ·rw [if_neg c73] at H
     exact absurd H (by simp)
    rw [if_pos c73] at H
    have c73b0 : decide (0 ≤ (ji72)) = true := decide_eq_true c73
    clear c73
    by_cases c74 : (ji72) < (x5_1.length : Int)
    rotate_left
    ·rw [if_neg c74] at H
     exact absurd H (by simp)
    rw [if_pos c74] at H
    have c74b0 : decide ((ji72) < (x5_1.length : Int)) = true := decide_eq_true c74
    clear c74
    by_cases c75 : 1 ≤ ((rdOf ByteArray.empty x5_1 (ji72)).size : Int)
    rotate_left
    ·rw [if_neg c75] at H
     exact absurd H (by simp)
    rw [if_pos c75] at H
    have c75b0 := eq_true c75
    have c75b1 : decide (1 ≤ ((rdOf ByteArray.empty x5_1 (ji72)).size : Int)) = true := decide_eq_true c75
    clear c75
    by_cases c76 : 1 + ((rdOf ByteArray.empty x5_1 (ji72)).extract 1 (rdOf ByteArray.empty x5_1 (ji72)).size).size ≤ 9223372036854775807
    rotate_left
    ·rw [if_neg c76] at H
     exact absurd H (by simp)
    rw [if_pos c76] at H
    have c76b0 := eq_true c76
    have c76b1 : decide (1 + ((rdOf ByteArray.empty x5_1 (ji72)).extract 1 (rdOf ByteArray.empty x5_1 (ji72)).size).size ≤ 9223372036854775807) = true := decide_eq_true c76
    try have c76b2 : (9223372036854775807 < 1 + ((rdOf ByteArray.empty x5_1 (ji72)).extract 1 (rdOf ByteArray.empty x5_1 (ji72)).size).size) = False := eq_false (Nat.not_lt.2 c76)
    try have c76b2c := c76b2
    (try simp only [ByteArray.size_extract, Nat.min_self] at c76b2c)
    obtain ⟨y274, hy274⟩ : ∃ y_ : List ByteArray, y_ = (x5_1.set ((ji72) : Int).toNat ((⟨#[101]⟩ : ByteArray) ++ ((rdOf ByteArray.empty x5_1 (ji72)).extract 1 (rdOf ByteArray.empty x5_1 (ji72)).size))) := ⟨_, rfl⟩
    replace H : (some (y274, t270)) = some (r1, r2) := by first | (rw [hy274]; with_reducible exact H) | (have H2_ := (Option.bind_some _ _).symm.trans H; rw [hy274]; with_reducible exact H2_) | (have H2_ := (Option.bind_some _ _).symm.trans H; with_reducible exact H2_) | with_reducible exact H | (rw [hy274]; exact H) | exact H
    have Ny274 := Aside0.mk hy274
    clear hy274
    simp only [Option.some.injEq, Prod.mk.injEq] at H
    obtain ⟨rfl, rfl⟩ := H
    go_wp2_with (first | ((with_reducible refine gate_callee (f := 81) rfl ?_); refine goesL_ (some 74) rfl rfl Tryd.func81 (by kernel_rfl) rfl #[.pointer (some ⟨g, 0, none⟩), .int .i64 40] rfl (by (try simp only [List.map_toArray, List.map_cons, List.map_nil]); first | done | rfl | (simp only [List.length_drop, List.length_take]; rfl)) ?_; (with_reducible refine (spec_l6Rd_pick.calls k1 g s0_0 x1001_1 40 t269 t270 w0 _ ?side1 ?side2 A62.out).mono ?_); (case side1 => repeat (first | (with_reducible first | exact HI0.out | apply IsS79.alloc | apply IsS79.drewN | apply IsS79.drew | apply IsS79.set_1) | exact HI0.out)); (case side2 => repeat (first | (with_reducible first | exact HB.out | apply below_alloc | apply pw_below_drewN | apply below_drew1 | refine below_set ?_ (IsS79.ge HI0.out)) | exact HB.out)); rintro e w78 ⟨rfl, hi, hb, hk⟩; refine ⟨_, rfl, ?_⟩; have n0_ := Aside0.mk (Kd.R_mono (Kd.R_keep (IsS79.apart (show IsS79 w0 _ g s0_0 x1001_1 from by repeat (first | (with_reducible first | exact HI0.out | apply IsS79.alloc | apply IsS79.drewN | apply IsS79.drew | apply IsS79.set_1) | exact HI0.out)) (by (with_reducible repeat (first | apply Kd.R_alloc | apply Kd.R_drewN | apply Kd.R_drew)); exact HO_5.out) (by decide)) hk (fun _ h => h.2)) (fun _ h => h.1)); have n1_ := Aside0.mk (KeepBut.trans (by repeat (first | (with_reducible first | exact HK.out | apply KeepBut.set_ | apply keep_drewN | apply keep_drew | apply keep_alloc) | exact HK.out)) hk (.inl rfl)); have n2_ := Aside0.mk (hb); have n3_ := Aside0.mk (hi); clear HO_5; clear HK; clear HB; clear HI0; have HO_5 := n0_; have HK := n1_; have HB := n2_; have HI0 := n3_; clear n0_ n1_ n2_ n3_; (try clear hb); (try clear hb2); (try clear hk); (try clear hi); obtain ⟨Ao79, co79, eo79⟩ := Kd.R_slice HO_5.out; subst eo79; have p273 : 0 ≤ ((ji72) : Int) := of_decide_eq_true (by first | (with_reducible assumption) | assumption); have q273 : (ji72) < (x5_1.length : Int) := of_decide_eq_true (by first | (with_reducible assumption) | assumption); obtain ⟨ad273, e273, hx273_0⟩ := Kd.at_string (Kd.R_reads' HO_5.out).2.2 (ji72) p273 q273; cases e273; replace p273 := eq_true p273; replace q273 := eq_true q273; have p77 : 0 ≤ ((ji72) : Int) := of_decide_eq_true (by first | (with_reducible assumption) | assumption); have q77 : ((ji72) : Int) < ((x5_1.length : Int) : Int) := of_decide_eq_true (by first | (with_reducible assumption) | assumption); obtain ⟨go77, co77, eo77, gb77, gl77, cl77, HG77⟩ := Kd.R_form HO_5.out (by omega); (first | cases eo77 | (injection eo77 with ea_ en_ ec_; (first | subst ea_ | (injection ea_ with ea_; subst ea_)); subst ec_; clear en_)); have GB77 := Aside0.mk gb77; have GG77 := Aside0.mk HG77; clear gb77 gl77 HG77; (first | simp only [add_plain] at hx273_0 | skip); obtain ⟨hx77_0, hf77_0⟩ := Kd.R_celln (⟨#[]⟩ : ByteArray) HO_5.out ((ji72) : Int) p77 q77; replace p77 := eq_true p77; replace q77 := eq_true q77; obtain ⟨hy80_, hz80_⟩ := Kd.R_celln (⟨#[]⟩ : ByteArray) HO_5.out ((ji72) : Int) (of_decide_eq_true (by first | (with_reducible assumption) | assumption)) (of_decide_eq_true (by first | (with_reducible assumption) | assumption)); have HP80 := Kd.R_putg HO_5.out ((ji72) : Int) ((⟨#[101]⟩ : ByteArray) ++ ((rdOf ByteArray.empty x5_1 (ji72)).extract 1 (rdOf ByteArray.empty x5_1 (ji72)).size))) | ((with_reducible refine gate_store (t := 9) (p := 95) rfl ?_); refine store_event (t := 9) (p := 95) (v := ?vo_w81) (w1 := (w78.setCell ⟨go77, ((ji72) : Int).toNat, none⟩ (.string ((⟨#[101]⟩ : ByteArray) ++ ((rdOf ByteArray.empty x5_1 (ji72)).extract 1 (rdOf ByteArray.empty x5_1 (ji72)).size))))) ?hg ?ho ?hn ?hr ?_; (case ho => rfl); (case hg => rfl); (case hn => rfl); (case hr => first | (go_simp; done) | (go_simp; rfl)); intro w81 hw; have hg : w78.grownBy w81 (some go77) := (by rw [hw]; exact HP80.2); have hp_ : Kd.R Kd.string 9 w81 w.heap.size (fun _ => True) (.slice (some ⟨go77, 0, none⟩) x5_1.length co79) y274 := (by rw [hw, Ny274.out]; exact HP80.1); clear HP80; have n0_ := Aside0.mk (hp_); have n1_ := Aside0.mk (IsS79.grown (by repeat (first | (with_reducible first | exact HI0.out | apply IsS79.alloc | apply IsS79.drewN | apply IsS79.drew | apply IsS79.set_1) | exact HI0.out)) hg (IsS79.own_ne HI0.out HO_5.out (by decide))); have n2_ := Aside0.mk ((by rw [hw]; exact below_set (HB.out) (Nat.le_trans HL.out GB77.out) : Below w0.heap.size w0 w81)); have n3_ := Aside0.mk (KeepBut.trans (by repeat (first | (with_reducible first | exact HK.out | apply KeepBut.set_ | apply keep_drewN | apply keep_drew | apply keep_alloc) | exact HK.out)) (KeepBut.of_grown hg g) (Kd.R_base2 HO_5.out)); clear HO_5; clear HI0; clear HB; clear HK; have HO_5 := n0_; have HI0 := n1_; have HB := n2_; have HK := n3_; clear n0_ n1_ n2_ n3_; clear hg hw hp_))
    go_ret
    exact ⟨_, by first | rfl | (simp [errW_none, errW_some] <;> rfl) | (simp only [← hji72]; first | rfl | (simp [errW_none, errW_some] <;> rfl)) | (simp [*, errW_none, errW_some] <;> rfl), by (with_reducible repeat (first | apply Kd.R_alloc | apply Kd.R_drewN | apply Kd.R_drew)); exact HO_5.out, by repeat (first | (with_reducible first | exact HI0.out | apply IsS79.alloc | apply IsS79.drewN | apply IsS79.drew | apply IsS79.set_1) | exact HI0.out), by repeat (first | (with_reducible first | exact HB.out | apply below_alloc | apply pw_below_drewN | apply below_drew1 | refine below_set ?_ (IsS79.ge HI0.out)) | exact HB.out), by repeat (first | (with_reducible first | exact HK.out | apply KeepBut.set_ | apply keep_drewN | apply keep_drew | apply keep_alloc) | exact HK.out)⟩
   rw [if_pos c9] at H
   have c9b0 : decide (x8_1 < (wrap64 (1 + t235))) = true := decide_eq_true c9
   clear c9
   have H' := Aside0.mk H
   clear H
   go_wp2
   go_loopg [9, 10] k1 (fun kq v9 v10 w' => ∃ (x9_2 : ByteArray) (x10_2 : Int) (x1001_2 : Int), v9 = .string x9_2 ∧ v10 = .int .i64 x10_2 ∧ Aside0 (spec_l92Books.l1 kq a1 x5_1 (wrap64 (1 + t235)) (wrap64 (1 + t237)) x8_1 x9_2 x10_2 s0_0 x1001_2 = some (r1, r2)) ∧ Aside0 (kq ≤ k1) ∧ Aside0 (Kd.R Kd.string 9 w' w.heap.size (fun _ => True) u5 x5_1) ∧ Aside0 (IsS79 w0 w' g s0_0 x1001_2) ∧ Aside0 (KeepBut w w' g none) ∧ Aside0 (Below w0.heap.size w0 w'))
   case atStart => exact ⟨((⟨#[]⟩ : ByteArray)), (0), (x1001_1), (by first | rfl | (simp; done) | (simp [*]; done)), (by first | rfl | (simp; done) | (simp [*]; done)), H', ⟨Nat.le_refl _⟩, ⟨by (with_reducible repeat (first | apply Kd.R_alloc | apply Kd.R_drewN | apply Kd.R_drew)); exact HO_5.out⟩, ⟨by repeat (first | (with_reducible first | exact HI0.out | apply IsS79.alloc | apply IsS79.drewN | apply IsS79.drew | apply IsS79.set_1) | exact HI0.out)⟩, ⟨by repeat (first | (with_reducible first | exact HK.out | apply KeepBut.set_ | apply keep_drewN | apply keep_drew | apply keep_alloc) | exact HK.out)⟩, ⟨by repeat (first | (with_reducible first | exact HB.out | apply below_alloc | apply pw_below_drewN | apply below_drew1 | refine below_set ?_ (IsS79.ge HI0.out)) | exact HB.out)⟩⟩
   case round =>
    clear H'
    try clear p2
    try clear c6
    try clear p6
    try clear c8
    try clear c9
    try clear c9b0
    try clear p2
    try clear p6
    obtain ⟨x9_2, x10_2, x1001_2, rfl, rfl, HA, HK2, HO_5, HI0, HK, HB⟩ := hrel
    cases gk with
    | zero => exact absurd HA.out (by simp [spec_l92Books.l1])
    | succ k2 =>
     have H := HA.out
     clear HA
     simp only [spec_l92Books.l1] at H
     by_cases c10 : x10_2 < (wrap64 (1 + t237))
     rotate_left
     ·rw [if_neg c10] at H
      have c10b0 : decide (x10_2 < (wrap64 (1 + t237))) = false := decide_eq_false c10
      clear c10
      by_cases c48 : a1 = true
      rotate_left
      ·replace c48 := Bool.eq_false_iff.mpr c48
       subst c48
       have H1 : (if x5_1.length < 8796093022208 then (spec_l92Books.l0 k2 false (x5_1 ++ [x9_2]) (wrap64 (1 + t235)) (wrap64 (1 + t237)) (wrap64 (x8_1 + 1)) s0_0 x1001_2) else (none)) = some (r1, r2) := by rw [if_neg (show ¬ (false = true) by decide)] at H; exact H
       clear H
       have H := H1
       clear H1
       by_cases c60 : x5_1.length < 8796093022208
       rotate_left
       ·rw [if_neg c60] at H
        exact absurd H (by simp)
       rw [if_pos c60] at H
       have LMc60 := Aside0.mk c60
       clear c60
       obtain ⟨y247, hy247⟩ : ∃ y_ : List ByteArray, y_ = (x5_1 ++ [x9_2]) := ⟨_, rfl⟩
       replace H : (spec_l92Books.l0 k2 false y247 (wrap64 (1 + t235)) (wrap64 (1 + t237)) (wrap64 (x8_1 + 1)) s0_0 x1001_2) = some (r1, r2) := by first | (rw [hy247]; with_reducible exact H) | (have H2_ := (Option.bind_some _ _).symm.trans H; rw [hy247]; with_reducible exact H2_) | (have H2_ := (Option.bind_some _ _).symm.trans H; with_reducible exact H2_) | with_reducible exact H | (rw [hy247]; exact H) | exact H
       have Ny247 := Aside0.mk hy247
       clear hy247
       have H' := Aside0.mk H
       clear H
       go_wp2_with (first | ((with_reducible refine gate_builtin (b := .append) (xs := #[.tmp 69, .tmp 71]) rfl ?_); at_builtin; refine Kd.R_append Kd.string w.heap.size rfl (.tmp 69) (.tmp 71) 22 9 (.string ⟨#[]⟩) 16 rfl Tryd.underlying22 info9 rfl (by decide) (by omega) u5 x5_1 x9_2 [.string x9_2] (fun _ => True) (fun _ => False) rfl rfl ?aP (fun _ hk => hk.elim) ?aF ?aO (Below.refl _ _) ?aS ?aL ?_; (case aP => exact rfl); (case aF => exact (fun _ _ => trivial)); (case aO => exact (by (with_reducible repeat (first | apply Kd.R_alloc | apply Kd.R_drewN | apply Kd.R_drew)); exact HO_5.out)); (case aS => exact (keep_size (w := w) (g := g) (row := none) (by repeat (first | (with_reducible first | exact HK.out | apply KeepBut.set_ | apply keep_drewN | apply keep_drew | apply keep_alloc) | exact HK.out)))); (case aL => have := LMc60.out; omega); intro v248 w61 ho hb hg hat; rw [← Ny247.out] at ho; have n0_ := Aside0.mk (IsS79.grown (by repeat (first | (with_reducible first | exact HI0.out | apply IsS79.alloc | apply IsS79.drewN | apply IsS79.drew | apply IsS79.set_1) | exact HI0.out)) hg (IsS79.own_ne HI0.out HO_5.out (by decide))); have n1_ := Aside0.mk (below_weaken (by repeat (first | (with_reducible first | exact HB.out | apply below_alloc | apply pw_below_drewN | apply below_drew1 | refine below_set ?_ (IsS79.ge HI0.out)) | exact HB.out)) HL.out hb); have n2_ := Aside0.mk (KeepBut.trans (by repeat (first | (with_reducible first | exact HK.out | apply KeepBut.set_ | apply keep_drewN | apply keep_drew | apply keep_alloc) | exact HK.out)) (KeepBut.of_grown hg g) (Kd.R_base2 HO_5.out)); have n3_ := Aside0.mk (ho); clear HI0; clear HB; clear HK; clear HO_5; have HI0 := n0_; have HB := n1_; have HK := n2_; have HO249 := n3_; clear n0_ n1_ n2_ n3_; clear ho hb hg hat))
       first | go_roundg k2 | ((try simp only [← hji72] at H' ⊢); go_roundg k2)
       case measure => have := HK1.out; have := HK2.out; omega
       case rel => exact ⟨(y247), (wrap64 (x8_1 + 1)), (x1001_2), (by first | rfl | (simp; done) | (simp [*]; done)), H', ⟨by have := HK1.out; have := HK2.out; omega⟩, ⟨by (with_reducible repeat (first | apply Kd.R_alloc | apply Kd.R_drewN | apply Kd.R_drew)); exact HO249.out⟩, ⟨by repeat (first | (with_reducible first | exact HI0.out | apply IsS79.alloc | apply IsS79.drewN | apply IsS79.drew | apply IsS79.set_1) | exact HI0.out)⟩, ⟨by repeat (first | (with_reducible first | exact HK.out | apply KeepBut.set_ | apply keep_drewN | apply keep_drew | apply keep_alloc) | exact HK.out)⟩, ⟨by repeat (first | (with_reducible first | exact HB.out | apply below_alloc | apply pw_below_drewN | apply below_drew1 | refine below_set ?_ (IsS79.ge HI0.out)) | exact HB.out)⟩⟩
      subst c48
      have H1 : ((spec_l6Rd_pick.f k2 s0_0 x1001_2 3).bind fun bt239 => (if bt239.1 = 0 then (if 0 ≤ (wrap64 (1 + t237)) then (if (wrap64 (1 + t237)) ≤ 4 then (if x5_1.length < 8796093022208 then (spec_l92Books.l0 k2 true (x5_1 ++ [(⟨#[63, 63, 63, 63]⟩ : ByteArray).extract 0 ((wrap64 (1 + t237)) : Int).toNat]) (wrap64 (1 + t235)) (wrap64 (1 + t237)) (wrap64 (x8_1 + 1)) s0_0 bt239.2) else (none)) else (none)) else (none)) else (if x5_1.length < 8796093022208 then (spec_l92Books.l0 k2 true (x5_1 ++ [x9_2]) (wrap64 (1 + t235)) (wrap64 (1 + t237)) (wrap64 (x8_1 + 1)) s0_0 bt239.2) else (none)))) = some (r1, r2) := by rw [if_pos rfl] at H; exact H
      clear H
      have H := H1
      clear H1
      replace H := Option.bind_eq_some_iff.mp H
      obtain ⟨⟨t239, t240⟩, A490, H⟩ := H
      replace H : (if t239 = 0 then (if 0 ≤ (wrap64 (1 + t237)) then (if (wrap64 (1 + t237)) ≤ 4 then (if x5_1.length < 8796093022208 then (spec_l92Books.l0 k2 true (x5_1 ++ [(⟨#[63, 63, 63, 63]⟩ : ByteArray).extract 0 ((wrap64 (1 + t237)) : Int).toNat]) (wrap64 (1 + t235)) (wrap64 (1 + t237)) (wrap64 (x8_1 + 1)) s0_0 t240) else (none)) else (none)) else (none)) else (if x5_1.length < 8796093022208 then (spec_l92Books.l0 k2 true (x5_1 ++ [x9_2]) (wrap64 (1 + t235)) (wrap64 (1 + t237)) (wrap64 (x8_1 + 1)) s0_0 t240) else (none))) = some (r1, r2) := H
      have A49 := Aside0.mk A490
      clear A490
      by_cases c50 : t239 = 0
      rotate_left
      ·rw [if_neg c50] at H
       have c50b0 : (t239 == 0) = false := beq_eq_false_iff_ne.mpr c50
       have c50b1 : (t239 != 0) = true := bne_iff_ne.mpr c50
       by_cases c57 : x5_1.length < 8796093022208
       rotate_left
       ·rw [if_neg c57] at H
        exact absurd H (by simp)
       rw [if_pos c57] at H
       have LMc57 := Aside0.mk c57
       clear c57
       obtain ⟨y244, hy244⟩ : ∃ y_ : List ByteArray, y_ = (x5_1 ++ [x9_2]) := ⟨_, rfl⟩
       replace H : (spec_l92Books.l0 k2 true y244 (wrap64 (1 + t235)) (wrap64 (1 + t237)) (wrap64 (x8_1 + 1)) s0_0 t240) = some (r1, r2) := by first | (rw [hy244]; with_reducible exact H) | (have H2_ := (Option.bind_some _ _).symm.trans H; rw [hy244]; with_reducible exact H2_) | (have H2_ := (Option.bind_some _ _).symm.trans H; with_reducible exact H2_) | with_reducible exact H | (rw [hy244]; exact H) | exact H
       have Ny244 := Aside0.mk hy244
       clear hy244
       have H' := Aside0.mk H
       clear H
       go_wp2_with (first | (go_at_call 81; (with_reducible refine (spec_l6Rd_pick.calls k2 g s0_0 x1001_2 3 t239 t240 w0 _ ?side1 ?side2 A49.out).mono ?_); (case side1 => repeat (first | (with_reducible first | exact HI0.out | apply IsS79.alloc | apply IsS79.drewN | apply IsS79.drew | apply IsS79.set_1) | exact HI0.out)); (case side2 => repeat (first | (with_reducible first | exact HB.out | apply below_alloc | apply pw_below_drewN | apply below_drew1 | refine below_set ?_ (IsS79.ge HI0.out)) | exact HB.out)); rintro e w58 ⟨rfl, hi, hb, hk⟩; have n0_ := Aside0.mk (Kd.R_mono (Kd.R_keep (IsS79.apart (show IsS79 w0 _ g s0_0 x1001_2 from by repeat (first | (with_reducible first | exact HI0.out | apply IsS79.alloc | apply IsS79.drewN | apply IsS79.drew | apply IsS79.set_1) | exact HI0.out)) (by (with_reducible repeat (first | apply Kd.R_alloc | apply Kd.R_drewN | apply Kd.R_drew)); exact HO_5.out) (by decide)) hk (fun _ h => h.2)) (fun _ h => h.1)); have n1_ := Aside0.mk (KeepBut.trans (by repeat (first | (with_reducible first | exact HK.out | apply KeepBut.set_ | apply keep_drewN | apply keep_drew | apply keep_alloc) | exact HK.out)) hk (.inl rfl)); have n2_ := Aside0.mk (hb); have n3_ := Aside0.mk (hi); clear HO_5; clear HK; clear HB; clear HI0; have HO_5 := n0_; have HK := n1_; have HB := n2_; have HI0 := n3_; clear n0_ n1_ n2_ n3_; (try clear hb); (try clear hb2); (try clear hk); (try clear hi)) | ((with_reducible refine gate_builtin (b := .append) (xs := #[.tmp 69, .tmp 71]) rfl ?_); at_builtin; refine Kd.R_append Kd.string w.heap.size rfl (.tmp 69) (.tmp 71) 22 9 (.string ⟨#[]⟩) 16 rfl Tryd.underlying22 info9 rfl (by decide) (by omega) u5 x5_1 x9_2 [.string x9_2] (fun _ => True) (fun _ => False) rfl rfl ?aP (fun _ hk => hk.elim) ?aF ?aO (Below.refl _ _) ?aS ?aL ?_; (case aP => exact rfl); (case aF => exact (fun _ _ => trivial)); (case aO => exact (by (with_reducible repeat (first | apply Kd.R_alloc | apply Kd.R_drewN | apply Kd.R_drew)); exact HO_5.out)); (case aS => exact (keep_size (w := w) (g := g) (row := none) (by repeat (first | (with_reducible first | exact HK.out | apply KeepBut.set_ | apply keep_drewN | apply keep_drew | apply keep_alloc) | exact HK.out)))); (case aL => have := LMc57.out; omega); intro v245 w59 ho hb hg hat; rw [← Ny244.out] at ho; have n0_ := Aside0.mk (IsS79.grown (by repeat (first | (with_reducible first | exact HI0.out | apply IsS79.alloc | apply IsS79.drewN | apply IsS79.drew | apply IsS79.set_1) | exact HI0.out)) hg (IsS79.own_ne HI0.out HO_5.out (by decide))); have n1_ := Aside0.mk (below_weaken (by repeat (first | (with_reducible first | exact HB.out | apply below_alloc | apply pw_below_drewN | apply below_drew1 | refine below_set ?_ (IsS79.ge HI0.out)) | exact HB.out)) HL.out hb); have n2_ := Aside0.mk (KeepBut.trans (by repeat (first | (with_reducible first | exact HK.out | apply KeepBut.set_ | apply keep_drewN | apply keep_drew | apply keep_alloc) | exact HK.out)) (KeepBut.of_grown hg g) (Kd.R_base2 HO_5.out)); have n3_ := Aside0.mk (ho); clear HI0; clear HB; clear HK; clear HO_5; have HI0 := n0_; have HB := n1_; have HK := n2_; have HO246 := n3_; clear n0_ n1_ n2_ n3_; clear ho hb hg hat))
       first | go_roundg k2 | ((try simp only [← hji72] at H' ⊢); go_roundg k2)
       case measure => have := HK1.out; have := HK2.out; omega
       case rel => exact ⟨(y244), (wrap64 (x8_1 + 1)), (t240), (by first | rfl | (simp; done) | (simp [*]; done)), H', ⟨by have := HK1.out; have := HK2.out; omega⟩, ⟨by (with_reducible repeat (first | apply Kd.R_alloc | apply Kd.R_drewN | apply Kd.R_drew)); exact HO246.out⟩, ⟨by repeat (first | (with_reducible first | exact HI0.out | apply IsS79.alloc | apply IsS79.drewN | apply IsS79.drew | apply IsS79.set_1) | exact HI0.out)⟩, ⟨by repeat (first | (with_reducible first | exact HK.out | apply KeepBut.set_ | apply keep_drewN | apply keep_drew | apply keep_alloc) | exact HK.out)⟩, ⟨by repeat (first | (with_reducible first | exact HB.out | apply below_alloc | apply pw_below_drewN | apply below_drew1 | refine below_set ?_ (IsS79.ge HI0.out)) | exact HB.out)⟩⟩
      rw [if_pos c50] at H
      have c50b0 : (t239 == 0) = true := beq_iff_eq.mpr c50
      have c50b1 : (t239 != 0) = false := bne_eq_false_iff_eq.mpr c50
      clear c50
      obtain ⟨ji51, hji51⟩ : ∃ j_ : Int, (wrap64 (1 + t237)) = j_ := ⟨_, rfl⟩
      replace H : (if 0 ≤ (ji51) then (if (ji51) ≤ 4 then (if x5_1.length < 8796093022208 then (spec_l92Books.l0 k2 true (x5_1 ++ [(⟨#[63, 63, 63, 63]⟩ : ByteArray).extract 0 ((ji51) : Int).toNat]) (wrap64 (1 + t235)) (ji51) (wrap64 (x8_1 + 1)) s0_0 t240) else (none)) else (none)) else (none)) = some (r1, r2) := by first | (rw [hji51] at H; exact H) | (simp only [hji51] at H ⊢; exact H)
      (try rw [hji51] at c10b0)
      (try rw [hji51] at A49)
      have hji51w : (IntKind.i64.wrap (1 + t237)) = ji51 := (i64_w _).trans hji51
      by_cases c52 : 0 ≤ (ji51)
      rotate_left
      ·rw [if_neg c52] at H
       exact absurd H (by simp)
      rw [if_pos c52] at H
      have c52b0 := eq_true c52
      have c52b1 : decide (0 ≤ (ji51)) = true := decide_eq_true c52
      clear c52
      by_cases c53 : (ji51) ≤ 4
      rotate_left
      ·rw [if_neg c53] at H
       exact absurd H (by simp)
      rw [if_pos c53] at H
      have c53b0 := eq_true c53
      have c53b1 : decide ((ji51) ≤ 4) = true := decide_eq_true c53
      clear c53
      by_cases c54 : x5_1.length < 8796093022208
      rotate_left
      ·rw [if_neg c54] at H
       exact absurd H (by simp)
      rw [if_pos c54] at H
      have LMc54 := Aside0.mk c54
      clear c54
      obtain ⟨y241, hy241⟩ : ∃ y_ : List ByteArray, y_ = (x5_1 ++ [(⟨#[63, 63, 63, 63]⟩ : ByteArray).extract 0 ((ji51) : Int).toNat]) := ⟨_, rfl⟩
      replace H : (spec_l92Books.l0 k2 true y241 (wrap64 (1 + t235)) (ji51) (wrap64 (x8_1 + 1)) s0_0 t240) = some (r1, r2) := by first | (rw [hy241]; with_reducible exact H) | (have H2_ := (Option.bind_some _ _).symm.trans H; rw [hy241]; with_reducible exact H2_) | (have H2_ := (Option.bind_some _ _).symm.trans H; with_reducible exact H2_) | with_reducible exact H | (rw [hy241]; exact H) | exact H
      have Ny241 := Aside0.mk hy241
      clear hy241
      have H' := Aside0.mk H
      clear H
      go_wp2_with (first | (go_at_call 81; (with_reducible refine (spec_l6Rd_pick.calls k2 g s0_0 x1001_2 3 t239 t240 w0 _ ?side1 ?side2 A49.out).mono ?_); (case side1 => repeat (first | (with_reducible first | exact HI0.out | apply IsS79.alloc | apply IsS79.drewN | apply IsS79.drew | apply IsS79.set_1) | exact HI0.out)); (case side2 => repeat (first | (with_reducible first | exact HB.out | apply below_alloc | apply pw_below_drewN | apply below_drew1 | refine below_set ?_ (IsS79.ge HI0.out)) | exact HB.out)); rintro e w55 ⟨rfl, hi, hb, hk⟩; have n0_ := Aside0.mk (Kd.R_mono (Kd.R_keep (IsS79.apart (show IsS79 w0 _ g s0_0 x1001_2 from by repeat (first | (with_reducible first | exact HI0.out | apply IsS79.alloc | apply IsS79.drewN | apply IsS79.drew | apply IsS79.set_1) | exact HI0.out)) (by (with_reducible repeat (first | apply Kd.R_alloc | apply Kd.R_drewN | apply Kd.R_drew)); exact HO_5.out) (by decide)) hk (fun _ h => h.2)) (fun _ h => h.1)); have n1_ := Aside0.mk (KeepBut.trans (by repeat (first | (with_reducible first | exact HK.out | apply KeepBut.set_ | apply keep_drewN | apply keep_drew | apply keep_alloc) | exact HK.out)) hk (.inl rfl)); have n2_ := Aside0.mk (hb); have n3_ := Aside0.mk (hi); clear HO_5; clear HK; clear HB; clear HI0; have HO_5 := n0_; have HK := n1_; have HB := n2_; have HI0 := n3_; clear n0_ n1_ n2_ n3_; (try clear hb); (try clear hb2); (try clear hk); (try clear hi)) | ((with_reducible refine gate_builtin (b := .append) (xs := #[.tmp 69, .tmp 71]) rfl ?_); at_builtin; refine Kd.R_append Kd.string w.heap.size rfl (.tmp 69) (.tmp 71) 22 9 (.string ⟨#[]⟩) 16 rfl Tryd.underlying22 info9 rfl (by decide) (by omega) u5 x5_1 ((⟨#[63, 63, 63, 63]⟩ : ByteArray).extract 0 ((ji51) : Int).toNat) [.string ((⟨#[63, 63, 63, 63]⟩ : ByteArray).extract 0 ((ji51) : Int).toNat)] (fun _ => True) (fun _ => False) rfl rfl ?aP (fun _ hk => hk.elim) ?aF ?aO (Below.refl _ _) ?aS ?aL ?_; (case aP => exact rfl); (case aF => exact (fun _ _ => trivial)); (case aO => exact (by (with_reducible repeat (first | apply Kd.R_alloc | apply Kd.R_drewN | apply Kd.R_drew)); exact HO_5.out)); (case aS => exact (keep_size (w := w) (g := g) (row := none) (by repeat (first | (with_reducible first | exact HK.out | apply KeepBut.set_ | apply keep_drewN | apply keep_drew | apply keep_alloc) | exact HK.out)))); (case aL => have := LMc54.out; omega); intro v242 w56 ho hb hg hat; rw [← Ny241.out] at ho; have n0_ := Aside0.mk (IsS79.grown (by repeat (first | (with_reducible first | exact HI0.out | apply IsS79.alloc | apply IsS79.drewN | apply IsS79.drew | apply IsS79.set_1) | exact HI0.out)) hg (IsS79.own_ne HI0.out HO_5.out (by decide))); have n1_ := Aside0.mk (below_weaken (by repeat (first | (with_reducible first | exact HB.out | apply below_alloc | apply pw_below_drewN | apply below_drew1 | refine below_set ?_ (IsS79.ge HI0.out)) | exact HB.out)) HL.out hb); have n2_ := Aside0.mk (KeepBut.trans (by repeat (first | (with_reducible first | exact HK.out | apply KeepBut.set_ | apply keep_drewN | apply keep_drew | apply keep_alloc) | exact HK.out)) (KeepBut.of_grown hg g) (Kd.R_base2 HO_5.out)); have n3_ := Aside0.mk (ho); clear HI0; clear HB; clear HK; clear HO_5; have HI0 := n0_; have HB := n1_; have HK := n2_; have HO243 := n3_; clear n0_ n1_ n2_ n3_; clear ho hb hg hat))
      first | go_roundg k2 | ((try simp only [← hji72] at H' ⊢); (try simp only [← hji51] at H' ⊢); go_roundg k2)
      case measure => have := HK1.out; have := HK2.out; omega
      case rel => exact ⟨(y241), (wrap64 (x8_1 + 1)), (t240), (by first | rfl | (simp; done) | (simp [*]; done)), H', ⟨by have := HK1.out; have := HK2.out; omega⟩, ⟨by (with_reducible repeat (first | apply Kd.R_alloc | apply Kd.R_drewN | apply Kd.R_drew)); exact HO243.out⟩, ⟨by repeat (first | (with_reducible first | exact HI0.out | apply IsS79.alloc | apply IsS79.drewN | apply IsS79.drew | apply IsS79.set_1) | exact HI0.out)⟩, ⟨by repeat (first | (with_reducible first | exact HK.out | apply KeepBut.set_ | apply keep_drewN | apply keep_drew | apply keep_alloc) | exact HK.out)⟩, ⟨by repeat (first | (with_reducible first | exact HB.out | apply below_alloc | apply pw_below_drewN | apply below_drew1 | refine below_set ?_ (IsS79.ge HI0.out)) | exact HB.out)⟩⟩
     rw [if_pos c10] at H
     have c10b0 : decide (x10_2 < (wrap64 (1 + t237))) = true := decide_eq_true c10
     clear c10
     by_cases c11 : x8_1 > 0
     rotate_left
     ·rw [if_neg c11] at H
      have c11b0 : decide (0 < x8_1) = false := decide_eq_false c11
      clear c11
      obtain ⟨y264, hy264⟩ : ∃ y_ : List ByteArray, y_ = (([(⟨#[97]⟩ : ByteArray), (⟨#[98]⟩ : ByteArray), (⟨#[99]⟩ : ByteArray), (⟨#[97]⟩ : ByteArray), (⟨#[100]⟩ : ByteArray)] : List ByteArray)) := ⟨_, rfl⟩
      replace H : ((spec_l6Rd_of.f k2 s0_0 x1001_2 y264).bind fun bt267 => (if x9_2.size + bt267.1.size ≤ 9223372036854775807 then (spec_l92Books.l1 k2 a1 x5_1 (wrap64 (1 + t235)) (wrap64 (1 + t237)) x8_1 (x9_2 ++ bt267.1) (wrap64 (x10_2 + 1)) s0_0 bt267.2) else (none))) = some (r1, r2) := by first | (rw [hy264]; with_reducible exact H) | (have H2_ := (Option.bind_some _ _).symm.trans H; rw [hy264]; with_reducible exact H2_) | (have H2_ := (Option.bind_some _ _).symm.trans H; with_reducible exact H2_) | with_reducible exact H | (rw [hy264]; exact H) | exact H
      have Ny264 := Aside0.mk hy264
      clear hy264
      replace H := Option.bind_eq_some_iff.mp H
      obtain ⟨⟨t267, t268⟩, A420, H⟩ := H
      replace H : (if x9_2.size + t267.size ≤ 9223372036854775807 then (spec_l92Books.l1 k2 a1 x5_1 (wrap64 (1 + t235)) (wrap64 (1 + t237)) x8_1 (x9_2 ++ t267) (wrap64 (x10_2 + 1)) s0_0 t268) else (none)) = some (r1, r2) := H
      have A42 := Aside0.mk A420
      clear A420
      by_cases c43 : x9_2.size + t267.size ≤ 9223372036854775807
      rotate_left
      ·rw [if_neg c43] at H
       exact absurd H (by simp)
      rw [if_pos c43] at H
      have c43b0 := eq_true c43
      have c43b1 : decide (x9_2.size + t267.size ≤ 9223372036854775807) = true := decide_eq_true c43
      try have c43b2 : (9223372036854775807 < x9_2.size + t267.size) = False := eq_false (Nat.not_lt.2 c43)
      have H' := Aside0.mk H
      clear H
      go_wp2_with (first | ((with_reducible refine gate_dst (N := 58) rfl ?_); refine Kd.R_lit Kd.string _ 9 ?hg (N := 58) ?hd (xs := ([(⟨#[97]⟩ : ByteArray), (⟨#[98]⟩ : ByteArray), (⟨#[99]⟩ : ByteArray), (⟨#[97]⟩ : ByteArray), (⟨#[100]⟩ : ByteArray)] : List ByteArray)) (inner := [.string (⟨#[97]⟩ : ByteArray), .string (⟨#[98]⟩ : ByteArray), .string (⟨#[99]⟩ : ByteArray), .string (⟨#[97]⟩ : ByteArray), .string (⟨#[100]⟩ : ByteArray)]) (ok := fun _ => True) (okp := fun _ => True) ?hr ?hp (fun _ hk => hk) trivial (Below.refl _ _) (Nat.le_refl _) (by simp) ?_; (case hd => rfl); (case hg => rfl); (case hr => first | (go_simp; done) | (go_simp; rfl)); (case hp => exact (Reps.one (show Kd.M Kd.string _ _ _ (⟨#[97]⟩ : ByteArray) [.string (⟨#[97]⟩ : ByteArray)] from rfl) (Reps.one (show Kd.M Kd.string _ _ _ (⟨#[98]⟩ : ByteArray) [.string (⟨#[98]⟩ : ByteArray)] from rfl) (Reps.one (show Kd.M Kd.string _ _ _ (⟨#[99]⟩ : ByteArray) [.string (⟨#[99]⟩ : ByteArray)] from rfl) (Reps.one (show Kd.M Kd.string _ _ _ (⟨#[97]⟩ : ByteArray) [.string (⟨#[97]⟩ : ByteArray)] from rfl) (Reps.one (show Kd.M Kd.string _ _ _ (⟨#[100]⟩ : ByteArray) [.string (⟨#[100]⟩ : ByteArray)] from rfl) (Reps.none _ _))))))); intro v265 w44 ho45 hb hg_ hnew_; clear hg_ hnew_; (first | rw [← Ny264.out] at ho45 | (simp only [Int.reduceToNat] at ho45; rw [← Ny264.out] at ho45)); have n0_ := Aside0.mk (Kd.R_elder' (by (with_reducible repeat (first | apply Kd.R_alloc | apply Kd.R_drewN | apply Kd.R_drew)); exact HO_5.out) (Kd.R_base ho45) hb); have n1_ := Aside0.mk (Kd.R_lower (Kd.R_new' ho45 (Kd.R_lt (by (with_reducible repeat (first | apply Kd.R_alloc | apply Kd.R_drewN | apply Kd.R_drew)); exact HO_5.out))) (keep_size (w := w) (g := g) (row := none) (by repeat (first | (with_reducible first | exact HK.out | apply KeepBut.set_ | apply keep_drewN | apply keep_drew | apply keep_alloc) | exact HK.out)))); have n2_ := Aside0.mk (IsS79.below (by repeat (first | (with_reducible first | exact HI0.out | apply IsS79.alloc | apply IsS79.drewN | apply IsS79.drew | apply IsS79.set_1) | exact HI0.out)) hb); have n3_ := Aside0.mk (KeepBut.trans (by repeat (first | (with_reducible first | exact HK.out | apply KeepBut.set_ | apply keep_drewN | apply keep_drew | apply keep_alloc) | exact HK.out)) (KeepBut.of_below hb g none) (.inl rfl)); have n4_ := Aside0.mk (below_step (by repeat (first | (with_reducible first | exact HB.out | apply below_alloc | apply pw_below_drewN | apply below_drew1 | refine below_set ?_ (IsS79.ge HI0.out)) | exact HB.out)) hb); clear HO_5; clear HI0; clear HK; clear HB; have HO_5 := n0_; have HO266 := n1_; have HI0 := n2_; have HK := n3_; have HB := n4_; clear n0_ n1_ n2_ n3_ n4_; clear hb ho45; obtain ⟨Ao46, co46, eo46⟩ := Kd.R_slice HO266.out; subst eo46) | ((with_reducible refine gate_callee (f := 82) rfl ?_); refine goesL_ (some 59) rfl rfl Tryd.func82 (by kernel_rfl) rfl #[.pointer (some ⟨g, 0, none⟩), .slice Ao46 y264.length co46] rfl (by (try simp only [List.map_toArray, List.map_cons, List.map_nil]); first | done | rfl | (simp only [List.length_drop, List.length_take]; rfl)) ?_; (with_reducible refine (spec_l6Rd_of.calls k2 g s0_0 x1001_2 _ _ y264 t267 t268 w0 _ ?side1 ?side2 ?side3 ?side4 ?side5 A42.out).mono ?_); (case side1 => repeat (first | (with_reducible first | exact HI0.out | apply IsS79.alloc | apply IsS79.drewN | apply IsS79.drew | apply IsS79.set_1) | exact HI0.out)); (case side2 => repeat (first | (with_reducible first | exact HB.out | apply below_alloc | apply pw_below_drewN | apply below_drew1 | refine below_set ?_ (IsS79.ge HI0.out)) | exact HB.out)); (case side3 => repeat (first | exact (Kd.R_reads' HO266.out).2.2 | (with_reducible refine Kd.C_alloc ?_ _) | (with_reducible refine Kd.C_drewN ?_ _) | (with_reducible refine Kd.C_drew ?_))); (case side4 => exact (Kd.R_reads' HO266.out).2.1); (case side5 => exact far_slice (IsS79.own_ne HI0.out HO266.out (by decide))); rintro e w47 ⟨rfl, hi, hb, hk⟩; refine ⟨_, rfl, ?_⟩; have n0_ := Aside0.mk (Kd.R_mono (Kd.R_keep (IsS79.apart (show IsS79 w0 _ g s0_0 x1001_2 from by repeat (first | (with_reducible first | exact HI0.out | apply IsS79.alloc | apply IsS79.drewN | apply IsS79.drew | apply IsS79.set_1) | exact HI0.out)) (by (with_reducible repeat (first | apply Kd.R_alloc | apply Kd.R_drewN | apply Kd.R_drew)); exact HO_5.out) (by decide)) hk (fun _ h => h.2)) (fun _ h => h.1)); have n1_ := Aside0.mk (Kd.R_mono (Kd.R_keep (IsS79.apart (show IsS79 w0 _ g s0_0 x1001_2 from by repeat (first | (with_reducible first | exact HI0.out | apply IsS79.alloc | apply IsS79.drewN | apply IsS79.drew | apply IsS79.set_1) | exact HI0.out)) (by (with_reducible repeat (first | apply Kd.R_alloc | apply Kd.R_drewN | apply Kd.R_drew)); exact HO266.out) (by decide)) hk (fun _ h => h.2)) (fun _ h => h.1)); have n2_ := Aside0.mk (KeepBut.trans (by repeat (first | (with_reducible first | exact HK.out | apply KeepBut.set_ | apply keep_drewN | apply keep_drew | apply keep_alloc) | exact HK.out)) hk (.inl rfl)); have n3_ := Aside0.mk (hb); have n4_ := Aside0.mk (hi); clear HO_5; clear HO266; clear HK; clear HB; clear HI0; have HO_5 := n0_; have HO266 := n1_; have HK := n2_; have HB := n3_; have HI0 := n4_; clear n0_ n1_ n2_ n3_ n4_; (try clear hb); (try clear hb2); (try clear hk); (try clear hi)))
      first | go_roundg k2 | ((try simp only [← hji72] at H' ⊢); (try simp only [← hji51] at H' ⊢); go_roundg k2)
      case measure => have := HK1.out; have := HK2.out; omega
      case rel => exact ⟨(x9_2 ++ t267), (wrap64 (x10_2 + 1)), (t268), (by first | rfl | (simp; done) | (simp [*]; done)), (by first | rfl | (simp; done) | (simp [*]; done)), H', ⟨by have := HK1.out; have := HK2.out; omega⟩, ⟨by (with_reducible repeat (first | apply Kd.R_alloc | apply Kd.R_drewN | apply Kd.R_drew)); exact Kd.R_mono HO_5.out (fun _ hk => trivial)⟩, ⟨by repeat (first | (with_reducible first | exact HI0.out | apply IsS79.alloc | apply IsS79.drewN | apply IsS79.drew | apply IsS79.set_1) | exact HI0.out)⟩, ⟨by repeat (first | (with_reducible first | exact HK.out | apply KeepBut.set_ | apply keep_drewN | apply keep_drew | apply keep_alloc) | exact HK.out)⟩, ⟨by repeat (first | (with_reducible first | exact HB.out | apply below_alloc | apply pw_below_drewN | apply below_drew1 | refine below_set ?_ (IsS79.ge HI0.out)) | exact HB.out)⟩⟩
     rw [if_pos c11] at H
     have c11b0 : decide (0 < x8_1) = true := decide_eq_true c11
     clear c11
     replace H := Option.bind_eq_some_iff.mp H
     obtain ⟨⟨t250, t251⟩, A120, H⟩ := H
     replace H : (if t250 > 0 then (if 0 ≤ (wrap64 (x8_1 - 1)) then (if (wrap64 (x8_1 - 1)) < (x5_1.length : Int) then (if 0 ≤ x10_2 then (if x10_2 < ((rdOf ByteArray.empty x5_1 (wrap64 (x8_1 - 1))).size : Int) then (if (bt (rdOf ByteArray.empty x5_1 (wrap64 (x8_1 - 1))) x10_2) = 63 then ((spec_l6Rd_of.f k2 s0_0 t251 (([(⟨#[97]⟩ : ByteArray), (⟨#[98]⟩ : ByteArray), (⟨#[99]⟩ : ByteArray), (⟨#[97]⟩ : ByteArray), (⟨#[100]⟩ : ByteArray)] : List ByteArray))).bind fun bt256 => (if x9_2.size + bt256.1.size ≤ 9223372036854775807 then (spec_l92Books.l1 k2 a1 x5_1 (wrap64 (1 + t235)) (wrap64 (1 + t237)) x8_1 (x9_2 ++ bt256.1) (wrap64 (x10_2 + 1)) s0_0 bt256.2) else (none))) else (if x10_2 ≤ (wrap64 (x10_2 + 1)) then (if (wrap64 (x10_2 + 1)) ≤ ((rdOf ByteArray.empty x5_1 (wrap64 (x8_1 - 1))).size : Int) then (if x9_2.size + ((rdOf ByteArray.empty x5_1 (wrap64 (x8_1 - 1))).extract (x10_2 : Int).toNat ((wrap64 (x10_2 + 1)) : Int).toNat).size ≤ 9223372036854775807 then (spec_l92Books.l1 k2 a1 x5_1 (wrap64 (1 + t235)) (wrap64 (1 + t237)) x8_1 (x9_2 ++ ((rdOf ByteArray.empty x5_1 (wrap64 (x8_1 - 1))).extract (x10_2 : Int).toNat ((wrap64 (x10_2 + 1)) : Int).toNat)) (wrap64 (x10_2 + 1)) s0_0 t251) else (none)) else (none)) else (none))) else (none)) else (none)) else (none)) else (none)) else ((spec_l6Rd_of.f k2 s0_0 t251 (([(⟨#[97]⟩ : ByteArray), (⟨#[98]⟩ : ByteArray), (⟨#[99]⟩ : ByteArray), (⟨#[97]⟩ : ByteArray), (⟨#[100]⟩ : ByteArray)] : List ByteArray))).bind fun bt262 => (if x9_2.size + bt262.1.size ≤ 9223372036854775807 then (spec_l92Books.l1 k2 a1 x5_1 (wrap64 (1 + t235)) (wrap64 (1 + t237)) x8_1 (x9_2 ++ bt262.1) (wrap64 (x10_2 + 1)) s0_0 bt262.2) else (none)))) = some (r1, r2) := H
     have A12 := Aside0.mk A120
     clear A120
     by_cases c13 : t250 > 0
     rotate_left
     ·rw [if_neg c13] at H
      have c13b0 : decide (0 < t250) = false := decide_eq_false c13
      clear c13
      obtain ⟨y259, hy259⟩ : ∃ y_ : List ByteArray, y_ = (([(⟨#[97]⟩ : ByteArray), (⟨#[98]⟩ : ByteArray), (⟨#[99]⟩ : ByteArray), (⟨#[97]⟩ : ByteArray), (⟨#[100]⟩ : ByteArray)] : List ByteArray)) := ⟨_, rfl⟩
      replace H : ((spec_l6Rd_of.f k2 s0_0 t251 y259).bind fun bt262 => (if x9_2.size + bt262.1.size ≤ 9223372036854775807 then (spec_l92Books.l1 k2 a1 x5_1 (wrap64 (1 + t235)) (wrap64 (1 + t237)) x8_1 (x9_2 ++ bt262.1) (wrap64 (x10_2 + 1)) s0_0 bt262.2) else (none))) = some (r1, r2) := by first | (rw [hy259]; with_reducible exact H) | (have H2_ := (Option.bind_some _ _).symm.trans H; rw [hy259]; with_reducible exact H2_) | (have H2_ := (Option.bind_some _ _).symm.trans H; with_reducible exact H2_) | with_reducible exact H | (rw [hy259]; exact H) | exact H
      have Ny259 := Aside0.mk hy259
      clear hy259
      replace H := Option.bind_eq_some_iff.mp H
      obtain ⟨⟨t262, t263⟩, A350, H⟩ := H
      replace H : (if x9_2.size + t262.size ≤ 9223372036854775807 then (spec_l92Books.l1 k2 a1 x5_1 (wrap64 (1 + t235)) (wrap64 (1 + t237)) x8_1 (x9_2 ++ t262) (wrap64 (x10_2 + 1)) s0_0 t263) else (none)) = some (r1, r2) := H
      have A35 := Aside0.mk A350
      clear A350
      by_cases c36 : x9_2.size + t262.size ≤ 9223372036854775807
      rotate_left
      ·rw [if_neg c36] at H
       exact absurd H (by simp)
      rw [if_pos c36] at H
      have c36b0 := eq_true c36
      have c36b1 : decide (x9_2.size + t262.size ≤ 9223372036854775807) = true := decide_eq_true c36
      try have c36b2 : (9223372036854775807 < x9_2.size + t262.size) = False := eq_false (Nat.not_lt.2 c36)
      have H' := Aside0.mk H
      clear H
      go_wp2_with (first | (go_at_call 81; (with_reducible refine (spec_l6Rd_pick.calls k2 g s0_0 x1001_2 3 t250 t251 w0 _ ?side1 ?side2 A12.out).mono ?_); (case side1 => repeat (first | (with_reducible first | exact HI0.out | apply IsS79.alloc | apply IsS79.drewN | apply IsS79.drew | apply IsS79.set_1) | exact HI0.out)); (case side2 => repeat (first | (with_reducible first | exact HB.out | apply below_alloc | apply pw_below_drewN | apply below_drew1 | refine below_set ?_ (IsS79.ge HI0.out)) | exact HB.out)); rintro e w37 ⟨rfl, hi, hb, hk⟩; have n0_ := Aside0.mk (Kd.R_mono (Kd.R_keep (IsS79.apart (show IsS79 w0 _ g s0_0 x1001_2 from by repeat (first | (with_reducible first | exact HI0.out | apply IsS79.alloc | apply IsS79.drewN | apply IsS79.drew | apply IsS79.set_1) | exact HI0.out)) (by (with_reducible repeat (first | apply Kd.R_alloc | apply Kd.R_drewN | apply Kd.R_drew)); exact HO_5.out) (by decide)) hk (fun _ h => h.2)) (fun _ h => h.1)); have n1_ := Aside0.mk (KeepBut.trans (by repeat (first | (with_reducible first | exact HK.out | apply KeepBut.set_ | apply keep_drewN | apply keep_drew | apply keep_alloc) | exact HK.out)) hk (.inl rfl)); have n2_ := Aside0.mk (hb); have n3_ := Aside0.mk (hi); clear HO_5; clear HK; clear HB; clear HI0; have HO_5 := n0_; have HK := n1_; have HB := n2_; have HI0 := n3_; clear n0_ n1_ n2_ n3_; (try clear hb); (try clear hb2); (try clear hk); (try clear hi)) | ((with_reducible refine gate_dst (N := 58) rfl ?_); refine Kd.R_lit Kd.string _ 9 ?hg (N := 58) ?hd (xs := ([(⟨#[97]⟩ : ByteArray), (⟨#[98]⟩ : ByteArray), (⟨#[99]⟩ : ByteArray), (⟨#[97]⟩ : ByteArray), (⟨#[100]⟩ : ByteArray)] : List ByteArray)) (inner := [.string (⟨#[97]⟩ : ByteArray), .string (⟨#[98]⟩ : ByteArray), .string (⟨#[99]⟩ : ByteArray), .string (⟨#[97]⟩ : ByteArray), .string (⟨#[100]⟩ : ByteArray)]) (ok := fun _ => True) (okp := fun _ => True) ?hr ?hp (fun _ hk => hk) trivial (Below.refl _ _) (Nat.le_refl _) (by simp) ?_; (case hd => rfl); (case hg => rfl); (case hr => first | (go_simp; done) | (go_simp; rfl)); (case hp => exact (Reps.one (show Kd.M Kd.string _ _ _ (⟨#[97]⟩ : ByteArray) [.string (⟨#[97]⟩ : ByteArray)] from rfl) (Reps.one (show Kd.M Kd.string _ _ _ (⟨#[98]⟩ : ByteArray) [.string (⟨#[98]⟩ : ByteArray)] from rfl) (Reps.one (show Kd.M Kd.string _ _ _ (⟨#[99]⟩ : ByteArray) [.string (⟨#[99]⟩ : ByteArray)] from rfl) (Reps.one (show Kd.M Kd.string _ _ _ (⟨#[97]⟩ : ByteArray) [.string (⟨#[97]⟩ : ByteArray)] from rfl) (Reps.one (show Kd.M Kd.string _ _ _ (⟨#[100]⟩ : ByteArray) [.string (⟨#[100]⟩ : ByteArray)] from rfl) (Reps.none _ _))))))); intro v260 w38 ho39 hb hg_ hnew_; clear hg_ hnew_; (first | rw [← Ny259.out] at ho39 | (simp only [Int.reduceToNat] at ho39; rw [← Ny259.out] at ho39)); have n0_ := Aside0.mk (Kd.R_elder' (by (with_reducible repeat (first | apply Kd.R_alloc | apply Kd.R_drewN | apply Kd.R_drew)); exact HO_5.out) (Kd.R_base ho39) hb); have n1_ := Aside0.mk (Kd.R_lower (Kd.R_new' ho39 (Kd.R_lt (by (with_reducible repeat (first | apply Kd.R_alloc | apply Kd.R_drewN | apply Kd.R_drew)); exact HO_5.out))) (keep_size (w := w) (g := g) (row := none) (by repeat (first | (with_reducible first | exact HK.out | apply KeepBut.set_ | apply keep_drewN | apply keep_drew | apply keep_alloc) | exact HK.out)))); have n2_ := Aside0.mk (IsS79.below (by repeat (first | (with_reducible first | exact HI0.out | apply IsS79.alloc | apply IsS79.drewN | apply IsS79.drew | apply IsS79.set_1) | exact HI0.out)) hb); have n3_ := Aside0.mk (KeepBut.trans (by repeat (first | (with_reducible first | exact HK.out | apply KeepBut.set_ | apply keep_drewN | apply keep_drew | apply keep_alloc) | exact HK.out)) (KeepBut.of_below hb g none) (.inl rfl)); have n4_ := Aside0.mk (below_step (by repeat (first | (with_reducible first | exact HB.out | apply below_alloc | apply pw_below_drewN | apply below_drew1 | refine below_set ?_ (IsS79.ge HI0.out)) | exact HB.out)) hb); clear HO_5; clear HI0; clear HK; clear HB; have HO_5 := n0_; have HO261 := n1_; have HI0 := n2_; have HK := n3_; have HB := n4_; clear n0_ n1_ n2_ n3_ n4_; clear hb ho39; obtain ⟨Ao40, co40, eo40⟩ := Kd.R_slice HO261.out; subst eo40) | ((with_reducible refine gate_callee (f := 82) rfl ?_); refine goesL_ (some 59) rfl rfl Tryd.func82 (by kernel_rfl) rfl #[.pointer (some ⟨g, 0, none⟩), .slice Ao40 y259.length co40] rfl (by (try simp only [List.map_toArray, List.map_cons, List.map_nil]); first | done | rfl | (simp only [List.length_drop, List.length_take]; rfl)) ?_; (with_reducible refine (spec_l6Rd_of.calls k2 g s0_0 t251 _ _ y259 t262 t263 w0 _ ?side1 ?side2 ?side3 ?side4 ?side5 A35.out).mono ?_); (case side1 => repeat (first | (with_reducible first | exact HI0.out | apply IsS79.alloc | apply IsS79.drewN | apply IsS79.drew | apply IsS79.set_1) | exact HI0.out)); (case side2 => repeat (first | (with_reducible first | exact HB.out | apply below_alloc | apply pw_below_drewN | apply below_drew1 | refine below_set ?_ (IsS79.ge HI0.out)) | exact HB.out)); (case side3 => repeat (first | exact (Kd.R_reads' HO261.out).2.2 | (with_reducible refine Kd.C_alloc ?_ _) | (with_reducible refine Kd.C_drewN ?_ _) | (with_reducible refine Kd.C_drew ?_))); (case side4 => exact (Kd.R_reads' HO261.out).2.1); (case side5 => exact far_slice (IsS79.own_ne HI0.out HO261.out (by decide))); rintro e w41 ⟨rfl, hi, hb, hk⟩; refine ⟨_, rfl, ?_⟩; have n0_ := Aside0.mk (Kd.R_mono (Kd.R_keep (IsS79.apart (show IsS79 w0 _ g s0_0 t251 from by repeat (first | (with_reducible first | exact HI0.out | apply IsS79.alloc | apply IsS79.drewN | apply IsS79.drew | apply IsS79.set_1) | exact HI0.out)) (by (with_reducible repeat (first | apply Kd.R_alloc | apply Kd.R_drewN | apply Kd.R_drew)); exact HO_5.out) (by decide)) hk (fun _ h => h.2)) (fun _ h => h.1)); have n1_ := Aside0.mk (Kd.R_mono (Kd.R_keep (IsS79.apart (show IsS79 w0 _ g s0_0 t251 from by repeat (first | (with_reducible first | exact HI0.out | apply IsS79.alloc | apply IsS79.drewN | apply IsS79.drew | apply IsS79.set_1) | exact HI0.out)) (by (with_reducible repeat (first | apply Kd.R_alloc | apply Kd.R_drewN | apply Kd.R_drew)); exact HO261.out) (by decide)) hk (fun _ h => h.2)) (fun _ h => h.1)); have n2_ := Aside0.mk (KeepBut.trans (by repeat (first | (with_reducible first | exact HK.out | apply KeepBut.set_ | apply keep_drewN | apply keep_drew | apply keep_alloc) | exact HK.out)) hk (.inl rfl)); have n3_ := Aside0.mk (hb); have n4_ := Aside0.mk (hi); clear HO_5; clear HO261; clear HK; clear HB; clear HI0; have HO_5 := n0_; have HO261 := n1_; have HK := n2_; have HB := n3_; have HI0 := n4_; clear n0_ n1_ n2_ n3_ n4_; (try clear hb); (try clear hb2); (try clear hk); (try clear hi)))
      first | go_roundg k2 | ((try simp only [← hji72] at H' ⊢); (try simp only [← hji51] at H' ⊢); go_roundg k2)
      case measure => have := HK1.out; have := HK2.out; omega
      case rel => exact ⟨(x9_2 ++ t262), (wrap64 (x10_2 + 1)), (t263), (by first | rfl | (simp; done) | (simp [*]; done)), (by first | rfl | (simp; done) | (simp [*]; done)), H', ⟨by have := HK1.out; have := HK2.out; omega⟩, ⟨by (with_reducible repeat (first | apply Kd.R_alloc | apply Kd.R_drewN | apply Kd.R_drew)); exact Kd.R_mono HO_5.out (fun _ hk => trivial)⟩, ⟨by repeat (first | (with_reducible first | exact HI0.out | apply IsS79.alloc | apply IsS79.drewN | apply IsS79.drew | apply IsS79.set_1) | exact HI0.out)⟩, ⟨by repeat (first | (with_reducible first | exact HK.out | apply KeepBut.set_ | apply keep_drewN | apply keep_drew | apply keep_alloc) | exact HK.out)⟩, ⟨by repeat (first | (with_reducible first | exact HB.out | apply below_alloc | apply pw_below_drewN | apply below_drew1 | refine below_set ?_ (IsS79.ge HI0.out)) | exact HB.out)⟩⟩
     rw [if_pos c13] at H
     have c13b0 : decide (0 < t250) = true := decide_eq_true c13
     clear c13
     obtain ⟨ji14, hji14⟩ : ∃ j_ : Int, (wrap64 (x8_1 - 1)) = j_ := ⟨_, rfl⟩
     replace H : (if 0 ≤ (ji14) then (if (ji14) < (x5_1.length : Int) then (if 0 ≤ x10_2 then (if x10_2 < ((rdOf ByteArray.empty x5_1 (ji14)).size : Int) then (if (bt (rdOf ByteArray.empty x5_1 (ji14)) x10_2) = 63 then ((spec_l6Rd_of.f k2 s0_0 t251 (([(⟨#[97]⟩ : ByteArray), (⟨#[98]⟩ : ByteArray), (⟨#[99]⟩ : ByteArray), (⟨#[97]⟩ : ByteArray), (⟨#[100]⟩ : ByteArray)] : List ByteArray))).bind fun bt256 => (if x9_2.size + bt256.1.size ≤ 9223372036854775807 then (spec_l92Books.l1 k2 a1 x5_1 (wrap64 (1 + t235)) (wrap64 (1 + t237)) x8_1 (x9_2 ++ bt256.1) (wrap64 (x10_2 + 1)) s0_0 bt256.2) else (none))) else (if x10_2 ≤ (wrap64 (x10_2 + 1)) then (if (wrap64 (x10_2 + 1)) ≤ ((rdOf ByteArray.empty x5_1 (ji14)).size : Int) then (if x9_2.size + ((rdOf ByteArray.empty x5_1 (ji14)).extract (x10_2 : Int).toNat ((wrap64 (x10_2 + 1)) : Int).toNat).size ≤ 9223372036854775807 then (spec_l92Books.l1 k2 a1 x5_1 (wrap64 (1 + t235)) (wrap64 (1 + t237)) x8_1 (x9_2 ++ ((rdOf ByteArray.empty x5_1 (ji14)).extract (x10_2 : Int).toNat ((wrap64 (x10_2 + 1)) : Int).toNat)) (wrap64 (x10_2 + 1)) s0_0 t251) else (none)) else (none)) else (none))) else (none)) else (none)) else (none)) else (none)) = some (r1, r2) := by first | (rw [hji14] at H; exact H) | (simp only [hji14] at H ⊢; exact H)
     (try rw [hji14] at A12)
     have hji14w : (IntKind.i64.wrap (x8_1 - 1)) = ji14 := (i64_w _).trans hji14
     by_cases c15 : 0 ≤ (ji14)
     rotate_left
     ·rw [if_neg c15] at H
      exact absurd H (by simp)
     rw [if_pos c15] at H
     have c15b0 : decide (0 ≤ (ji14)) = true := decide_eq_true c15
     clear c15
     by_cases c16 : (ji14) < (x5_1.length : Int)
     rotate_left
     ·rw [if_neg c16] at H
      exact absurd H (by simp)
     rw [if_pos c16] at H
     have c16b0 : decide ((ji14) < (x5_1.length : Int)) = true := decide_eq_true c16
     clear c16
     by_cases c17 : 0 ≤ x10_2
     rotate_left
     ·rw [if_neg c17] at H
      exact absurd H (by simp)
     rw [if_pos c17] at H
     have c17b0 : decide (0 ≤ x10_2) = true := decide_eq_true c17
     clear c17
     by_cases c18 : x10_2 < ((rdOf ByteArray.empty x5_1 (ji14)).size : Int)
     rotate_left
     ·rw [if_neg c18] at H
      exact absurd H (by simp)
     rw [if_pos c18] at H
     have c18b0 : decide (x10_2 < ((rdOf ByteArray.empty x5_1 (ji14)).size : Int)) = true := decide_eq_true c18
     clear c18
     by_cases c20 : (bt (rdOf ByteArray.empty x5_1 (ji14)) x10_2) = 63
     ·rw [if_pos c20] at H
      have c20b0 : ((bt (rdOf ByteArray.empty x5_1 (ji14)) x10_2) == 63) = true := beq_iff_eq.mpr c20
      have c20b1 : ((bt (rdOf ByteArray.empty x5_1 (ji14)) x10_2) != 63) = false := bne_eq_false_iff_eq.mpr c20
      clear c20
      obtain ⟨y253, hy253⟩ : ∃ y_ : List ByteArray, y_ = (([(⟨#[97]⟩ : ByteArray), (⟨#[98]⟩ : ByteArray), (⟨#[99]⟩ : ByteArray), (⟨#[97]⟩ : ByteArray), (⟨#[100]⟩ : ByteArray)] : List ByteArray)) := ⟨_, rfl⟩
      replace H : ((spec_l6Rd_of.f k2 s0_0 t251 y253).bind fun bt256 => (if x9_2.size + bt256.1.size ≤ 9223372036854775807 then (spec_l92Books.l1 k2 a1 x5_1 (wrap64 (1 + t235)) (wrap64 (1 + t237)) x8_1 (x9_2 ++ bt256.1) (wrap64 (x10_2 + 1)) s0_0 bt256.2) else (none))) = some (r1, r2) := by first | (rw [hy253]; with_reducible exact H) | (have H2_ := (Option.bind_some _ _).symm.trans H; rw [hy253]; with_reducible exact H2_) | (have H2_ := (Option.bind_some _ _).symm.trans H; with_reducible exact H2_) | with_reducible exact H | (rw [hy253]; exact H) | exact H
      have Ny253 := Aside0.mk hy253
      clear hy253
      replace H := Option.bind_eq_some_iff.mp H
      obtain ⟨⟨t256, t257⟩, A210, H⟩ := H
      replace H : (if x9_2.size + t256.size ≤ 9223372036854775807 then (spec_l92Books.l1 k2 a1 x5_1 (wrap64 (1 + t235)) (wrap64 (1 + t237)) x8_1 (x9_2 ++ t256) (wrap64 (x10_2 + 1)) s0_0 t257) else (none)) = some (r1, r2) := H
      have A21 := Aside0.mk A210
      clear A210
      by_cases c22 : x9_2.size + t256.size ≤ 9223372036854775807
      rotate_left
      ·rw [if_neg c22] at H
       exact absurd H (by simp)
      rw [if_pos c22] at H
      have c22b0 := eq_true c22
      have c22b1 : decide (x9_2.size + t256.size ≤ 9223372036854775807) = true := decide_eq_true c22
      try have c22b2 : (9223372036854775807 < x9_2.size + t256.size) = False := eq_false (Nat.not_lt.2 c22)
      have H' := Aside0.mk H
      clear H
      go_wp2_with (first | (go_at_call 81; (with_reducible refine (spec_l6Rd_pick.calls k2 g s0_0 x1001_2 3 t250 t251 w0 _ ?side1 ?side2 A12.out).mono ?_); (case side1 => repeat (first | (with_reducible first | exact HI0.out | apply IsS79.alloc | apply IsS79.drewN | apply IsS79.drew | apply IsS79.set_1) | exact HI0.out)); (case side2 => repeat (first | (with_reducible first | exact HB.out | apply below_alloc | apply pw_below_drewN | apply below_drew1 | refine below_set ?_ (IsS79.ge HI0.out)) | exact HB.out)); rintro e w23 ⟨rfl, hi, hb, hk⟩; have n0_ := Aside0.mk (Kd.R_mono (Kd.R_keep (IsS79.apart (show IsS79 w0 _ g s0_0 x1001_2 from by repeat (first | (with_reducible first | exact HI0.out | apply IsS79.alloc | apply IsS79.drewN | apply IsS79.drew | apply IsS79.set_1) | exact HI0.out)) (by (with_reducible repeat (first | apply Kd.R_alloc | apply Kd.R_drewN | apply Kd.R_drew)); exact HO_5.out) (by decide)) hk (fun _ h => h.2)) (fun _ h => h.1)); have n1_ := Aside0.mk (KeepBut.trans (by repeat (first | (with_reducible first | exact HK.out | apply KeepBut.set_ | apply keep_drewN | apply keep_drew | apply keep_alloc) | exact HK.out)) hk (.inl rfl)); have n2_ := Aside0.mk (hb); have n3_ := Aside0.mk (hi); clear HO_5; clear HK; clear HB; clear HI0; have HO_5 := n0_; have HK := n1_; have HB := n2_; have HI0 := n3_; clear n0_ n1_ n2_ n3_; (try clear hb); (try clear hb2); (try clear hk); (try clear hi); obtain ⟨Ao24, co24, eo24⟩ := Kd.R_slice HO_5.out; subst eo24; have p252 : 0 ≤ ((ji14) : Int) := of_decide_eq_true (by first | (with_reducible assumption) | assumption); have q252 : (ji14) < (x5_1.length : Int) := of_decide_eq_true (by first | (with_reducible assumption) | assumption); obtain ⟨ad252, e252, hx252_0⟩ := Kd.at_string (Kd.R_reads' HO_5.out).2.2 (ji14) p252 q252; cases e252; replace p252 := eq_true p252; replace q252 := eq_true q252; have p19 : 0 ≤ (x10_2 : Int) := of_decide_eq_true (by first | (with_reducible assumption) | assumption); have q19 : x10_2 < ((rdOf ByteArray.empty x5_1 (ji14)).size : Int) := of_decide_eq_true (by first | (with_reducible assumption) | assumption); have hx19 := bt_at (rdOf ByteArray.empty x5_1 (ji14)) x10_2; replace p19 := eq_true p19; replace q19 := eq_true q19) | ((with_reducible refine gate_dst (N := 58) rfl ?_); refine Kd.R_lit Kd.string _ 9 ?hg (N := 58) ?hd (xs := ([(⟨#[97]⟩ : ByteArray), (⟨#[98]⟩ : ByteArray), (⟨#[99]⟩ : ByteArray), (⟨#[97]⟩ : ByteArray), (⟨#[100]⟩ : ByteArray)] : List ByteArray)) (inner := [.string (⟨#[97]⟩ : ByteArray), .string (⟨#[98]⟩ : ByteArray), .string (⟨#[99]⟩ : ByteArray), .string (⟨#[97]⟩ : ByteArray), .string (⟨#[100]⟩ : ByteArray)]) (ok := fun _ => True) (okp := fun _ => True) ?hr ?hp (fun _ hk => hk) trivial (Below.refl _ _) (Nat.le_refl _) (by simp) ?_; (case hd => rfl); (case hg => rfl); (case hr => first | (go_simp; done) | (go_simp; rfl)); (case hp => exact (Reps.one (show Kd.M Kd.string _ _ _ (⟨#[97]⟩ : ByteArray) [.string (⟨#[97]⟩ : ByteArray)] from rfl) (Reps.one (show Kd.M Kd.string _ _ _ (⟨#[98]⟩ : ByteArray) [.string (⟨#[98]⟩ : ByteArray)] from rfl) (Reps.one (show Kd.M Kd.string _ _ _ (⟨#[99]⟩ : ByteArray) [.string (⟨#[99]⟩ : ByteArray)] from rfl) (Reps.one (show Kd.M Kd.string _ _ _ (⟨#[97]⟩ : ByteArray) [.string (⟨#[97]⟩ : ByteArray)] from rfl) (Reps.one (show Kd.M Kd.string _ _ _ (⟨#[100]⟩ : ByteArray) [.string (⟨#[100]⟩ : ByteArray)] from rfl) (Reps.none _ _))))))); intro v254 w25 ho26 hb hg_ hnew_; clear hg_ hnew_; (first | rw [← Ny253.out] at ho26 | (simp only [Int.reduceToNat] at ho26; rw [← Ny253.out] at ho26)); have n0_ := Aside0.mk (Kd.R_elder' (by (with_reducible repeat (first | apply Kd.R_alloc | apply Kd.R_drewN | apply Kd.R_drew)); exact HO_5.out) (Kd.R_base ho26) hb); have n1_ := Aside0.mk (Kd.R_lower (Kd.R_new' ho26 (Kd.R_lt (by (with_reducible repeat (first | apply Kd.R_alloc | apply Kd.R_drewN | apply Kd.R_drew)); exact HO_5.out))) (keep_size (w := w) (g := g) (row := none) (by repeat (first | (with_reducible first | exact HK.out | apply KeepBut.set_ | apply keep_drewN | apply keep_drew | apply keep_alloc) | exact HK.out)))); have n2_ := Aside0.mk (IsS79.below (by repeat (first | (with_reducible first | exact HI0.out | apply IsS79.alloc | apply IsS79.drewN | apply IsS79.drew | apply IsS79.set_1) | exact HI0.out)) hb); have n3_ := Aside0.mk (KeepBut.trans (by repeat (first | (with_reducible first | exact HK.out | apply KeepBut.set_ | apply keep_drewN | apply keep_drew | apply keep_alloc) | exact HK.out)) (KeepBut.of_below hb g none) (.inl rfl)); have n4_ := Aside0.mk (below_step (by repeat (first | (with_reducible first | exact HB.out | apply below_alloc | apply pw_below_drewN | apply below_drew1 | refine below_set ?_ (IsS79.ge HI0.out)) | exact HB.out)) hb); clear HO_5; clear HI0; clear HK; clear HB; have HO_5 := n0_; have HO255 := n1_; have HI0 := n2_; have HK := n3_; have HB := n4_; clear n0_ n1_ n2_ n3_ n4_; clear hb ho26; obtain ⟨Ao27, co27, eo27⟩ := Kd.R_slice HO255.out; subst eo27) | ((with_reducible refine gate_callee (f := 82) rfl ?_); refine goesL_ (some 59) rfl rfl Tryd.func82 (by kernel_rfl) rfl #[.pointer (some ⟨g, 0, none⟩), .slice Ao27 y253.length co27] rfl (by (try simp only [List.map_toArray, List.map_cons, List.map_nil]); first | done | rfl | (simp only [List.length_drop, List.length_take]; rfl)) ?_; (with_reducible refine (spec_l6Rd_of.calls k2 g s0_0 t251 _ _ y253 t256 t257 w0 _ ?side1 ?side2 ?side3 ?side4 ?side5 A21.out).mono ?_); (case side1 => repeat (first | (with_reducible first | exact HI0.out | apply IsS79.alloc | apply IsS79.drewN | apply IsS79.drew | apply IsS79.set_1) | exact HI0.out)); (case side2 => repeat (first | (with_reducible first | exact HB.out | apply below_alloc | apply pw_below_drewN | apply below_drew1 | refine below_set ?_ (IsS79.ge HI0.out)) | exact HB.out)); (case side3 => repeat (first | exact (Kd.R_reads' HO255.out).2.2 | (with_reducible refine Kd.C_alloc ?_ _) | (with_reducible refine Kd.C_drewN ?_ _) | (with_reducible refine Kd.C_drew ?_))); (case side4 => exact (Kd.R_reads' HO255.out).2.1); (case side5 => exact far_slice (IsS79.own_ne HI0.out HO255.out (by decide))); rintro e w28 ⟨rfl, hi, hb, hk⟩; refine ⟨_, rfl, ?_⟩; have n0_ := Aside0.mk (Kd.R_mono (Kd.R_keep (IsS79.apart (show IsS79 w0 _ g s0_0 t251 from by repeat (first | (with_reducible first | exact HI0.out | apply IsS79.alloc | apply IsS79.drewN | apply IsS79.drew | apply IsS79.set_1) | exact HI0.out)) (by (with_reducible repeat (first | apply Kd.R_alloc | apply Kd.R_drewN | apply Kd.R_drew)); exact HO_5.out) (by decide)) hk (fun _ h => h.2)) (fun _ h => h.1)); have n1_ := Aside0.mk (Kd.R_mono (Kd.R_keep (IsS79.apart (show IsS79 w0 _ g s0_0 t251 from by repeat (first | (with_reducible first | exact HI0.out | apply IsS79.alloc | apply IsS79.drewN | apply IsS79.drew | apply IsS79.set_1) | exact HI0.out)) (by (with_reducible repeat (first | apply Kd.R_alloc | apply Kd.R_drewN | apply Kd.R_drew)); exact HO255.out) (by decide)) hk (fun _ h => h.2)) (fun _ h => h.1)); have n2_ := Aside0.mk (KeepBut.trans (by repeat (first | (with_reducible first | exact HK.out | apply KeepBut.set_ | apply keep_drewN | apply keep_drew | apply keep_alloc) | exact HK.out)) hk (.inl rfl)); have n3_ := Aside0.mk (hb); have n4_ := Aside0.mk (hi); clear HO_5; clear HO255; clear HK; clear HB; clear HI0; have HO_5 := n0_; have HO255 := n1_; have HK := n2_; have HB := n3_; have HI0 := n4_; clear n0_ n1_ n2_ n3_ n4_; (try clear hb); (try clear hb2); (try clear hk); (try clear hi)))
      first | go_roundg k2 | ((try simp only [← hji72] at H' ⊢); (try simp only [← hji51] at H' ⊢); (try simp only [← hji14] at H' ⊢); go_roundg k2)
      case measure => have := HK1.out; have := HK2.out; omega
      case rel => exact ⟨(x9_2 ++ t256), (wrap64 (x10_2 + 1)), (t257), (by first | rfl | (simp; done) | (simp [*]; done)), (by first | rfl | (simp; done) | (simp [*]; done)), H', ⟨by have := HK1.out; have := HK2.out; omega⟩, ⟨by (with_reducible repeat (first | apply Kd.R_alloc | apply Kd.R_drewN | apply Kd.R_drew)); exact Kd.R_mono HO_5.out (fun _ hk => trivial)⟩, ⟨by repeat (first | (with_reducible first | exact HI0.out | apply IsS79.alloc | apply IsS79.drewN | apply IsS79.drew | apply IsS79.set_1) | exact HI0.out)⟩, ⟨by repeat (first | (with_reducible first | exact HK.out | apply KeepBut.set_ | apply keep_drewN | apply keep_drew | apply keep_alloc) | exact HK.out)⟩, ⟨by repeat (first | (with_reducible first | exact HB.out | apply below_alloc | apply pw_below_drewN | apply below_drew1 | refine below_set ?_ (IsS79.ge HI0.out)) | exact HB.out)⟩⟩
     rw [if_neg c20] at H
     have c20b0 : ((bt (rdOf ByteArray.empty x5_1 (ji14)) x10_2) == 63) = false := beq_eq_false_iff_ne.mpr c20
     have c20b1 : ((bt (rdOf ByteArray.empty x5_1 (ji14)) x10_2) != 63) = true := bne_iff_ne.mpr c20
     have c29b0 := eq_true (of_decide_eq_true (by first | (with_reducible assumption) | assumption) : 0 ≤ x10_2)
     by_cases c30 : x10_2 ≤ (wrap64 (x10_2 + 1))
     rotate_left
     ·rw [if_neg c30] at H
      exact absurd H (by simp)
     rw [if_pos c30] at H
     have c30b0 := eq_true c30
     have c30b1 : decide (x10_2 ≤ (wrap64 (x10_2 + 1))) = true := decide_eq_true c30
     by_cases c31 : (wrap64 (x10_2 + 1)) ≤ ((rdOf ByteArray.empty x5_1 (ji14)).size : Int)
     rotate_left
     ·rw [if_neg c31] at H
      exact absurd H (by simp)
     rw [if_pos c31] at H
     have c31b0 := eq_true c31
     have c31b1 : decide ((wrap64 (x10_2 + 1)) ≤ ((rdOf ByteArray.empty x5_1 (ji14)).size : Int)) = true := decide_eq_true c31
     by_cases c32 : x9_2.size + ((rdOf ByteArray.empty x5_1 (ji14)).extract (x10_2 : Int).toNat ((wrap64 (x10_2 + 1)) : Int).toNat).size ≤ 9223372036854775807
     rotate_left
     ·rw [if_neg c32] at H
      exact absurd H (by simp)
     rw [if_pos c32] at H
     have c32b0 := eq_true c32
     have c32b1 : decide (x9_2.size + ((rdOf ByteArray.empty x5_1 (ji14)).extract (x10_2 : Int).toNat ((wrap64 (x10_2 + 1)) : Int).toNat).size ≤ 9223372036854775807) = true := decide_eq_true c32
     try have c32b2 : (9223372036854775807 < x9_2.size + ((rdOf ByteArray.empty x5_1 (ji14)).extract (x10_2 : Int).toNat ((wrap64 (x10_2 + 1)) : Int).toNat).size) = False := eq_false (Nat.not_lt.2 c32)
     try have c32b2c := c32b2
     (try simp only [ByteArray.size_extract, Nat.min_self] at c32b2c)
     have H' := Aside0.mk H
     clear H
     go_wp2_with (first | (go_at_call 81; (with_reducible refine (spec_l6Rd_pick.calls k2 g s0_0 x1001_2 3 t250 t251 w0 _ ?side1 ?side2 A12.out).mono ?_); (case side1 => repeat (first | (with_reducible first | exact HI0.out | apply IsS79.alloc | apply IsS79.drewN | apply IsS79.drew | apply IsS79.set_1) | exact HI0.out)); (case side2 => repeat (first | (with_reducible first | exact HB.out | apply below_alloc | apply pw_below_drewN | apply below_drew1 | refine below_set ?_ (IsS79.ge HI0.out)) | exact HB.out)); rintro e w33 ⟨rfl, hi, hb, hk⟩; have n0_ := Aside0.mk (Kd.R_mono (Kd.R_keep (IsS79.apart (show IsS79 w0 _ g s0_0 x1001_2 from by repeat (first | (with_reducible first | exact HI0.out | apply IsS79.alloc | apply IsS79.drewN | apply IsS79.drew | apply IsS79.set_1) | exact HI0.out)) (by (with_reducible repeat (first | apply Kd.R_alloc | apply Kd.R_drewN | apply Kd.R_drew)); exact HO_5.out) (by decide)) hk (fun _ h => h.2)) (fun _ h => h.1)); have n1_ := Aside0.mk (KeepBut.trans (by repeat (first | (with_reducible first | exact HK.out | apply KeepBut.set_ | apply keep_drewN | apply keep_drew | apply keep_alloc) | exact HK.out)) hk (.inl rfl)); have n2_ := Aside0.mk (hb); have n3_ := Aside0.mk (hi); clear HO_5; clear HK; clear HB; clear HI0; have HO_5 := n0_; have HK := n1_; have HB := n2_; have HI0 := n3_; clear n0_ n1_ n2_ n3_; (try clear hb); (try clear hb2); (try clear hk); (try clear hi); obtain ⟨Ao34, co34, eo34⟩ := Kd.R_slice HO_5.out; subst eo34; have p252 : 0 ≤ ((ji14) : Int) := of_decide_eq_true (by first | (with_reducible assumption) | assumption); have q252 : (ji14) < (x5_1.length : Int) := of_decide_eq_true (by first | (with_reducible assumption) | assumption); obtain ⟨ad252, e252, hx252_0⟩ := Kd.at_string (Kd.R_reads' HO_5.out).2.2 (ji14) p252 q252; cases e252; replace p252 := eq_true p252; replace q252 := eq_true q252; have p19 : 0 ≤ (x10_2 : Int) := of_decide_eq_true (by first | (with_reducible assumption) | assumption); have q19 : x10_2 < ((rdOf ByteArray.empty x5_1 (ji14)).size : Int) := of_decide_eq_true (by first | (with_reducible assumption) | assumption); have hx19 := bt_at (rdOf ByteArray.empty x5_1 (ji14)) x10_2; replace p19 := eq_true p19; replace q19 := eq_true q19; have p258 : 0 ≤ ((ji14) : Int) := of_decide_eq_true (by first | (with_reducible assumption) | assumption); have q258 : (ji14) < (x5_1.length : Int) := of_decide_eq_true (by first | (with_reducible assumption) | assumption); obtain ⟨ad258, e258, hx258_0⟩ := Kd.at_string (Kd.R_reads' HO_5.out).2.2 (ji14) p258 q258; obtain rfl : ad252 = ad258 := (by injection e258); replace p258 := eq_true p258; replace q258 := eq_true q258))
     first | go_roundg k2 | ((try simp only [← hji72] at H' ⊢); (try simp only [← hji51] at H' ⊢); (try simp only [← hji14] at H' ⊢); go_roundg k2)
     case measure => have := HK1.out; have := HK2.out; omega
     case rel => exact ⟨(x9_2 ++ ((rdOf ByteArray.empty x5_1 (ji14)).extract (x10_2 : Int).toNat ((wrap64 (x10_2 + 1)) : Int).toNat)), (wrap64 (x10_2 + 1)), (t251), (by first | rfl | (simp; done) | (simp only [← hji14] <;> (first | rfl | simp)) | (simp [*]; done)), (by first | rfl | (simp; done) | (simp [*]; done)), H', ⟨by have := HK1.out; have := HK2.out; omega⟩, ⟨by (with_reducible repeat (first | apply Kd.R_alloc | apply Kd.R_drewN | apply Kd.R_drew)); exact HO_5.out⟩, ⟨by repeat (first | (with_reducible first | exact HI0.out | apply IsS79.alloc | apply IsS79.drewN | apply IsS79.drew | apply IsS79.set_1) | exact HI0.out)⟩, ⟨by repeat (first | (with_reducible first | exact HK.out | apply KeepBut.set_ | apply keep_drewN | apply keep_drew | apply keep_alloc) | exact HK.out)⟩, ⟨by repeat (first | (with_reducible first | exact HB.out | apply below_alloc | apply pw_below_drewN | apply below_drew1 | refine below_set ?_ (IsS79.ge HI0.out)) | exact HB.out)⟩⟩
end Go.Proofs.YtejoneninbdjbaaDoor.E
end
section
namespace Go.Proofs.YtejoneninbdjbaaDoor.E
open Go.RowKit Go.Proofs.YtejoneninbdjbaaDoorW.PrintWords Go.Proofs.YtejoneninbdjbaaDoorW.PrintLast Go.Proofs.YtejoneninbdjbaaDoorW.PrintMore
attribute [local go_sem] max2_int min2_int max_two min_two max_three min_three max_four min_four
set_option linter.unusedVariables false
set_option linter.unusedSimpArgs false
attribute [local go_sem] str_leq_ str_gtr_ str_geq_
def spec_DrawBooksCommon.f (k : Nat) (l0 : List Int) : Option (List ByteArray) := (spec_l6Open.f l0).bind fun bt329 => ((spec_l92Books.f k bt329.1 bt329.2 false).bind fun bt332 => (some bt332.1))
set_option maxHeartbeats 8000000 in
set_option maxRecDepth 100000 in
theorem spec_DrawBooksCommon.calls (k : Nat) (A0 : Option Addr) (c0 : Nat) (l0 : List Int) (r : List ByteArray) (w : World) (hr0 : Kd.C (Kd.int .u8) w A0 l0.length l0) (hc0 : l0.length ≤ c0) (h : spec_DrawBooksCommon.f k l0 = some r) :
  Calls Tryd.prog 37 #[.slice A0 l0.length c0] w fun e w' => ∃ v0_ : Value, e = .returned (v0_) ∧ Kd.R Kd.string 9 w' w.heap.size (fun _ => True) v0_ r ∧ Below w.heap.size w w' := by
 have HR0 := Aside0.mk hr0
 have HC0 := Aside0.mk hc0
 clear hr0 hc0
 have HB := Aside0.mk (Below.refl w.heap.size w)
 have H : ((spec_l6Open.f l0).bind fun bt329 => ((spec_l92Books.f k bt329.1 bt329.2 false).bind fun bt332 => (some bt332.1))) = some r := h
 clear h
 replace H := Option.bind_eq_some_iff.mp H
 obtain ⟨⟨t329, t330⟩, A20, H⟩ := H
 replace H : ((spec_l92Books.f k t329 t330 false).bind fun bt332 => (some bt332.1)) = some r := H
 have A2 := Aside0.mk A20
 clear A20
 replace H := Option.bind_eq_some_iff.mp H
 obtain ⟨⟨t332, t335⟩, A30, H⟩ := H
 replace H : (some t332) = some r := H
 have A3 := Aside0.mk A30
 clear A30
 obtain rfl := Option.some.inj H
 go_enter Tryd.func37, Tryd.ntmps37
 go_wp2_with (first | ((with_reducible refine gate_callee (f := 65) rfl ?_); refine goesL_ (some 4) rfl rfl Tryd.func65 (by kernel_rfl) rfl #[.slice A0 l0.length c0] rfl (by (try simp only [List.map_toArray, List.map_cons, List.map_nil]); first | done | rfl | (simp only [List.length_drop, List.length_take]; rfl)) ?_; (with_reducible refine (spec_l6Open.calls _ _ l0 t329 t330 w _ ?side1 ?side2 ?side3 A2.out).mono ?_); (case side1 => repeat (first | (with_reducible first | exact HB.out | apply below_alloc | apply pw_below_drewN | apply below_drew1) | exact HB.out)); (case side2 => exact HR0.out); (case side3 => exact HC0.out); rintro e w4 ⟨g331, rfl, hi, hb, hb2⟩; refine ⟨_, rfl, ?_⟩; have n0_ := Aside0.mk (hb); have n1_ := Aside0.mk (hi); clear HB; have HB := n0_; have HI331 := n1_; clear n0_ n1_; (try clear hb); (try clear hb2); (try clear hk); (try clear hi)) | ((with_reducible refine gate_callee (f := 66) rfl ?_); refine goesL_ (some 5) rfl rfl Tryd.func66 (by kernel_rfl) rfl #[.pointer (some ⟨g331, 0, none⟩), .bool false] rfl (by (try simp only [List.map_toArray, List.map_cons, List.map_nil]); first | done | rfl | (simp only [List.length_drop, List.length_take]; rfl)) ?_; (with_reducible refine (spec_l92Books.calls k g331 t329 t330 false t332 t335 w _ ?side1 ?side2 A3.out).mono ?_); (case side1 => repeat (first | (with_reducible first | exact HI331.out | apply IsS79.alloc | apply IsS79.drewN | apply IsS79.drew | apply IsS79.set_1) | exact HI331.out)); (case side2 => repeat (first | (with_reducible first | exact HB.out | apply below_alloc | apply pw_below_drewN | apply below_drew1 | refine below_set ?_ (IsS79.ge HI331.out)) | exact HB.out)); rintro e w5 ⟨v333, rfl, ho0, hi, hb, hk⟩; refine ⟨_, rfl, ?_⟩; have n0_ := Aside0.mk (Kd.R_lower ho0 (below_size (by repeat (first | (with_reducible first | exact HB.out | apply below_alloc | apply pw_below_drewN | apply below_drew1 | refine below_set ?_ (IsS79.ge HI331.out)) | exact HB.out)))); have n1_ := Aside0.mk (hb); have n2_ := Aside0.mk (hi); clear HB; clear HI331; have HO334 := n0_; have HB := n1_; have HI331 := n2_; clear n0_ n1_ n2_; (try clear hb); (try clear hb2); (try clear hk); (try clear hi); (try clear ho0)))
 go_ret
 exact ⟨_, by first | rfl | (simp [errW_none, errW_some] <;> rfl) | (simp [*, errW_none, errW_some] <;> rfl), by (with_reducible repeat (first | apply Kd.R_alloc | apply Kd.R_drewN | apply Kd.R_drew)); exact HO334.out, by repeat (first | (with_reducible first | exact HB.out | apply below_alloc | apply pw_below_drewN | apply below_drew1 | refine below_set ?_ (IsS79.ge HI331.out)) | exact HB.out)⟩
end Go.Proofs.YtejoneninbdjbaaDoor.E
end
section
namespace Go.Proofs.YtejoneninbdjbaaDoor.E
open Go.RowKit Go.Proofs.YtejoneninbdjbaaDoorW.PrintWords Go.Proofs.YtejoneninbdjbaaDoorW.PrintLast Go.Proofs.YtejoneninbdjbaaDoorW.PrintMore
attribute [local go_sem] max2_int min2_int max_two min_two max_three min_three max_four min_four
set_option linter.unusedVariables false
set_option linter.unusedSimpArgs false
attribute [local go_sem] str_leq_ str_gtr_ str_geq_
mutual
def laws_FnBooksCommon.j0 : Nat → List ByteArray → ByteArray → Bool → ByteArray → Bool → Bool → Option (Bool)
 | 0, _, _, _, _, _, _ => none
 | k + 1, x3, x4, x5, x6, x7, x41 => if x41 = true then (if (x5 == x7) = true then (some (x4.toList == x6.toList)) else (some false)) else (laws_FnBooksCommon.l0 k x3 x4 0 0)
def laws_FnBooksCommon.l0 : Nat → List ByteArray → ByteArray → Int → Int → Option (Bool)
 | 0, _, _, _, _ => none
 | k + 1, x3, x4, x8, x9 => if x9 < (x3.length : Int) then (laws_FnBooksCommon.l1 k x3 x4 x8 x9 0) else (laws_FnBooksCommon.l2 k x3 x4 x8 true 0)
def laws_FnBooksCommon.l1 : Nat → List ByteArray → ByteArray → Int → Int → Int → Option (Bool)
 | 0, _, _, _, _, _ => none
 | k + 1, x3, x4, x8, x9, x10 => if x10 < (x4.size : Int) then (if 0 ≤ x9 then (if x9 < (x3.length : Int) then (if 0 ≤ x10 then (if x10 < ((rdOf ByteArray.empty x3 x9).size : Int) then (if (bt (rdOf ByteArray.empty x3 x9) x10) = (bt x4 x10) then (laws_FnBooksCommon.l1 k x3 x4 x8 x9 (wrap64 (x10 + 1))) else (laws_FnBooksCommon.l1 k x3 x4 (wrap64 (x8 + 1)) x9 (wrap64 (x10 + 1)))) else (none)) else (none)) else (none)) else (none)) else (laws_FnBooksCommon.l0 k x3 x4 x8 (wrap64 (x9 + 1)))
def laws_FnBooksCommon.l2 : Nat → List ByteArray → ByteArray → Int → Bool → Int → Option (Bool)
 | 0, _, _, _, _, _ => none
 | k + 1, x3, x4, x8, x11, x12 => if x12 < (x3.length : Int) then (laws_FnBooksCommon.l3 k x3 x4 x8 x11 x12 0 0) else (if 0 < (x3.length : Int) then (if (x4.size : Int) = ((rdOf ByteArray.empty x3 0).size : Int) then (if x11 = true then (if x4.toList = (rdOf ByteArray.empty x3 0).toList then (some (x8 == 0)) else (some false)) else (some true)) else (some false)) else (none))
def laws_FnBooksCommon.l3 : Nat → List ByteArray → ByteArray → Int → Bool → Int → Int → Int → Option (Bool)
 | 0, _, _, _, _, _, _, _ => none
 | k + 1, x3, x4, x8, x11, x12, x13, x14 => if x14 < (x3.length : Int) then ((impl_BooksFar.f k x3 x12 x14).bind fun t346 => (laws_FnBooksCommon.l3 k x3 x4 x8 x11 x12 (wrap64 (x13 + t346)) (wrap64 (x14 + 1)))) else (if x11 = true then (if 0 ≤ x12 then (if x12 < (x3.length : Int) then (if 0 < (x3.length : Int) then (if x8 > x13 then (some false) else (laws_FnBooksCommon.l2 k x3 x4 x8 ((rdOf ByteArray.empty x3 x12).toList == (rdOf ByteArray.empty x3 0).toList) (wrap64 (x12 + 1)))) else (none)) else (none)) else (none)) else (if x8 > x13 then (some false) else (laws_FnBooksCommon.l2 k x3 x4 x8 false (wrap64 (x12 + 1)))))
end
def laws_FnBooksCommon.f (k : Nat) (l0 : List Int) : Option (Bool) := if (l0.length : Int) > 1048576 then (some true) else ((spec_DrawBooksCommon.f k l0).bind fun t336 => ((impl_BooksCommon.f k t336).bind fun bt339 => ((spec_BooksCommon.f k t336).bind fun bt341 => (if (bt339.2 != bt341.2) = true then (laws_FnBooksCommon.j0 k t336 bt339.1 bt339.2 bt341.1 bt341.2 true) else (if bt339.1.toList = bt341.1.toList then (laws_FnBooksCommon.j0 k t336 bt339.1 bt339.2 bt341.1 bt341.2 (!bt339.2)) else (laws_FnBooksCommon.j0 k t336 bt339.1 bt339.2 bt341.1 bt341.2 true))))))
set_option maxHeartbeats 8000000 in
set_option maxRecDepth 100000 in
theorem laws_FnBooksCommon.calls (k : Nat) (A0 : Option Addr) (c0 : Nat) (l0 : List Int) (r : Bool) (w : World) (hr0 : Kd.C (Kd.int .u8) w A0 l0.length l0) (hc0 : l0.length ≤ c0) (h : laws_FnBooksCommon.f k l0 = some r) :
  Calls Tryd.prog 9 #[.slice A0 l0.length c0] w fun e w' => e = .returned (.bool r) ∧ Below w.heap.size w w' := by
 have HR0 := Aside0.mk hr0
 have HC0 := Aside0.mk hc0
 clear hr0 hc0
 have HB := Aside0.mk (Below.refl w.heap.size w)
 have H : (if (l0.length : Int) > 1048576 then (some true) else ((spec_DrawBooksCommon.f k l0).bind fun t336 => ((impl_BooksCommon.f k t336).bind fun bt339 => ((spec_BooksCommon.f k t336).bind fun bt341 => (if (bt339.2 != bt341.2) = true then (laws_FnBooksCommon.j0 k t336 bt339.1 bt339.2 bt341.1 bt341.2 true) else (if bt339.1.toList = bt341.1.toList then (laws_FnBooksCommon.j0 k t336 bt339.1 bt339.2 bt341.1 bt341.2 (!bt339.2)) else (laws_FnBooksCommon.j0 k t336 bt339.1 bt339.2 bt341.1 bt341.2 true))))))) = some r := h
 clear h
 by_cases c2 : (l0.length : Int) > 1048576
 ·rw [if_pos c2] at H
  have c2b0 : decide (1048576 < (l0.length : Int)) = true := decide_eq_true c2
  have c2b1 : decide (1048576 < l0.length) = true := decide_eq_true (by omega)
  clear c2
  obtain rfl := Option.some.inj H
  go_enter Tryd.func9, Tryd.ntmps9
  go_wp2
  repeat (go_quiet (fail); try go_wp2)
  go_ret
  exact ⟨by first | rfl | (simp [errW_none, errW_some] <;> rfl) | (simp [*, errW_none, errW_some] <;> rfl), by repeat (first | (with_reducible first | exact HB.out | apply below_alloc | apply pw_below_drewN | apply below_drew1) | exact HB.out)⟩
 rw [if_neg c2] at H
 have c2b0 : decide (1048576 < (l0.length : Int)) = false := decide_eq_false c2
 have c2b1 : decide (1048576 < l0.length) = false := decide_eq_false (by omega)
 clear c2
 replace H := Option.bind_eq_some_iff.mp H
 obtain ⟨t336, A30, H⟩ := H
 replace H : ((impl_BooksCommon.f k t336).bind fun bt339 => ((spec_BooksCommon.f k t336).bind fun bt341 => (if (bt339.2 != bt341.2) = true then (laws_FnBooksCommon.j0 k t336 bt339.1 bt339.2 bt341.1 bt341.2 true) else (if bt339.1.toList = bt341.1.toList then (laws_FnBooksCommon.j0 k t336 bt339.1 bt339.2 bt341.1 bt341.2 (!bt339.2)) else (laws_FnBooksCommon.j0 k t336 bt339.1 bt339.2 bt341.1 bt341.2 true))))) = some r := H
 have A3 := Aside0.mk A30
 clear A30
 replace H := Option.bind_eq_some_iff.mp H
 obtain ⟨⟨t339, t340⟩, A40, H⟩ := H
 replace H : ((spec_BooksCommon.f k t336).bind fun bt341 => (if (t340 != bt341.2) = true then (laws_FnBooksCommon.j0 k t336 t339 t340 bt341.1 bt341.2 true) else (if t339.toList = bt341.1.toList then (laws_FnBooksCommon.j0 k t336 t339 t340 bt341.1 bt341.2 (!t340)) else (laws_FnBooksCommon.j0 k t336 t339 t340 bt341.1 bt341.2 true)))) = some r := H
 have A4 := Aside0.mk A40
 clear A40
 replace H := Option.bind_eq_some_iff.mp H
 obtain ⟨⟨t341, t342⟩, A50, H⟩ := H
 replace H : (if (t340 != t342) = true then (laws_FnBooksCommon.j0 k t336 t339 t340 t341 t342 true) else (if t339.toList = t341.toList then (laws_FnBooksCommon.j0 k t336 t339 t340 t341 t342 (!t340)) else (laws_FnBooksCommon.j0 k t336 t339 t340 t341 t342 true))) = some r := H
 have A5 := Aside0.mk A50
 clear A50
 have HC6 := Aside0.mk H
 clear H
 go_enter Tryd.func9, Tryd.ntmps9
 go_upto_region 6 with (first | (go_at_call 37; (with_reducible refine (spec_DrawBooksCommon.calls k _ _ l0 t336 _ ?side1 ?side2 A3.out).mono ?_); (case side1 => repeat (first | exact HR0.out | (with_reducible refine Kd.C_alloc ?_ _) | (with_reducible refine Kd.C_drewN ?_ _) | (with_reducible refine Kd.C_drew ?_))); (case side2 => exact HC0.out); rintro e w7 ⟨v337, rfl, ho0, hb⟩; have n0_ := Aside0.mk (Kd.R_lower ho0 (below_size (by repeat (first | (with_reducible first | exact HB.out | apply below_alloc | apply pw_below_drewN | apply below_drew1) | exact HB.out)))); have n1_ := Aside0.mk (below_step (by repeat (first | (with_reducible first | exact HB.out | apply below_alloc | apply pw_below_drewN | apply below_drew1) | exact HB.out)) hb); clear HB; have HO338 := n0_; have HB := n1_; clear n0_ n1_; (try clear hb); (try clear hb2); (try clear hk); (try clear hi); (try clear ho0); obtain ⟨Ao8, co8, eo8⟩ := Kd.R_slice HO338.out; subst eo8) | (go_at_call 33; (with_reducible refine (impl_BooksCommon.calls k _ _ t336 t339 t340 _ ?side1 ?side2 A4.out).mono ?_); (case side1 => repeat (first | exact (Kd.R_reads' HO338.out).2.2 | (with_reducible refine Kd.C_alloc ?_ _) | (with_reducible refine Kd.C_drewN ?_ _) | (with_reducible refine Kd.C_drew ?_))); (case side2 => exact (Kd.R_reads' HO338.out).2.1); rintro e w9 ⟨rfl, hb⟩; have n0_ := Aside0.mk (Kd.R_below (by (with_reducible repeat (first | apply Kd.R_alloc | apply Kd.R_drewN | apply Kd.R_drew)); exact HO338.out) hb); have n1_ := Aside0.mk (below_step (by repeat (first | (with_reducible first | exact HB.out | apply below_alloc | apply pw_below_drewN | apply below_drew1) | exact HB.out)) hb); clear HO338; clear HB; have HO338 := n0_; have HB := n1_; clear n0_ n1_; (try clear hb); (try clear hb2); (try clear hk); (try clear hi)) | (go_at_call 32; (with_reducible refine (spec_BooksCommon.calls k _ _ t336 t341 t342 _ ?side1 ?side2 A5.out).mono ?_); (case side1 => repeat (first | exact (Kd.R_reads' HO338.out).2.2 | (with_reducible refine Kd.C_alloc ?_ _) | (with_reducible refine Kd.C_drewN ?_ _) | (with_reducible refine Kd.C_drew ?_))); (case side2 => exact (Kd.R_reads' HO338.out).2.1); rintro e w' ⟨rfl, ⟨nd, rfl⟩⟩; (try first | exact ⟨rfl, _, World.drewN_drewN _ _ _⟩ | exact ⟨rfl, _, Eq.trans (World.drewN_drewN _ _ _) (congrArg (World.drewN _) (Nat.add_assoc _ _ _))⟩)))
 repeat (go_quiet (first | (go_at_call 37; (with_reducible refine (spec_DrawBooksCommon.calls k _ _ l0 t336 _ ?side1 ?side2 A3.out).mono ?_); (case side1 => repeat (first | exact HR0.out | (with_reducible refine Kd.C_alloc ?_ _) | (with_reducible refine Kd.C_drewN ?_ _) | (with_reducible refine Kd.C_drew ?_))); (case side2 => exact HC0.out); rintro e w7 ⟨v337, rfl, ho0, hb⟩; have n0_ := Aside0.mk (Kd.R_lower ho0 (below_size (by repeat (first | (with_reducible first | exact HB.out | apply below_alloc | apply pw_below_drewN | apply below_drew1) | exact HB.out)))); have n1_ := Aside0.mk (below_step (by repeat (first | (with_reducible first | exact HB.out | apply below_alloc | apply pw_below_drewN | apply below_drew1) | exact HB.out)) hb); clear HB; have HO338 := n0_; have HB := n1_; clear n0_ n1_; (try clear hb); (try clear hb2); (try clear hk); (try clear hi); (try clear ho0); obtain ⟨Ao8, co8, eo8⟩ := Kd.R_slice HO338.out; subst eo8) | (go_at_call 33; (with_reducible refine (impl_BooksCommon.calls k _ _ t336 t339 t340 _ ?side1 ?side2 A4.out).mono ?_); (case side1 => repeat (first | exact (Kd.R_reads' HO338.out).2.2 | (with_reducible refine Kd.C_alloc ?_ _) | (with_reducible refine Kd.C_drewN ?_ _) | (with_reducible refine Kd.C_drew ?_))); (case side2 => exact (Kd.R_reads' HO338.out).2.1); rintro e w9 ⟨rfl, hb⟩; have n0_ := Aside0.mk (Kd.R_below (by (with_reducible repeat (first | apply Kd.R_alloc | apply Kd.R_drewN | apply Kd.R_drew)); exact HO338.out) hb); have n1_ := Aside0.mk (below_step (by repeat (first | (with_reducible first | exact HB.out | apply below_alloc | apply pw_below_drewN | apply below_drew1) | exact HB.out)) hb); clear HO338; clear HB; have HO338 := n0_; have HB := n1_; clear n0_ n1_; (try clear hb); (try clear hb2); (try clear hk); (try clear hi)) | (go_at_call 32; (with_reducible refine (spec_BooksCommon.calls k _ _ t336 t341 t342 _ ?side1 ?side2 A5.out).mono ?_); (case side1 => repeat (first | exact (Kd.R_reads' HO338.out).2.2 | (with_reducible refine Kd.C_alloc ?_ _) | (with_reducible refine Kd.C_drewN ?_ _) | (with_reducible refine Kd.C_drew ?_))); (case side2 => exact (Kd.R_reads' HO338.out).2.1); rintro e w' ⟨rfl, ⟨nd, rfl⟩⟩; (try first | exact ⟨rfl, _, World.drewN_drewN _ _ _⟩ | exact ⟨rfl, _, Eq.trans (World.drewN_drewN _ _ _) (congrArg (World.drewN _) (Nat.add_assoc _ _ _))⟩))); go_upto_region 6 with (first | (go_at_call 37; (with_reducible refine (spec_DrawBooksCommon.calls k _ _ l0 t336 _ ?side1 ?side2 A3.out).mono ?_); (case side1 => repeat (first | exact HR0.out | (with_reducible refine Kd.C_alloc ?_ _) | (with_reducible refine Kd.C_drewN ?_ _) | (with_reducible refine Kd.C_drew ?_))); (case side2 => exact HC0.out); rintro e w7 ⟨v337, rfl, ho0, hb⟩; have n0_ := Aside0.mk (Kd.R_lower ho0 (below_size (by repeat (first | (with_reducible first | exact HB.out | apply below_alloc | apply pw_below_drewN | apply below_drew1) | exact HB.out)))); have n1_ := Aside0.mk (below_step (by repeat (first | (with_reducible first | exact HB.out | apply below_alloc | apply pw_below_drewN | apply below_drew1) | exact HB.out)) hb); clear HB; have HO338 := n0_; have HB := n1_; clear n0_ n1_; (try clear hb); (try clear hb2); (try clear hk); (try clear hi); (try clear ho0); obtain ⟨Ao8, co8, eo8⟩ := Kd.R_slice HO338.out; subst eo8) | (go_at_call 33; (with_reducible refine (impl_BooksCommon.calls k _ _ t336 t339 t340 _ ?side1 ?side2 A4.out).mono ?_); (case side1 => repeat (first | exact (Kd.R_reads' HO338.out).2.2 | (with_reducible refine Kd.C_alloc ?_ _) | (with_reducible refine Kd.C_drewN ?_ _) | (with_reducible refine Kd.C_drew ?_))); (case side2 => exact (Kd.R_reads' HO338.out).2.1); rintro e w9 ⟨rfl, hb⟩; have n0_ := Aside0.mk (Kd.R_below (by (with_reducible repeat (first | apply Kd.R_alloc | apply Kd.R_drewN | apply Kd.R_drew)); exact HO338.out) hb); have n1_ := Aside0.mk (below_step (by repeat (first | (with_reducible first | exact HB.out | apply below_alloc | apply pw_below_drewN | apply below_drew1) | exact HB.out)) hb); clear HO338; clear HB; have HO338 := n0_; have HB := n1_; clear n0_ n1_; (try clear hb); (try clear hb2); (try clear hk); (try clear hi)) | (go_at_call 32; (with_reducible refine (spec_BooksCommon.calls k _ _ t336 t341 t342 _ ?side1 ?side2 A5.out).mono ?_); (case side1 => repeat (first | exact (Kd.R_reads' HO338.out).2.2 | (with_reducible refine Kd.C_alloc ?_ _) | (with_reducible refine Kd.C_drewN ?_ _) | (with_reducible refine Kd.C_drew ?_))); (case side2 => exact (Kd.R_reads' HO338.out).2.1); rintro e w' ⟨rfl, ⟨nd, rfl⟩⟩; (try first | exact ⟨rfl, _, World.drewN_drewN _ _ _⟩ | exact ⟨rfl, _, Eq.trans (World.drewN_drewN _ _ _) (congrArg (World.drewN _) (Nat.add_assoc _ _ _))⟩))))
 (try simp only [Act.put, List.setIfInBounds_toArray, List.set_cons_zero, List.set_cons_succ])
 go_cut [41] (fun v41 wc => ∃ (kq : Nat) (x41_5 : Bool), v41 = .bool x41_5 ∧ Aside0 (laws_FnBooksCommon.j0 kq t336 t339 t340 t341 t342 x41_5 = some r) ∧ Aside0 (kq ≤ k) ∧ Aside0 (Kd.R Kd.string 9 wc w.heap.size (fun _ => True) (.slice Ao8 t336.length co8) t336) ∧ Aside0 (Below w.heap.size w wc))
 case first =>
  have H := HC6.out
  clear HC6
  by_cases c10 : (t340 != t342) = true
  ·rw [if_pos c10] at H
   have c10b0 : (t340 != t342) = true := c10
   (try (have c10b1 : decide (t340 = t342) = false := by simpa using c10))
   (try (have c10b2 : (t340 == t342) = false := by simpa using c10))
   (try (have c10b3 : ¬ (t340 = t342) := by simpa using c10))
   clear c10
   (first | rw [c10b0] | (simp only [i64_w, i32_w]; rw [c10b0]) | skip)
   have H' := Aside0.mk H
   clear H
   go_wp2
   repeat (go_quiet (fail); try go_wp2)
   go_meet
   case rel => exact ⟨_, (true), (by first | rfl | (simp; done) | (simp [*]; done)), H', ⟨by first | omega | exact Nat.le_refl _⟩, ⟨by (with_reducible repeat (first | apply Kd.R_alloc | apply Kd.R_drewN | apply Kd.R_drew)); exact HO338.out⟩, ⟨by repeat (first | (with_reducible first | exact HB.out | apply below_alloc | apply pw_below_drewN | apply below_drew1) | exact HB.out)⟩⟩
  rw [if_neg c10] at H
  have c10b0 : (t340 != t342) = false := by simpa using c10
  (try (have c10b1 : decide (t340 = t342) = true := by simpa using c10))
  (try (have c10b2 : (t340 == t342) = true := by simpa using c10))
  clear c10
  (first | rw [c10b0] | (simp only [i64_w, i32_w]; rw [c10b0]) | skip)
  by_cases c11 : t339.toList = t341.toList
  rotate_left
  ·rw [if_neg c11] at H
   have c11b0 : (t339.toList == t341.toList) = false := beq_eq_false_iff_ne.mpr c11
   have c11b1 : (t339.toList != t341.toList) = true := bne_iff_ne.mpr c11
   have H' := Aside0.mk H
   clear H
   go_wp2
   repeat (go_quiet (fail); try go_wp2)
   go_meet
   case rel => exact ⟨_, (true), (by first | rfl | (simp; done) | (simp [*]; done)), H', ⟨by first | omega | exact Nat.le_refl _⟩, ⟨by (with_reducible repeat (first | apply Kd.R_alloc | apply Kd.R_drewN | apply Kd.R_drew)); exact HO338.out⟩, ⟨by repeat (first | (with_reducible first | exact HB.out | apply below_alloc | apply pw_below_drewN | apply below_drew1) | exact HB.out)⟩⟩
  rw [if_pos c11] at H
  have c11b0 : (t339.toList == t341.toList) = true := beq_iff_eq.mpr c11
  have c11b1 : (t339.toList != t341.toList) = false := bne_eq_false_iff_eq.mpr c11
  clear c11
  have H' := Aside0.mk H
  clear H
  go_wp2
  repeat (go_quiet (fail); try go_wp2)
  go_meet
  case rel => exact ⟨_, (!t340), (by first | rfl | (simp; done) | (simp [*]; done)), H', ⟨by first | omega | exact Nat.le_refl _⟩, ⟨by (with_reducible repeat (first | apply Kd.R_alloc | apply Kd.R_drewN | apply Kd.R_drew)); exact HO338.out⟩, ⟨by repeat (first | (with_reducible first | exact HB.out | apply below_alloc | apply pw_below_drewN | apply below_drew1) | exact HB.out)⟩⟩
 case rest =>
  clear HC6
  try clear c1
  try clear c2
  try clear c2b0
  try clear c2b1
  try clear p2
  try clear c9
  try clear c10
  try clear c10b0
  try clear c10b1
  try clear c10b2
  try clear c11
  try clear c11b0
  try clear c11b1
  obtain ⟨kq, x41_5, rfl, HA, HJ5, HO_3, HB⟩ := hcut
  cases kq with
  | zero => exact absurd HA.out (by simp [laws_FnBooksCommon.j0])
  | succ kj5 =>
   have H := HA.out
   clear HA
   simp only [laws_FnBooksCommon.j0] at H
   by_cases c12 : x41_5 = true
   ·subst c12
    have H1 : (if (t340 == t342) = true then (some (t339.toList == t341.toList)) else (some false)) = some r := by rw [if_pos rfl] at H; exact H
    clear H
    have H := H1
    clear H1
    by_cases c13 : (t340 == t342) = true
    ·rw [if_pos c13] at H
     have c13b0 : (t340 == t342) = true := c13
     (try (have c13b1 : decide (t340 = t342) = true := by simpa using c13))
     (try (have c13b2 : (t340 == t342) = true := by simpa using c13))
     clear c13
     obtain rfl := Option.some.inj H
     go_wp2
     repeat (go_quiet (fail); try go_wp2)
     go_ret
     exact ⟨by first | rfl | (simp [errW_none, errW_some] <;> rfl) | (simp [*, errW_none, errW_some] <;> rfl), by repeat (first | (with_reducible first | exact HB.out | apply below_alloc | apply pw_below_drewN | apply below_drew1) | exact HB.out)⟩
    rw [if_neg c13] at H
    have c13b0 : (t340 == t342) = false := by simpa using c13
    (try (have c13b1 : decide (t340 = t342) = false := by simpa using c13))
    (try (have c13b2 : (t340 == t342) = false := by simpa using c13))
    (try (have c13b3 : ¬ (t340 = t342) := by simpa using c13))
    clear c13
    obtain rfl := Option.some.inj H
    go_wp2
    repeat (go_quiet (fail); try go_wp2)
    go_ret
    exact ⟨by first | rfl | (simp [errW_none, errW_some] <;> rfl) | (simp [*, errW_none, errW_some] <;> rfl), by repeat (first | (with_reducible first | exact HB.out | apply below_alloc | apply pw_below_drewN | apply below_drew1) | exact HB.out)⟩
   replace c12 := Bool.eq_false_iff.mpr c12
   subst c12
   have H1 : (laws_FnBooksCommon.l0 kj5 t336 t339 0 0) = some r := by rw [if_neg (show ¬ (false = true) by decide)] at H; exact H
   clear H
   have H := H1
   clear H1
   have H' := Aside0.mk H
   clear H
   go_wp2
   repeat (go_quiet (fail); try go_wp2)
   go_loopg [8, 9] kj5 (fun kq v8 v9 w' => ∃ (x8_2 : Int) (x9_2 : Int), v8 = .int .i64 x8_2 ∧ v9 = .int .i64 x9_2 ∧ Aside0 (laws_FnBooksCommon.l0 kq t336 t339 x8_2 x9_2 = some r) ∧ Aside0 (kq ≤ kj5) ∧ Aside0 (Kd.R Kd.string 9 w' w.heap.size (fun _ => True) (.slice Ao8 t336.length co8) t336) ∧ Aside0 (Below w.heap.size w w'))
   case atStart => exact ⟨(0), (0), (by first | rfl | (simp; done) | (simp [*]; done)), (by first | rfl | (simp; done) | (simp [*]; done)), H', ⟨Nat.le_refl _⟩, ⟨by (with_reducible repeat (first | apply Kd.R_alloc | apply Kd.R_drewN | apply Kd.R_drew)); exact HO_3.out⟩, ⟨by repeat (first | (with_reducible first | exact HB.out | apply below_alloc | apply pw_below_drewN | apply below_drew1) | exact HB.out)⟩⟩
   case round =>
    clear H'
    try clear c1
    try clear c2
    try clear c2b0
    try clear c2b1
    try clear p2
    try clear c9
    try clear c10
    try clear c10b0
    try clear c10b1
    try clear c10b2
    try clear c11
    try clear c11b0
    try clear c11b1
    try clear c12
    try clear c13
    try clear c13b0
    try clear c13b1
    try clear c13b2
    try clear p2
    obtain ⟨x8_2, x9_2, rfl, rfl, HA, HK2, HO_3, HB⟩ := hrel
    cases gk with
    | zero => exact absurd HA.out (by simp [laws_FnBooksCommon.l0])
    | succ k2 =>
     have H := HA.out
     clear HA
     simp only [laws_FnBooksCommon.l0] at H
     by_cases c14 : x9_2 < (t336.length : Int)
     ·rw [if_pos c14] at H
      have c14b0 : decide (x9_2 < (t336.length : Int)) = true := decide_eq_true c14
      clear c14
      have H' := Aside0.mk H
      clear H
      go_wp2
      repeat (go_quiet (fail); try go_wp2)
      go_loopg [8, 10] k2 (fun kq v8 v10 w' => ∃ (x8_3 : Int) (x10_3 : Int), v8 = .int .i64 x8_3 ∧ v10 = .int .i64 x10_3 ∧ Aside0 (laws_FnBooksCommon.l1 kq t336 t339 x8_3 x9_2 x10_3 = some r) ∧ Aside0 (kq ≤ k2) ∧ Aside0 (Kd.R Kd.string 9 w' w.heap.size (fun _ => True) (.slice Ao8 t336.length co8) t336) ∧ Aside0 (Below w.heap.size w w'))
      case atStart => exact ⟨(x8_2), (0), (by first | rfl | (simp; done) | (simp [*]; done)), (by first | rfl | (simp; done) | (simp [*]; done)), H', ⟨Nat.le_refl _⟩, ⟨by (with_reducible repeat (first | apply Kd.R_alloc | apply Kd.R_drewN | apply Kd.R_drew)); exact HO_3.out⟩, ⟨by repeat (first | (with_reducible first | exact HB.out | apply below_alloc | apply pw_below_drewN | apply below_drew1) | exact HB.out)⟩⟩
      case round =>
       clear H'
       try clear c1
       try clear c2
       try clear c2b0
       try clear c2b1
       try clear p2
       try clear c9
       try clear c10
       try clear c10b0
       try clear c10b1
       try clear c10b2
       try clear c11
       try clear c11b0
       try clear c11b1
       try clear c12
       try clear c13
       try clear c13b0
       try clear c13b1
       try clear c13b2
       try clear c14
       try clear c14b0
       try clear p2
       obtain ⟨x8_3, x10_3, rfl, rfl, HA, HK3, HO_3, HB⟩ := hrel
       cases gk with
       | zero => exact absurd HA.out (by simp [laws_FnBooksCommon.l1])
       | succ k3 =>
        have H := HA.out
        clear HA
        simp only [laws_FnBooksCommon.l1] at H
        by_cases c15 : x10_3 < (t339.size : Int)
        rotate_left
        ·rw [if_neg c15] at H
         have c15b0 : decide (x10_3 < (t339.size : Int)) = false := decide_eq_false c15
         clear c15
         have H' := Aside0.mk H
         clear H
         go_wp2
         repeat (go_quiet (fail); try go_wp2)
         go_roundg k3
         case measure => have := HJ5.out; have := HK2.out; have := HK3.out; omega
         case rel => exact ⟨(x8_3), (wrap64 (x9_2 + 1)), (by first | rfl | (simp; done) | (simp [*]; done)), (by first | rfl | (simp; done) | (simp [*]; done)), H', ⟨by have := HJ5.out; have := HK2.out; have := HK3.out; omega⟩, ⟨by (with_reducible repeat (first | apply Kd.R_alloc | apply Kd.R_drewN | apply Kd.R_drew)); exact HO_3.out⟩, ⟨by repeat (first | (with_reducible first | exact HB.out | apply below_alloc | apply pw_below_drewN | apply below_drew1) | exact HB.out)⟩⟩
        rw [if_pos c15] at H
        have c15b0 : decide (x10_3 < (t339.size : Int)) = true := decide_eq_true c15
        clear c15
        by_cases c16 : 0 ≤ x9_2
        rotate_left
        ·rw [if_neg c16] at H
         exact absurd H (by simp)
        rw [if_pos c16] at H
        have c16b0 : decide (0 ≤ x9_2) = true := decide_eq_true c16
        clear c16
        by_cases c17 : x9_2 < (t336.length : Int)
        rotate_left
        ·rw [if_neg c17] at H
         exact absurd H (by simp)
        rw [if_pos c17] at H
        have c17b0 : decide (x9_2 < (t336.length : Int)) = true := decide_eq_true c17
        clear c17
        by_cases c18 : 0 ≤ x10_3
        rotate_left
        ·rw [if_neg c18] at H
         exact absurd H (by simp)
        rw [if_pos c18] at H
        have c18b0 : decide (0 ≤ x10_3) = true := decide_eq_true c18
        clear c18
        by_cases c19 : x10_3 < ((rdOf ByteArray.empty t336 x9_2).size : Int)
        rotate_left
        ·rw [if_neg c19] at H
         exact absurd H (by simp)
        rw [if_pos c19] at H
        have c19b0 : decide (x10_3 < ((rdOf ByteArray.empty t336 x9_2).size : Int)) = true := decide_eq_true c19
        clear c19
        by_cases c22 : (bt (rdOf ByteArray.empty t336 x9_2) x10_3) = (bt t339 x10_3)
        rotate_left
        ·rw [if_neg c22] at H
         have c22b0 : ((bt (rdOf ByteArray.empty t336 x9_2) x10_3) == (bt t339 x10_3)) = false := beq_eq_false_iff_ne.mpr c22
         have c22b1 : ((bt (rdOf ByteArray.empty t336 x9_2) x10_3) != (bt t339 x10_3)) = true := bne_iff_ne.mpr c22
         have H' := Aside0.mk H
         clear H
         have p343 : 0 ≤ (x9_2 : Int) := of_decide_eq_true (by first | (with_reducible assumption) | assumption)
         have q343 : x9_2 < (t336.length : Int) := of_decide_eq_true (by first | (with_reducible assumption) | assumption)
         obtain ⟨ad343, e343, hx343_0⟩ := Kd.at_string (Kd.R_reads' HO_3.out).2.2 x9_2 p343 q343
         cases e343
         replace p343 := eq_true p343
         replace q343 := eq_true q343
         have p20 : 0 ≤ (x10_3 : Int) := of_decide_eq_true (by first | (with_reducible assumption) | assumption)
         have q20 : x10_3 < ((rdOf ByteArray.empty t336 x9_2).size : Int) := of_decide_eq_true (by first | (with_reducible assumption) | assumption)
         have hx20 := bt_at (rdOf ByteArray.empty t336 x9_2) x10_3
         replace p20 := eq_true p20
         replace q20 := eq_true q20
         have p21 : 0 ≤ (x10_3 : Int) := of_decide_eq_true (by first | (with_reducible assumption) | assumption)
         have q21 : x10_3 < (t339.size : Int) := of_decide_eq_true (by first | (with_reducible assumption) | assumption)
         have hx21 := bt_at t339 x10_3
         replace p21 := eq_true p21
         replace q21 := eq_true q21
         go_wp2
         repeat (go_quiet (fail); try go_wp2)
         go_roundg k3
         case measure => have := HJ5.out; have := HK2.out; have := HK3.out; omega
         case rel => exact ⟨(wrap64 (x8_3 + 1)), (wrap64 (x10_3 + 1)), (by first | rfl | (simp; done) | (simp [*]; done)), (by first | rfl | (simp; done) | (simp [*]; done)), H', ⟨by have := HJ5.out; have := HK2.out; have := HK3.out; omega⟩, ⟨by (with_reducible repeat (first | apply Kd.R_alloc | apply Kd.R_drewN | apply Kd.R_drew)); exact HO_3.out⟩, ⟨by repeat (first | (with_reducible first | exact HB.out | apply below_alloc | apply pw_below_drewN | apply below_drew1) | exact HB.out)⟩⟩
        rw [if_pos c22] at H
        have c22b0 : ((bt (rdOf ByteArray.empty t336 x9_2) x10_3) == (bt t339 x10_3)) = true := beq_iff_eq.mpr c22
        have c22b1 : ((bt (rdOf ByteArray.empty t336 x9_2) x10_3) != (bt t339 x10_3)) = false := bne_eq_false_iff_eq.mpr c22
        clear c22
        have H' := Aside0.mk H
        clear H
        have p343 : 0 ≤ (x9_2 : Int) := of_decide_eq_true (by first | (with_reducible assumption) | assumption)
        have q343 : x9_2 < (t336.length : Int) := of_decide_eq_true (by first | (with_reducible assumption) | assumption)
        obtain ⟨ad343, e343, hx343_0⟩ := Kd.at_string (Kd.R_reads' HO_3.out).2.2 x9_2 p343 q343
        cases e343
        replace p343 := eq_true p343
        replace q343 := eq_true q343
        have p20 : 0 ≤ (x10_3 : Int) := of_decide_eq_true (by first | (with_reducible assumption) | assumption)
        have q20 : x10_3 < ((rdOf ByteArray.empty t336 x9_2).size : Int) := of_decide_eq_true (by first | (with_reducible assumption) | assumption)
        have hx20 := bt_at (rdOf ByteArray.empty t336 x9_2) x10_3
        replace p20 := eq_true p20
        replace q20 := eq_true q20
        have p21 : 0 ≤ (x10_3 : Int) := of_decide_eq_true (by first | (with_reducible assumption) | assumption)
        have q21 : x10_3 < (t339.size : Int) := of_decide_eq_true (by first | (with_reducible assumption) | assumption)
        have hx21 := bt_at t339 x10_3
        replace p21 := eq_true p21
        replace q21 := eq_true q21
        go_wp2
        repeat (go_quiet (fail); try go_wp2)
        go_roundg k3
        case measure => have := HJ5.out; have := HK2.out; have := HK3.out; omega
        case rel => exact ⟨(x8_3), (wrap64 (x10_3 + 1)), (by first | rfl | (simp; done) | (simp [*]; done)), (by first | rfl | (simp; done) | (simp [*]; done)), H', ⟨by have := HJ5.out; have := HK2.out; have := HK3.out; omega⟩, ⟨by (with_reducible repeat (first | apply Kd.R_alloc | apply Kd.R_drewN | apply Kd.R_drew)); exact HO_3.out⟩, ⟨by repeat (first | (with_reducible first | exact HB.out | apply below_alloc | apply pw_below_drewN | apply below_drew1) | exact HB.out)⟩⟩
     rw [if_neg c14] at H
     have c14b0 : decide (x9_2 < (t336.length : Int)) = false := decide_eq_false c14
     clear c14
     have H' := Aside0.mk H
     clear H
     go_wp2
     repeat (go_quiet (fail); try go_wp2)
     go_loopg [11, 12] k2 (fun kq v11 v12 w' => ∃ (x11_3 : Bool) (x12_3 : Int), v11 = .bool x11_3 ∧ v12 = .int .i64 x12_3 ∧ Aside0 (laws_FnBooksCommon.l2 kq t336 t339 x8_2 x11_3 x12_3 = some r) ∧ Aside0 (kq ≤ k2) ∧ Aside0 (Kd.R Kd.string 9 w' w.heap.size (fun _ => True) (.slice Ao8 t336.length co8) t336) ∧ Aside0 (Below w.heap.size w w'))
     case atStart => exact ⟨(true), (0), (by first | rfl | (simp; done) | (simp [*]; done)), (by first | rfl | (simp; done) | (simp [*]; done)), H', ⟨Nat.le_refl _⟩, ⟨by (with_reducible repeat (first | apply Kd.R_alloc | apply Kd.R_drewN | apply Kd.R_drew)); exact HO_3.out⟩, ⟨by repeat (first | (with_reducible first | exact HB.out | apply below_alloc | apply pw_below_drewN | apply below_drew1) | exact HB.out)⟩⟩
     case round =>
      clear H'
      try clear c1
      try clear c2
      try clear c2b0
      try clear c2b1
      try clear p2
      try clear q2
      try clear hx2
      try clear p3
      try clear q3
      try clear hx3
      try clear p6
      try clear c9
      try clear c10
      try clear c10b0
      try clear c10b1
      try clear c10b2
      try clear c11
      try clear c11b0
      try clear c11b1
      try clear c12
      try clear c13
      try clear c13b0
      try clear c13b1
      try clear c13b2
      try clear c14
      try clear c14b0
      try clear c15
      try clear c15b0
      try clear c16
      try clear c16b0
      try clear c17
      try clear c17b0
      try clear c18
      try clear c18b0
      try clear c19
      try clear c19b0
      try clear p20
      try clear q20
      try clear hx20
      try clear p21
      try clear q21
      try clear hx21
      try clear c22
      try clear c22b0
      try clear c22b1
      try clear hx343_0
      try clear p2
      try clear p20
      try clear p21
      try clear p343
      try clear q20
      try clear q21
      try clear q343
      obtain ⟨x11_3, x12_3, rfl, rfl, HA, HK3, HO_3, HB⟩ := hrel
      cases gk with
      | zero => exact absurd HA.out (by simp [laws_FnBooksCommon.l2])
      | succ k3 =>
       have H := HA.out
       clear HA
       simp only [laws_FnBooksCommon.l2] at H
       by_cases c23 : x12_3 < (t336.length : Int)
       rotate_left
       ·rw [if_neg c23] at H
        have c23b0 : decide (x12_3 < (t336.length : Int)) = false := decide_eq_false c23
        clear c23
        by_cases c33 : 0 < (t336.length : Int)
        rotate_left
        ·rw [if_neg c33] at H
         exact absurd H (by simp)
        rw [if_pos c33] at H
        have c33b0 : decide (0 < (t336.length : Int)) = true := decide_eq_true c33
        have c33b1 : decide (0 < t336.length) = true := decide_eq_true (by omega)
        clear c33
        by_cases c34 : (t339.size : Int) = ((rdOf ByteArray.empty t336 0).size : Int)
        rotate_left
        ·rw [if_neg c34] at H
         have c34b0 : ((t339.size : Int) == ((rdOf ByteArray.empty t336 0).size : Int)) = false := beq_eq_false_iff_ne.mpr c34
         have c34b1 : ((t339.size : Int) != ((rdOf ByteArray.empty t336 0).size : Int)) = true := bne_iff_ne.mpr c34
         have c34b2 : (t339.size == (rdOf ByteArray.empty t336 0).size) = false := by first | simpa using c34 | (simp at c34 ⊢; omega)
         obtain rfl := Option.some.inj H
         have p344 : 0 ≤ (0 : Int) := (by omega)
         have q344 : 0 < (t336.length : Int) := of_decide_eq_true (by first | (with_reducible assumption) | assumption)
         obtain ⟨ad344, e344, hx344_0⟩ := Kd.at_string (Kd.R_reads' HO_3.out).2.2 0 p344 q344
         cases e344
         have qi344 : (0 < t336.length) = True := eq_true (by omega)
         (try rw [show ((0 : Int)).toNat = 0 from rfl] at hx344_0)
         (try rw [Addr.add_zero'] at hx344_0)
         replace p344 := eq_true p344
         replace q344 := eq_true q344
         go_wp2
         repeat (go_quiet (fail); try go_wp2)
         go_ret
         exact ⟨by first | rfl | (simp [errW_none, errW_some] <;> rfl) | (simp [*, errW_none, errW_some] <;> rfl), by repeat (first | (with_reducible first | exact HB.out | apply below_alloc | apply pw_below_drewN | apply below_drew1) | exact HB.out)⟩
        rw [if_pos c34] at H
        have c34b0 : ((t339.size : Int) == ((rdOf ByteArray.empty t336 0).size : Int)) = true := beq_iff_eq.mpr c34
        have c34b1 : ((t339.size : Int) != ((rdOf ByteArray.empty t336 0).size : Int)) = false := bne_eq_false_iff_eq.mpr c34
        have c34b2 : (t339.size == (rdOf ByteArray.empty t336 0).size) = true := by first | simpa using c34 | (simp at c34 ⊢; omega)
        clear c34
        by_cases c35 : x11_3 = true
        rotate_left
        ·replace c35 := Bool.eq_false_iff.mpr c35
         subst c35
         have H1 : (some true) = some r := by rw [if_neg (show ¬ (false = true) by decide)] at H; exact H
         clear H
         have H := H1
         clear H1
         obtain rfl := Option.some.inj H
         have p344 : 0 ≤ (0 : Int) := (by omega)
         have q344 : 0 < (t336.length : Int) := of_decide_eq_true (by first | (with_reducible assumption) | assumption)
         obtain ⟨ad344, e344, hx344_0⟩ := Kd.at_string (Kd.R_reads' HO_3.out).2.2 0 p344 q344
         cases e344
         have qi344 : (0 < t336.length) = True := eq_true (by omega)
         (try rw [show ((0 : Int)).toNat = 0 from rfl] at hx344_0)
         (try rw [Addr.add_zero'] at hx344_0)
         replace p344 := eq_true p344
         replace q344 := eq_true q344
         go_wp2
         repeat (go_quiet (fail); try go_wp2)
         go_ret
         exact ⟨by first | rfl | (simp [errW_none, errW_some] <;> rfl) | (simp [*, errW_none, errW_some] <;> rfl), by repeat (first | (with_reducible first | exact HB.out | apply below_alloc | apply pw_below_drewN | apply below_drew1) | exact HB.out)⟩
        subst c35
        have H1 : (if t339.toList = (rdOf ByteArray.empty t336 0).toList then (some (x8_2 == 0)) else (some false)) = some r := by rw [if_pos rfl] at H; exact H
        clear H
        have H := H1
        clear H1
        by_cases c36 : t339.toList = (rdOf ByteArray.empty t336 0).toList
        rotate_left
        ·rw [if_neg c36] at H
         have c36b0 : (t339.toList == (rdOf ByteArray.empty t336 0).toList) = false := beq_eq_false_iff_ne.mpr c36
         have c36b1 : (t339.toList != (rdOf ByteArray.empty t336 0).toList) = true := bne_iff_ne.mpr c36
         obtain rfl := Option.some.inj H
         have p344 : 0 ≤ (0 : Int) := (by omega)
         have q344 : 0 < (t336.length : Int) := of_decide_eq_true (by first | (with_reducible assumption) | assumption)
         obtain ⟨ad344, e344, hx344_0⟩ := Kd.at_string (Kd.R_reads' HO_3.out).2.2 0 p344 q344
         cases e344
         have qi344 : (0 < t336.length) = True := eq_true (by omega)
         (try rw [show ((0 : Int)).toNat = 0 from rfl] at hx344_0)
         (try rw [Addr.add_zero'] at hx344_0)
         replace p344 := eq_true p344
         replace q344 := eq_true q344
         have p345 : 0 ≤ (0 : Int) := (by omega)
         have q345 : 0 < (t336.length : Int) := of_decide_eq_true (by first | (with_reducible assumption) | assumption)
         obtain ⟨ad345, e345, hx345_0⟩ := Kd.at_string (Kd.R_reads' HO_3.out).2.2 0 p345 q345
         obtain rfl : ad344 = ad345 := (by injection e345)
         have qi345 : (0 < t336.length) = True := eq_true (by omega)
         (try rw [show ((0 : Int)).toNat = 0 from rfl] at hx345_0)
         (try rw [Addr.add_zero'] at hx345_0)
         replace p345 := eq_true p345
         replace q345 := eq_true q345
         go_wp2
         repeat (go_quiet (fail); try go_wp2)
         go_ret
         exact ⟨by first | rfl | (simp [errW_none, errW_some] <;> rfl) | (simp [*, errW_none, errW_some] <;> rfl), by repeat (first | (with_reducible first | exact HB.out | apply below_alloc | apply pw_below_drewN | apply below_drew1) | exact HB.out)⟩
        rw [if_pos c36] at H
        have c36b0 : (t339.toList == (rdOf ByteArray.empty t336 0).toList) = true := beq_iff_eq.mpr c36
        have c36b1 : (t339.toList != (rdOf ByteArray.empty t336 0).toList) = false := bne_eq_false_iff_eq.mpr c36
        clear c36
        obtain rfl := Option.some.inj H
        have p344 : 0 ≤ (0 : Int) := (by omega)
        have q344 : 0 < (t336.length : Int) := of_decide_eq_true (by first | (with_reducible assumption) | assumption)
        obtain ⟨ad344, e344, hx344_0⟩ := Kd.at_string (Kd.R_reads' HO_3.out).2.2 0 p344 q344
        cases e344
        have qi344 : (0 < t336.length) = True := eq_true (by omega)
        (try rw [show ((0 : Int)).toNat = 0 from rfl] at hx344_0)
        (try rw [Addr.add_zero'] at hx344_0)
        replace p344 := eq_true p344
        replace q344 := eq_true q344
        have p345 : 0 ≤ (0 : Int) := (by omega)
        have q345 : 0 < (t336.length : Int) := of_decide_eq_true (by first | (with_reducible assumption) | assumption)
        obtain ⟨ad345, e345, hx345_0⟩ := Kd.at_string (Kd.R_reads' HO_3.out).2.2 0 p345 q345
        obtain rfl : ad344 = ad345 := (by injection e345)
        have qi345 : (0 < t336.length) = True := eq_true (by omega)
        (try rw [show ((0 : Int)).toNat = 0 from rfl] at hx345_0)
        (try rw [Addr.add_zero'] at hx345_0)
        replace p345 := eq_true p345
        replace q345 := eq_true q345
        go_wp2
        repeat (go_quiet (fail); try go_wp2)
        go_ret
        exact ⟨by first | rfl | (simp [errW_none, errW_some] <;> rfl) | (simp [*, errW_none, errW_some] <;> rfl), by repeat (first | (with_reducible first | exact HB.out | apply below_alloc | apply pw_below_drewN | apply below_drew1) | exact HB.out)⟩
       rw [if_pos c23] at H
       have c23b0 : decide (x12_3 < (t336.length : Int)) = true := decide_eq_true c23
       clear c23
       have H' := Aside0.mk H
       clear H
       go_wp2
       repeat (go_quiet (fail); try go_wp2)
       go_loopg [13, 14] k3 (fun kq v13 v14 w' => ∃ (x13_4 : Int) (x14_4 : Int), v13 = .int .i64 x13_4 ∧ v14 = .int .i64 x14_4 ∧ Aside0 (laws_FnBooksCommon.l3 kq t336 t339 x8_2 x11_3 x12_3 x13_4 x14_4 = some r) ∧ Aside0 (kq ≤ k3) ∧ Aside0 (Kd.R Kd.string 9 w' w.heap.size (fun _ => True) (.slice Ao8 t336.length co8) t336) ∧ Aside0 (Below w.heap.size w w'))
       case atStart => exact ⟨(0), (0), (by first | rfl | (simp; done) | (simp [*]; done)), (by first | rfl | (simp; done) | (simp [*]; done)), H', ⟨Nat.le_refl _⟩, ⟨by (with_reducible repeat (first | apply Kd.R_alloc | apply Kd.R_drewN | apply Kd.R_drew)); exact HO_3.out⟩, ⟨by repeat (first | (with_reducible first | exact HB.out | apply below_alloc | apply pw_below_drewN | apply below_drew1) | exact HB.out)⟩⟩
       case round =>
        clear H'
        try clear c1
        try clear c2
        try clear c2b0
        try clear c2b1
        try clear p2
        try clear q2
        try clear hx2
        try clear p3
        try clear q3
        try clear hx3
        try clear p6
        try clear c9
        try clear c10
        try clear c10b0
        try clear c10b1
        try clear c10b2
        try clear c11
        try clear c11b0
        try clear c11b1
        try clear c12
        try clear c13
        try clear c13b0
        try clear c13b1
        try clear c13b2
        try clear c14
        try clear c14b0
        try clear c15
        try clear c15b0
        try clear c16
        try clear c16b0
        try clear c17
        try clear c17b0
        try clear c18
        try clear c18b0
        try clear c19
        try clear c19b0
        try clear p20
        try clear q20
        try clear hx20
        try clear p21
        try clear q21
        try clear hx21
        try clear c22
        try clear c22b0
        try clear c22b1
        try clear c23
        try clear c23b0
        try clear hx343_0
        try clear p2
        try clear p20
        try clear p21
        try clear p3
        try clear p343
        try clear p6
        try clear q2
        try clear q20
        try clear q21
        try clear q3
        try clear q343
        obtain ⟨x13_4, x14_4, rfl, rfl, HA, HK4, HO_3, HB⟩ := hrel
        cases gk with
        | zero => exact absurd HA.out (by simp [laws_FnBooksCommon.l3])
        | succ k4 =>
         have H := HA.out
         clear HA
         simp only [laws_FnBooksCommon.l3] at H
         by_cases c24 : x14_4 < (t336.length : Int)
         ·rw [if_pos c24] at H
          have c24b0 : decide (x14_4 < (t336.length : Int)) = true := decide_eq_true c24
          clear c24
          replace H := Option.bind_eq_some_iff.mp H
          obtain ⟨t346, A250, H⟩ := H
          replace H : (laws_FnBooksCommon.l3 k4 t336 t339 x8_2 x11_3 x12_3 (wrap64 (x13_4 + t346)) (wrap64 (x14_4 + 1))) = some r := H
          have A25 := Aside0.mk A250
          clear A250
          have H' := Aside0.mk H
          clear H
          go_wp2_with (first | (go_at_call 27; (with_reducible refine (impl_BooksFar.calls k4 _ _ t336 x12_3 x14_4 t346 _ ?side1 ?side2 A25.out).mono ?_); (case side1 => repeat (first | exact (Kd.R_reads' HO_3.out).2.2 | (with_reducible refine Kd.C_alloc ?_ _) | (with_reducible refine Kd.C_drewN ?_ _) | (with_reducible refine Kd.C_drew ?_))); (case side2 => exact (Kd.R_reads' HO_3.out).2.1); rintro e w26 ⟨rfl, hb⟩; have n0_ := Aside0.mk (Kd.R_below (by (with_reducible repeat (first | apply Kd.R_alloc | apply Kd.R_drewN | apply Kd.R_drew)); exact HO_3.out) hb); have n1_ := Aside0.mk (below_step (by repeat (first | (with_reducible first | exact HB.out | apply below_alloc | apply pw_below_drewN | apply below_drew1) | exact HB.out)) hb); clear HO_3; clear HB; have HO_3 := n0_; have HB := n1_; clear n0_ n1_; (try clear hb); (try clear hb2); (try clear hk); (try clear hi)))
          repeat (go_quiet (first | (go_at_call 27; (with_reducible refine (impl_BooksFar.calls k4 _ _ t336 x12_3 x14_4 t346 _ ?side1 ?side2 A25.out).mono ?_); (case side1 => repeat (first | exact (Kd.R_reads' HO_3.out).2.2 | (with_reducible refine Kd.C_alloc ?_ _) | (with_reducible refine Kd.C_drewN ?_ _) | (with_reducible refine Kd.C_drew ?_))); (case side2 => exact (Kd.R_reads' HO_3.out).2.1); rintro e w26 ⟨rfl, hb⟩; have n0_ := Aside0.mk (Kd.R_below (by (with_reducible repeat (first | apply Kd.R_alloc | apply Kd.R_drewN | apply Kd.R_drew)); exact HO_3.out) hb); have n1_ := Aside0.mk (below_step (by repeat (first | (with_reducible first | exact HB.out | apply below_alloc | apply pw_below_drewN | apply below_drew1) | exact HB.out)) hb); clear HO_3; clear HB; have HO_3 := n0_; have HB := n1_; clear n0_ n1_; (try clear hb); (try clear hb2); (try clear hk); (try clear hi))); try go_wp2_with (first | (go_at_call 27; (with_reducible refine (impl_BooksFar.calls k4 _ _ t336 x12_3 x14_4 t346 _ ?side1 ?side2 A25.out).mono ?_); (case side1 => repeat (first | exact (Kd.R_reads' HO_3.out).2.2 | (with_reducible refine Kd.C_alloc ?_ _) | (with_reducible refine Kd.C_drewN ?_ _) | (with_reducible refine Kd.C_drew ?_))); (case side2 => exact (Kd.R_reads' HO_3.out).2.1); rintro e w26 ⟨rfl, hb⟩; have n0_ := Aside0.mk (Kd.R_below (by (with_reducible repeat (first | apply Kd.R_alloc | apply Kd.R_drewN | apply Kd.R_drew)); exact HO_3.out) hb); have n1_ := Aside0.mk (below_step (by repeat (first | (with_reducible first | exact HB.out | apply below_alloc | apply pw_below_drewN | apply below_drew1) | exact HB.out)) hb); clear HO_3; clear HB; have HO_3 := n0_; have HB := n1_; clear n0_ n1_; (try clear hb); (try clear hb2); (try clear hk); (try clear hi))))
          go_roundg k4
          case measure => have := HJ5.out; have := HK2.out; have := HK3.out; have := HK4.out; omega
          case rel => exact ⟨(wrap64 (x13_4 + t346)), (wrap64 (x14_4 + 1)), (by first | rfl | (simp; done) | (simp [*]; done)), (by first | rfl | (simp; done) | (simp [*]; done)), H', ⟨by have := HJ5.out; have := HK2.out; have := HK3.out; have := HK4.out; omega⟩, ⟨by (with_reducible repeat (first | apply Kd.R_alloc | apply Kd.R_drewN | apply Kd.R_drew)); exact HO_3.out⟩, ⟨by repeat (first | (with_reducible first | exact HB.out | apply below_alloc | apply pw_below_drewN | apply below_drew1) | exact HB.out)⟩⟩
         rw [if_neg c24] at H
         have c24b0 : decide (x14_4 < (t336.length : Int)) = false := decide_eq_false c24
         clear c24
         by_cases c27 : x11_3 = true
         rotate_left
         ·replace c27 := Bool.eq_false_iff.mpr c27
          subst c27
          have H1 : (if x8_2 > x13_4 then (some false) else (laws_FnBooksCommon.l2 k4 t336 t339 x8_2 false (wrap64 (x12_3 + 1)))) = some r := by rw [if_neg (show ¬ (false = true) by decide)] at H; exact H
          clear H
          have H := H1
          clear H1
          by_cases c32 : x8_2 > x13_4
          ·rw [if_pos c32] at H
           have c32b0 : decide (x13_4 < x8_2) = true := decide_eq_true c32
           clear c32
           obtain rfl := Option.some.inj H
           go_wp2
           repeat (go_quiet (fail); try go_wp2)
           go_ret
           exact ⟨by first | rfl | (simp [errW_none, errW_some] <;> rfl) | (simp [*, errW_none, errW_some] <;> rfl), by repeat (first | (with_reducible first | exact HB.out | apply below_alloc | apply pw_below_drewN | apply below_drew1) | exact HB.out)⟩
          rw [if_neg c32] at H
          have c32b0 : decide (x13_4 < x8_2) = false := decide_eq_false c32
          clear c32
          have H' := Aside0.mk H
          clear H
          go_wp2
          repeat (go_quiet (fail); try go_wp2)
          go_roundg k4
          case measure => have := HJ5.out; have := HK2.out; have := HK3.out; have := HK4.out; omega
          case rel => exact ⟨(false), (wrap64 (x12_3 + 1)), (by first | rfl | (simp; done) | (simp [*]; done)), (by first | rfl | (simp; done) | (simp [*]; done)), H', ⟨by have := HJ5.out; have := HK2.out; have := HK3.out; have := HK4.out; omega⟩, ⟨by (with_reducible repeat (first | apply Kd.R_alloc | apply Kd.R_drewN | apply Kd.R_drew)); exact HO_3.out⟩, ⟨by repeat (first | (with_reducible first | exact HB.out | apply below_alloc | apply pw_below_drewN | apply below_drew1) | exact HB.out)⟩⟩
         subst c27
         have H1 : (if 0 ≤ x12_3 then (if x12_3 < (t336.length : Int) then (if 0 < (t336.length : Int) then (if x8_2 > x13_4 then (some false) else (laws_FnBooksCommon.l2 k4 t336 t339 x8_2 ((rdOf ByteArray.empty t336 x12_3).toList == (rdOf ByteArray.empty t336 0).toList) (wrap64 (x12_3 + 1)))) else (none)) else (none)) else (none)) = some r := by rw [if_pos rfl] at H; exact H
         clear H
         have H := H1
         clear H1
         by_cases c28 : 0 ≤ x12_3
         rotate_left
         ·rw [if_neg c28] at H
          exact absurd H (by simp)
         rw [if_pos c28] at H
         have c28b0 : decide (0 ≤ x12_3) = true := decide_eq_true c28
         clear c28
         by_cases c29 : x12_3 < (t336.length : Int)
         rotate_left
         ·rw [if_neg c29] at H
          exact absurd H (by simp)
         rw [if_pos c29] at H
         have c29b0 : decide (x12_3 < (t336.length : Int)) = true := decide_eq_true c29
         clear c29
         by_cases c30 : 0 < (t336.length : Int)
         rotate_left
         ·rw [if_neg c30] at H
          exact absurd H (by simp)
         rw [if_pos c30] at H
         have c30b0 : decide (0 < (t336.length : Int)) = true := decide_eq_true c30
         have c30b1 : decide (0 < t336.length) = true := decide_eq_true (by omega)
         clear c30
         by_cases c31 : x8_2 > x13_4
         ·rw [if_pos c31] at H
          have c31b0 : decide (x13_4 < x8_2) = true := decide_eq_true c31
          clear c31
          obtain rfl := Option.some.inj H
          have p347 : 0 ≤ (x12_3 : Int) := of_decide_eq_true (by first | (with_reducible assumption) | assumption)
          have q347 : x12_3 < (t336.length : Int) := of_decide_eq_true (by first | (with_reducible assumption) | assumption)
          obtain ⟨ad347, e347, hx347_0⟩ := Kd.at_string (Kd.R_reads' HO_3.out).2.2 x12_3 p347 q347
          cases e347
          replace p347 := eq_true p347
          replace q347 := eq_true q347
          have p348 : 0 ≤ (0 : Int) := (by omega)
          have q348 : 0 < (t336.length : Int) := of_decide_eq_true (by first | (with_reducible assumption) | assumption)
          obtain ⟨ad348, e348, hx348_0⟩ := Kd.at_string (Kd.R_reads' HO_3.out).2.2 0 p348 q348
          obtain rfl : ad347 = ad348 := (by injection e348)
          have qi348 : (0 < t336.length) = True := eq_true (by omega)
          (try rw [show ((0 : Int)).toNat = 0 from rfl] at hx348_0)
          (try rw [Addr.add_zero'] at hx348_0)
          replace p348 := eq_true p348
          replace q348 := eq_true q348
          go_wp2
          repeat (go_quiet (fail); try go_wp2)
          go_ret
          exact ⟨by first | rfl | (simp [errW_none, errW_some] <;> rfl) | (simp [*, errW_none, errW_some] <;> rfl), by repeat (first | (with_reducible first | exact HB.out | apply below_alloc | apply pw_below_drewN | apply below_drew1) | exact HB.out)⟩
         rw [if_neg c31] at H
         have c31b0 : decide (x13_4 < x8_2) = false := decide_eq_false c31
         clear c31
         have H' := Aside0.mk H
         clear H
         have p347 : 0 ≤ (x12_3 : Int) := of_decide_eq_true (by first | (with_reducible assumption) | assumption)
         have q347 : x12_3 < (t336.length : Int) := of_decide_eq_true (by first | (with_reducible assumption) | assumption)
         obtain ⟨ad347, e347, hx347_0⟩ := Kd.at_string (Kd.R_reads' HO_3.out).2.2 x12_3 p347 q347
         cases e347
         replace p347 := eq_true p347
         replace q347 := eq_true q347
         have p348 : 0 ≤ (0 : Int) := (by omega)
         have q348 : 0 < (t336.length : Int) := of_decide_eq_true (by first | (with_reducible assumption) | assumption)
         obtain ⟨ad348, e348, hx348_0⟩ := Kd.at_string (Kd.R_reads' HO_3.out).2.2 0 p348 q348
         obtain rfl : ad347 = ad348 := (by injection e348)
         have qi348 : (0 < t336.length) = True := eq_true (by omega)
         (try rw [show ((0 : Int)).toNat = 0 from rfl] at hx348_0)
         (try rw [Addr.add_zero'] at hx348_0)
         replace p348 := eq_true p348
         replace q348 := eq_true q348
         go_wp2
         repeat (go_quiet (fail); try go_wp2)
         go_roundg k4
         case measure => have := HJ5.out; have := HK2.out; have := HK3.out; have := HK4.out; omega
         case rel => exact ⟨(((rdOf ByteArray.empty t336 x12_3).toList == (rdOf ByteArray.empty t336 0).toList)), (wrap64 (x12_3 + 1)), (by first | rfl | (simp; done) | (simp [*]; done)), (by first | rfl | (simp; done) | (simp [*]; done)), H', ⟨by have := HJ5.out; have := HK2.out; have := HK3.out; have := HK4.out; omega⟩, ⟨by (with_reducible repeat (first | apply Kd.R_alloc | apply Kd.R_drewN | apply Kd.R_drew)); exact HO_3.out⟩, ⟨by repeat (first | (with_reducible first | exact HB.out | apply below_alloc | apply pw_below_drewN | apply below_drew1) | exact HB.out)⟩⟩
def laws_FnBooksCommon.Pure : Prop := ∀ (l0 : List Int), l0.length ≤ maxLen → l0.length * 1 ≤ 140737488351232 → (∀ x ∈ l0, (Lit.int .u8 x).wf = true) → ∃ k, laws_FnBooksCommon.f k l0 = some true
end Go.Proofs.YtejoneninbdjbaaDoor.E
end
section
namespace Go.Proofs.YtejoneninbdjbaaDoor.Pur
open Go.RowKit Go.Proofs.YtejoneninbdjbaaDoorW.PrintWords
def EvP {α : Type} (g : Nat → Option α) (P : α → Prop) : Prop := ∃ r, Ev g r ∧ P r
section
variable {α β : Type}
theorem EvP.bind {g : Nat → Option α} {f : Nat → α → Option β} {P : α → Prop} {Q : β → Prop} (h : EvP g P) (k : ∀ a, P a → EvP (fun n => f n a) Q) : EvP (fun n => (g n).bind (f n)) Q := by
  obtain ⟨a, ha, hp⟩ := h
  obtain ⟨b, hb, hq⟩ := k a hp
  exact ⟨b, Ev.bind ha hb, hq⟩
theorem EvP.ret {P : α → Prop} {r : α} (h : P r) : EvP (fun _ => some r) P := ⟨r, Ev.now r, h⟩
theorem EvP.ite {c : Prop} [Decidable c] {f g : Nat → Option α} {P : α → Prop} (h : c → EvP f P) (k : ¬ c → EvP g P) : EvP (fun n => if c then f n else g n) P := by
  by_cases hc : c
  · obtain ⟨r, hr, hp⟩ := h hc
    exact ⟨r, Ev.congr (fun n => if_pos hc) hr, hp⟩
  · obtain ⟨r, hr, hp⟩ := k hc
    exact ⟨r, Ev.congr (fun n => if_neg hc) hr, hp⟩
theorem EvP.yes {c : Prop} [Decidable c] {f g : Nat → Option α} {P : α → Prop} (hc : c) (h : EvP f P) : EvP (fun n => if c then f n else g n) P := .ite (fun _ => h) (fun k => absurd hc k)
theorem EvP.no {c : Prop} [Decidable c] {f g : Nat → Option α} {P : α → Prop} (hc : ¬ c) (h : EvP g P) : EvP (fun n => if c then f n else g n) P := .ite (fun k => absurd k hc) (fun _ => h)
theorem EvP.step {g f : Nat → Option α} {P : α → Prop} (h : ∀ k, g (k + 1) = f k) (k : EvP f P) : EvP g P := by
  obtain ⟨r, hr, hp⟩ := k
  exact ⟨r, Ev.step h hr, hp⟩
theorem EvP.succ {g : Nat → Option α} {P : α → Prop} (k : EvP (fun n => g (n + 1)) P) : EvP g P := EvP.step (fun _ => rfl) k
theorem EvP.mono {g : Nat → Option α} {P Q : α → Prop} (h : EvP g P) (k : ∀ r, P r → Q r) : EvP g Q := by
  obtain ⟨r, hr, hp⟩ := h
  exact ⟨r, hr, k r hp⟩
theorem EvP.rounds {g : Nat → Option α} {r : α} (h : EvP g (· = r)) : ∃ k, g k = some r := by
  obtain ⟨_, hr, rfl⟩ := h
  exact hr.rounds
end
structure Hd (p : Prop) : Prop where mk :: (out : p)
theorem w64 {i : Int} (h0 : -9223372036854775808 ≤ i) (h1 : i ≤ 9223372036854775807) : wrap64 i = i := by unfold wrap64; omega
theorem tmod_pos {a : Int} (b : Int) (h : 0 ≤ a) : Int.tmod a b = a % b := Int.tmod_eq_emod_of_nonneg h
theorem tdiv_pos {a : Int} (b : Int) (h : 0 ≤ a) : Int.tdiv a b = a / b := Int.tdiv_eq_ediv_of_nonneg h
theorem toNat_nat (n : Nat) : ((n : Int)).toNat = n := rfl
end Go.Proofs.YtejoneninbdjbaaDoor.Pur
end
section
namespace Go.Proofs.YtejoneninbdjbaaDoor.Pur
open Go.RowKit Go.Proofs.YtejoneninbdjbaaDoorW.PrintWords Go.Proofs.YtejoneninbdjbaaDoorW.PrintMore Go.Proofs.YtejoneninbdjbaaDoor.E
def okB (B : List Int) : Prop := B.length ≤ 2000 ∧ ∀ x ∈ B, 0 ≤ x ∧ x ≤ 255
theorem byte_range {x : Int} (h : (Lit.int .u8 x).wf = true) : 0 ≤ x ∧ x ≤ 255 := by
  simp [Lit.wf, IntKind.min, IntKind.max, IntKind.signed, IntKind.bits] at h
  omega
theorem okB_rd {B : List Int} (h : okB B) (i : Int) : 0 ≤ rd B i ∧ rd B i ≤ 255 := by
  unfold rd
  rw [List.getD_eq_getElem?_getD]
  cases e : B[i.toNat]? with
  | none => simp
  | some v => simpa using h.2 v (List.mem_of_getElem? e)
theorem open_code (l : List Int) (h : ∀ x ∈ l, (Lit.int .u8 x).wf = true) : EvP (fun _ => spec_l6Open.f l) (fun r => okB r.1 ∧ r.2 = 0) := by
  unfold spec_l6Open.f
  refine EvP.ite (fun h1 => EvP.yes (by omega) (EvP.ret ⟨⟨by simp; omega, fun x hx => byte_range (h x (List.mem_of_mem_take hx))⟩, rfl⟩)) (fun h1 => EvP.ret ⟨⟨by dsimp only; omega, fun x hx => byte_range (h x hx)⟩, rfl⟩)
theorem xor_nn {x y : Int} (hx : 0 ≤ x) (hx' : x < 4611686018427387904) (hy : 0 ≤ y) (hy' : y < 4611686018427387904) : 0 ≤ Go.bits .xor .i64 x y := by
  obtain ⟨a, rfl⟩ := Int.eq_ofNat_of_zero_le hx
  obtain ⟨b, rfl⟩ := Int.eq_ofNat_of_zero_le hy
  have ha : a < 2 ^ 62 := by omega
  have hb : b < 2 ^ 62 := by omega
  have hx : a ^^^ b < 2 ^ 62 := Nat.xor_lt_two_pow ha hb
  have ea : a % 2 ^ IntKind.i64.bits = a := Nat.mod_eq_of_lt (by simp [IntKind.bits]; omega)
  have eb : b % 2 ^ IntKind.i64.bits = b := Nat.mod_eq_of_lt (by simp [IntKind.bits]; omega)
  simp only [Go.bits, BitVec.ofInt_natCast, BitVec.toNat_xor, BitVec.toNat_ofNat, ea, eb]
  rw [IntKind.wrap_i64]
  omega
theorem mix_ok (E n : Int) (h0 : 0 ≤ E) (h1 : E < 4611686018427387904) (hn : 1 ≤ n) :
    0 ≤ Int.tmod (Go.bits .xor .i64 E (wrap64 (Int.tdiv E 64))) n ∧ Int.tmod (Go.bits .xor .i64 E (wrap64 (Int.tdiv E 64))) n < n := by
  have hd : Int.tdiv E 64 = E / 64 := tdiv_pos 64 h0
  have h2 := xor_nn h0 h1 (y := wrap64 (Int.tdiv E 64)) (by rw [hd, w64 (by omega) (by omega)]; omega) (by rw [hd, w64 (by omega) (by omega)]; omega)
  exact ⟨Int.tmod_nonneg n h2, Int.tmod_lt_of_pos _ (by omega)⟩
theorem mixE (r1 r2 p q : Int) (a1 : 0 ≤ r1 ∧ r1 ≤ 255) (a2 : 0 ≤ r2 ∧ r2 ≤ 255) (hp : 0 ≤ p ∧ p ≤ 1000000000) (hq : 0 ≤ q ∧ q ≤ 1000000000) :
    (wrap64 ((wrap64 ((wrap64 ((wrap64 ((wrap64 r1) * 131)) + (wrap64 ((wrap64 r2) * 1117)))) + (wrap64 (p * 29)))) + (wrap64 ((wrap64 q) * 53)))) = r1 * 131 + r2 * 1117 + p * 29 + q * 53 := by
  rw [w64 (i := r1) (by omega) (by omega), w64 (i := r2) (by omega) (by omega), w64 (i := q) (by omega) (by omega), w64 (i := r1 * 131) (by omega) (by omega), w64 (i := r2 * 1117) (by omega) (by omega), w64 (i := p * 29) (by omega) (by omega),
    w64 (i := q * 53) (by omega) (by omega), w64 (i := r1 * 131 + r2 * 1117) (by omega) (by omega), w64 (i := r1 * 131 + r2 * 1117 + p * 29) (by omega) (by omega), w64 (by omega) (by omega)]
theorem pick_ok {B : List Int} (hB : okB B) (p n : Int) (hp : 0 ≤ p ∧ p ≤ 100000000) (hn : 1 ≤ n ∧ n ≤ 1000000) : EvP (fun k => spec_l6Rd_pick.f k B p n) (fun r => 0 ≤ r.1 ∧ r.1 < n ∧ r.2 = p + 1) := by
  unfold spec_l6Rd_pick.f
  have e1 : wrap64 (p + 1) = p + 1 := w64 (by omega) (by omega)
  have e2 : wrap64 (p + 1 - 1) = p := by rw [w64 (by omega) (by omega)]; omega
  have hl := hB.1
  rw [e1]
  refine EvP.no (by omega) ?_
  refine EvP.succ ?_
  simp only [spec_l6Rd_pick.j0, e2]
  clear e1 e2
  refine EvP.ite (fun h0 => EvP.ret ⟨by omega, by dsimp only; omega, rfl⟩) (fun h0 => ?_)
  have hpos : 0 < (B.length : Int) := by
    rw [beq_iff_eq] at h0
    omega
  refine EvP.ite (fun h1 => ?_) (fun h1 => ?_)
  · have hr := okB_rd hB p
    refine EvP.yes (by omega) (EvP.no (by omega) (EvP.ret ⟨?_, ?_, rfl⟩))
    · rw [w64 (by omega) (by omega)]; exact Int.tmod_nonneg n hr.1
    · exact Int.tmod_lt_of_pos _ (by omega)
  · refine EvP.no (by omega) ?_
    have m1 : Int.tmod p (B.length : Int) = p % (B.length : Int) := tmod_pos _ hp.1
    have hm1 : 0 ≤ Int.tmod p (B.length : Int) ∧ Int.tmod p (B.length : Int) < (B.length : Int) := by rw [m1]; exact ⟨Int.emod_nonneg _ (by omega), Int.emod_lt_of_pos _ hpos⟩
    have e3 : wrap64 ((wrap64 (p * 7)) + 3) = p * 7 + 3 := by rw [w64 (i := p * 7) (by omega) (by omega), w64 (by omega) (by omega)]
    rw [e3]
    clear e3
    have hm2 : 0 ≤ Int.tmod (p * 7 + 3) (B.length : Int) ∧ Int.tmod (p * 7 + 3) (B.length : Int) < (B.length : Int) := by rw [tmod_pos _ (by omega)]; exact ⟨Int.emod_nonneg _ (by omega), Int.emod_lt_of_pos _ hpos⟩
    have hq : 0 ≤ Int.tdiv p (B.length : Int) ∧ Int.tdiv p (B.length : Int) ≤ 1000000000 := by
      rw [tdiv_pos _ hp.1]
      have := Int.ediv_le_self (B.length : Int) hp.1
      exact ⟨Int.ediv_nonneg hp.1 (by omega), by omega⟩
    have a1 := okB_rd hB (Int.tmod p (B.length : Int))
    have a2 := okB_rd hB (Int.tmod (p * 7 + 3) (B.length : Int))
    refine EvP.yes hm1.1 (EvP.yes hm1.2 (EvP.yes hm2.1 (EvP.yes hm2.2 (EvP.no (by omega) ?_))))
    rw [mixE _ _ p _ a1 a2 (by omega) hq]
    have := mix_ok (rd B (Int.tmod p (B.length : Int)) * 131 + rd B (Int.tmod (p * 7 + 3) (B.length : Int)) * 1117 + p * 29 + Int.tdiv p (B.length : Int) * 53) n (by omega) (by omega) hn.1
    exact EvP.ret ⟨this.1, this.2, rfl⟩
end Go.Proofs.YtejoneninbdjbaaDoor.Pur
end
section
namespace Go.Proofs.YtejoneninbdjbaaDoor.Pur
open Go.RowKit Go.Proofs.YtejoneninbdjbaaDoorW.PrintWords Go.Proofs.YtejoneninbdjbaaDoorW.PrintMore Go.Proofs.YtejoneninbdjbaaDoor.E
theorem of_ok {B : List Int} (hB : okB B) (p : Int) (hp : 0 ≤ p ∧ p ≤ 1000000) (l : List ByteArray) (hl : 1 ≤ l.length ∧ l.length ≤ 1000) : EvP (fun k => spec_l6Rd_of.f k B p l) (fun r => (∃ i : Nat, i < l.length ∧ r.1 = l.getD i ByteArray.empty) ∧ r.2 = p + 1) := by
  unfold spec_l6Rd_of.f
  refine EvP.bind (pick_ok hB p (l.length : Int) (by omega) (by omega)) (fun r hr => ?_)
  exact EvP.yes hr.1 (EvP.yes hr.2.1 (EvP.ret ⟨⟨r.1.toNat, by omega, rfl⟩, hr.2.2⟩))
theorem of_size {B : List Int} (hB : okB B) (p : Int) (hp : 0 ≤ p ∧ p ≤ 1000000) (l : List ByteArray) (hl : 1 ≤ l.length ∧ l.length ≤ 1000) (n : Nat) (h : ∀ t ∈ l, t.size ≤ n) : EvP (fun k => spec_l6Rd_of.f k B p l) (fun r => r.1.size ≤ n ∧ r.1 ∈ l ∧ r.2 = p + 1) := by
  refine (of_ok hB p hp l hl).mono (fun r hr => ?_)
  obtain ⟨⟨i, hi, e⟩, e2⟩ := hr
  have hm : r.1 ∈ l := by
    rw [e, List.getD_eq_getElem?_getD, List.getElem?_eq_getElem hi]
    exact List.getElem_mem hi
  exact ⟨h _ hm, hm, e2⟩
end Go.Proofs.YtejoneninbdjbaaDoor.Pur
end
section
namespace Go.Proofs.YtejoneninbdjbaaDoor.E
open Go.RowKit Go.Proofs.YtejoneninbdjbaaDoorW.PrintWords Go.Proofs.YtejoneninbdjbaaDoorW.PrintLast Go.Proofs.YtejoneninbdjbaaDoorW.PrintMore
attribute [local go_sem] max2_int min2_int max_two min_two max_three min_three max_four min_four
set_option linter.unusedVariables false
set_option linter.unusedSimpArgs false
attribute [local go_sem] str_leq_ str_gtr_ str_geq_
def spec_l91At.j0 : Nat → Int → Bool → List Int → Int → Option (Int × Int)
 | 0, _, _, _, _ => none
 | k + 1, x1, x11, x1000, x1001 => if x11 = true then ((some (([(-1), x1] : List Int) : List Int)).bind fun y280 => ((spec_l6Rd_pick.f k x1000 x1001 2).bind fun bt283 => (if 0 ≤ bt283.1 then (if bt283.1 < (y280.length : Int) then (some (rd y280 bt283.1, bt283.2)) else (none)) else (none)))) else ((spec_l6Rd_pick.f k x1000 x1001 x1).bind fun bt286 => (some (bt286.1, bt286.2)))
def spec_l91At.f (k : Nat) (s0_0 : List Int) (s0_1 : Int) (a1 : Int) : Option (Int × Int) := if a1 = 0 then (spec_l91At.j0 k a1 true s0_0 s0_1) else ((spec_l6Rd_pick.f k s0_0 s0_1 20).bind fun bt278 => (spec_l91At.j0 k a1 (bt278.1 == 0) s0_0 bt278.2))
end Go.Proofs.YtejoneninbdjbaaDoor.E
end
section
namespace Go.Proofs.YtejoneninbdjbaaDoor.Pur
open Go.RowKit Go.Proofs.YtejoneninbdjbaaDoorW.PrintWords Go.Proofs.YtejoneninbdjbaaDoorW.PrintMore Go.Proofs.YtejoneninbdjbaaDoor.E
def lostB (t : ByteArray) : Bool := t.data.toList.all (fun b => b == 63)
def readB (t : ByteArray) : Bool := t.data.toList.all (fun b => decide (97 ≤ b.toNat) && decide (b.toNat ≤ 100))
theorem bt_at (t : ByteArray) (i : Nat) (h : i < t.size) : bt t (i : Int) = ((t.data.toList[i]'(by rw [Array.length_toList]; exact h)).toNat : Int) := by
  unfold bt
  rw [toNat_nat, dif_pos h, Array.getElem_toList]
  rfl
theorem list_len (t : ByteArray) : t.data.toList.length = t.size := Array.length_toList
theorem rd_at {l : List ByteArray} {i : Nat} (h : i < l.length) : rdOf ByteArray.empty l (i : Int) = l[i] := by
  unfold rdOf
  rw [toNat_nat, List.getD_eq_getElem?_getD, List.getElem?_eq_getElem h]
  rfl
theorem u8_eq {b : UInt8} {n : Nat} (hn : n < 256) : (b == UInt8.ofNat n) = decide (b.toNat = n) := by
  by_cases h : b.toNat = n
  · rw [decide_eq_true h, beq_iff_eq, ← UInt8.toNat_inj, h, UInt8.toNat_ofNat_of_lt' hn]
  · rw [decide_eq_false h, beq_eq_false_iff_ne]
    intro e
    rw [e, UInt8.toNat_ofNat_of_lt' hn] at h
    exact h rfl
theorem lost_loop (t : ByteArray) (ht : t.size ≤ 9223372036854775806) : ∀ d i : Nat, i + d = t.size → EvP (fun k => spec_l7Lost.l0 k t (i : Int)) (· = (t.data.toList.drop i).all (fun b => b == 63)) := by
  intro d
  induction d with
  | zero =>
    intro i hi
    refine EvP.succ ?_
    simp only [spec_l7Lost.l0]
    exact EvP.no (by omega) (EvP.ret (by rw [List.drop_of_length_le (by rw [list_len]; omega)]; rfl))
  | succ d ih =>
    intro i hi
    have hlt : i < t.size := by omega
    have hl : i < t.data.toList.length := by rw [list_len]; exact hlt
    have e2 : Hd (wrap64 ((i : Int) + 1) = ((i + 1 : Nat) : Int)) := ⟨w64 (by omega) (by omega)⟩
    refine EvP.succ ?_
    simp only [spec_l7Lost.l0]
    refine EvP.yes (by omega) (EvP.yes (by omega) ?_)
    rw [bt_at t i hlt, e2.out, List.drop_eq_getElem_cons hl, List.all_cons, show (63 : UInt8) = UInt8.ofNat 63 from rfl, u8_eq (by omega)]
    refine EvP.ite (fun h => ?_) (fun h => EvP.ret ?_)
    · rw [decide_eq_true (by omega), Bool.true_and]
      exact ih (i + 1) (by omega)
    · rw [decide_eq_false (by omega), Bool.false_and]
theorem spec_lost (t : ByteArray) (ht : t.size ≤ 9223372036854775806) : EvP (fun k => spec_l7Lost.f k t) (· = lostB t) := by
  unfold spec_l7Lost.f
  exact lost_loop t ht t.size 0 (by omega)
theorem read_loop (t : ByteArray) (ht : t.size ≤ 9223372036854775806) : ∀ d i : Nat, i + d = t.size → EvP (fun k => spec_l7Reading.l0 k t (i : Int)) (· = (t.data.toList.drop i).all (fun b => decide (97 ≤ b.toNat) && decide (b.toNat ≤ 100))) := by
  intro d
  induction d with
  | zero =>
    intro i hi
    refine EvP.succ ?_
    simp only [spec_l7Reading.l0]
    exact EvP.no (by omega) (EvP.ret (by rw [List.drop_of_length_le (by rw [list_len]; omega)]; rfl))
  | succ d ih =>
    intro i hi
    have hlt : i < t.size := by omega
    have hl : i < t.data.toList.length := by rw [list_len]; exact hlt
    have e2 : Hd (wrap64 ((i : Int) + 1) = ((i + 1 : Nat) : Int)) := ⟨w64 (by omega) (by omega)⟩
    refine EvP.succ ?_
    simp only [spec_l7Reading.l0]
    refine EvP.yes (by omega) (EvP.yes (by omega) ?_)
    rw [bt_at t i hlt, e2.out, List.drop_eq_getElem_cons hl, List.all_cons]
    refine EvP.ite (fun h => EvP.ret ?_) (fun h => EvP.ite (fun h' => EvP.ret ?_) (fun h' => ?_))
    · rw [decide_eq_false (by omega), Bool.false_and, Bool.false_and]
    · rw [decide_eq_false (p := _ ≤ 100) (by omega), Bool.and_false, Bool.false_and]
    · rw [decide_eq_true (by omega), decide_eq_true (by omega), Bool.true_and, Bool.true_and]
      exact ih (i + 1) (by omega)
theorem spec_read (t : ByteArray) (ht : t.size ≤ 9223372036854775806) : EvP (fun k => spec_l7Reading.f k t) (· = readB t) := by
  unfold spec_l7Reading.f
  exact read_loop t ht t.size 0 (by omega)
theorem dropWhile_nil {α : Type} (p : α → Bool) : ∀ l : List α, l.dropWhile p = [] ↔ l.all p = true
  | [] => by simp
  | a :: l => by
    by_cases h : p a = true
    · rw [List.dropWhile_cons_of_pos h, dropWhile_nil p l, List.all_cons, h, Bool.true_and]
    · rw [List.dropWhile_cons_of_neg h, List.all_cons, Bool.eq_false_iff.mpr h, Bool.false_and]; simp
theorem dropWhile_head {α : Type} (p : α → Bool) : ∀ l : List α, l.dropWhile p = [] ∨ ∃ a l', l.dropWhile p = a :: l' ∧ p a = false
  | [] => .inl rfl
  | a :: l => by
    by_cases h : p a = true
    · rw [List.dropWhile_cons_of_pos h]; exact dropWhile_head p l
    · rw [List.dropWhile_cons_of_neg h]; exact .inr ⟨a, l, rfl, Bool.eq_false_iff.mpr h⟩
theorem trim_nil (l cs : List UInt8) : Lib.trimS l cs = [] ↔ l.all (cs.contains ·) = true := by
  unfold Lib.trimS Lib.trimLeftS Lib.trimRightS
  rw [dropWhile_nil, List.all_reverse]
  refine ⟨fun h => ?_, fun h => ?_⟩
  · rcases dropWhile_head (cs.contains ·) l.reverse with e | ⟨a, l', e, ha⟩
    · rw [dropWhile_nil, List.all_reverse] at e; exact e
    · rw [e, List.all_cons, ha, Bool.false_and] at h; exact absurd h (by decide)
  · have : l.reverse.dropWhile (cs.contains ·) = [] := (dropWhile_nil _ _).mpr (by rw [List.all_reverse]; exact h)
    rw [this]; rfl
theorem trim_some (t c : ByteArray) (ht : t.size ≤ 9223372036854775806) (hc : c.size < 4294967281) (ha : c.data.toList.all (fun b => decide (b.toNat < 128)) = true) : strings_Trim.f t c = some ⟨(Lib.trimS t.data.toList c.data.toList).toArray⟩ := by
  unfold strings_Trim.f
  rw [if_pos (by omega), if_pos hc, if_pos ha]
theorem impl_lost (t : ByteArray) (ht : t.size ≤ 9223372036854775806) (h0 : t.size ≠ 0) : impl_isLost.f t = some (lostB t) := by
  unfold impl_isLost.f
  have hne : ¬ t.toList = ([] : List UInt8) := by
    rw [ByteArray.toList_eq]
    intro e
    have := congrArg List.length e
    rw [list_len] at this
    exact h0 this
  rw [if_neg hne, trim_some t _ ht (by decide) (by decide)]
  simp only [Option.bind_some]
  rw [ByteArray.toList_eq]
  congr 1
  show (Lib.trimS t.data.toList [63] == []) = lostB t
  have h := trim_nil t.data.toList [63]
  have e : (t.data.toList.all (fun b => [63].contains b)) = lostB t := by
    unfold lostB
    congr 1
    funext b
    rw [List.contains_cons]
    simp
  rw [e] at h
  by_cases hl : lostB t = true
  · rw [hl, beq_iff_eq]; exact h.mpr hl
  · rw [Bool.eq_false_iff.mpr hl, beq_eq_false_iff_ne]; exact fun e => hl (h.mp e)
theorem trim_read (t : ByteArray) (ht : t.size ≤ 9223372036854775806) : ∃ r, strings_Trim.f t (⟨#[97, 98, 99, 100]⟩ : ByteArray) = some r ∧ (r.toList = ([] : List UInt8) ↔ readB t = true) := by
  refine ⟨_, trim_some t _ ht (by decide) (by decide), ?_⟩
  rw [ByteArray.toList_eq]
  show Lib.trimS t.data.toList [97, 98, 99, 100] = [] ↔ _
  rw [trim_nil]
  have e : (t.data.toList.all (fun b => [97, 98, 99, 100].contains b)) = readB t := by
    unfold readB
    congr 1
    funext b
    have h : ∀ n : Nat, n < 256 → (b == UInt8.ofNat n) = decide (b.toNat = n) := fun n hn => u8_eq hn
    simp only [List.contains, List.elem]
    rw [show (97 : UInt8) = UInt8.ofNat 97 from rfl, show (98 : UInt8) = UInt8.ofNat 98 from rfl, show (99 : UInt8) = UInt8.ofNat 99 from rfl, show (100 : UInt8) = UInt8.ofNat 100 from rfl, h 97 (by omega), h 98 (by omega), h 99 (by omega), h 100 (by omega)]
    rcases Nat.lt_or_ge b.toNat 97 with g | g
    · rw [decide_eq_false (p := b.toNat = 97) (by omega), decide_eq_false (p := b.toNat = 98) (by omega), decide_eq_false (p := b.toNat = 99) (by omega), decide_eq_false (p := b.toNat = 100) (by omega), decide_eq_false (p := 97 ≤ b.toNat) (by omega)]; rfl
    · rcases Nat.lt_or_ge 100 b.toNat with g' | g'
      · rw [decide_eq_false (p := b.toNat = 97) (by omega), decide_eq_false (p := b.toNat = 98) (by omega), decide_eq_false (p := b.toNat = 99) (by omega), decide_eq_false (p := b.toNat = 100) (by omega), decide_eq_false (p := b.toNat ≤ 100) (by omega), Bool.and_false]
      · rw [decide_eq_true (p := 97 ≤ b.toNat) g, decide_eq_true (p := b.toNat ≤ 100) g', Bool.and_true]
        have : b.toNat = 97 ∨ b.toNat = 98 ∨ b.toNat = 99 ∨ b.toNat = 100 := by omega
        rcases this with e | e | e | e <;> rw [e] <;> rfl
  rw [e]
def goB (n : Nat) : List ByteArray → Int → Int × Bool
  | [], c => (c, true)
  | t :: ts, c => if t.size = n ∧ (readB t = true ∨ lostB t = true) then goB n ts (if lostB t = true then c + 1 else c) else (0, false)
def booksOf (l : List ByteArray) : Int × Bool := if 1 ≤ l.length ∧ l.length ≤ 6 ∧ 1 ≤ (l.getD 0 ByteArray.empty).size ∧ (l.getD 0 ByteArray.empty).size ≤ 8 then goB (l.getD 0 ByteArray.empty).size l 0 else (0, false)
theorem rd0 (l : List ByteArray) : rdOf ByteArray.empty l 0 = l.getD 0 ByteArray.empty := rfl
section
variable (l : List ByteArray) (hl : 1 ≤ l.length ∧ l.length ≤ 6) (hs : ∀ t ∈ l, t.size ≤ 9223372036854775806)
include hl hs
theorem spec_books_loop (_ : 1 ≤ (l.getD 0 ByteArray.empty).size ∧ (l.getD 0 ByteArray.empty).size ≤ 8) : ∀ (d i : Nat) (c : Int), i + d = l.length → 0 ≤ c → c ≤ i → EvP (fun k => spec_l7Books.l0 k l c (i : Int)) (· = goB (l.getD 0 ByteArray.empty).size (l.drop i) c) := by
  intro d
  induction d with
  | zero =>
    intro i c hi hc0 hc1
    refine EvP.succ ?_
    simp only [spec_l7Books.l0]
    exact EvP.no (by omega) (EvP.ret (by rw [List.drop_of_length_le (by omega)]; rfl))
  | succ d ih =>
    intro i c hi hc0 hc1
    have hlt : i < l.length := by omega
    have hsz := hs l[i] (List.getElem_mem hlt)
    have e1 : Hd (wrap64 (c + 1) = c + 1) := ⟨w64 (by omega) (by omega)⟩
    have e2 : Hd (wrap64 ((i : Int) + 1) = ((i + 1 : Nat) : Int)) := ⟨w64 (by omega) (by omega)⟩
    rw [List.drop_eq_getElem_cons hlt, goB]
    have J : ∀ B : Bool, (B = false ↔ (l[i].size = (l.getD 0 ByteArray.empty).size ∧ (readB l[i] = true ∨ lostB l[i] = true))) → EvP (fun k => spec_l7Books.j2 k l c (i : Int) B) (· = if l[i].size = (l.getD 0 ByteArray.empty).size ∧ (readB l[i] = true ∨ lostB l[i] = true) then goB (l.getD 0 ByteArray.empty).size (l.drop (i + 1)) (if lostB l[i] = true then c + 1 else c) else (0, false)) := by
      intro B hB
      refine EvP.succ ?_
      simp only [spec_l7Books.j2]
      refine EvP.ite (fun hb => EvP.ret ?_) (fun hb => ?_)
      · rw [if_neg (fun h => by rw [hB.mpr h] at hb; exact Bool.noConfusion hb)]
      · rw [if_pos (hB.mp (Bool.eq_false_iff.mpr hb))]
        refine EvP.yes (by omega) (EvP.yes (by omega) ?_)
        rw [rd_at hlt, e1.out, e2.out]
        refine EvP.bind (spec_lost _ hsz) (fun _ e => ?_)
        subst e
        refine EvP.ite (fun h => ?_) (fun h => ?_)
        · rw [if_pos h]; exact ih (i + 1) (c + 1) (by omega) (by omega) (by omega)
        · rw [if_neg h]; exact ih (i + 1) c (by omega) hc0 (by omega)
    refine EvP.succ ?_
    simp only [spec_l7Books.l0]
    refine EvP.yes (by omega) (EvP.yes (by omega) (EvP.yes (by omega) ?_))
    rw [rd_at hlt, rd0]
    refine EvP.ite (fun hz => ?_) (fun hz => J true ⟨fun h => Bool.noConfusion h, fun h => absurd (by rw [h.1]) hz⟩)
    have hz : l[i].size = (l.getD 0 ByteArray.empty).size := by omega
    refine EvP.bind (spec_read _ hsz) (fun _ e => ?_)
    subst e
    refine EvP.ite (fun h => J false ⟨fun _ => ⟨hz, .inl h⟩, fun _ => rfl⟩) (fun h => ?_)
    refine EvP.bind (spec_lost _ hsz) (fun _ e => ?_)
    subst e
    refine J _ ⟨fun h' => ⟨hz, .inr (by simpa using h')⟩, fun h' => ?_⟩
    rcases h'.2 with h' | h'
    · exact absurd h' h
    · rw [h']; rfl
theorem impl_books_loop : ∀ (d i : Nat) (c : Int), i + d = l.length → 0 ≤ c → c ≤ i → (i = 0 → 0 < d) → EvP (fun k => impl_lostOf.l0 k l c l (l.length : Int) (i : Int)) (· = if 1 ≤ (l.getD 0 ByteArray.empty).size ∧ (l.getD 0 ByteArray.empty).size ≤ 8 ∨ d = 0 then goB (l.getD 0 ByteArray.empty).size (l.drop i) c else (0, false)) := by
  intro d
  induction d with
  | zero =>
    intro i c hi hc0 hc1 _
    refine EvP.succ ?_
    simp only [impl_lostOf.l0]
    exact EvP.no (by omega) (EvP.ret (by rw [List.drop_of_length_le (by omega), if_pos (.inr trivial)]; rfl))
  | succ d ih =>
    intro i c hi hc0 hc1 _
    have hlt : i < l.length := by omega
    have hsz := hs l[i] (List.getElem_mem hlt)
    have e1 : Hd (wrap64 (c + 1) = c + 1) := ⟨w64 (by omega) (by omega)⟩
    have e2 : Hd (wrap64 ((i : Int) + 1) = ((i + 1 : Nat) : Int)) := ⟨w64 (by omega) (by omega)⟩
    rw [List.drop_eq_getElem_cons hlt, goB]
    have bad : ∀ v, v = ((0, false) : Int × Bool) → EvP (fun k => impl_lostOf.j2 k l c l[i] l (l.length : Int) (i : Int) true) (· = v) := by
      intro v hv
      refine EvP.succ ?_
      simp only [impl_lostOf.j2]
      exact EvP.yes trivial (EvP.ret hv.symm)
    refine EvP.succ ?_
    simp only [impl_lostOf.l0]
    refine EvP.yes (by omega) (EvP.yes (by omega) (EvP.yes (by omega) (EvP.yes (by omega) ?_)))
    rw [rd_at hlt, rd0]
    refine EvP.ite (fun hz => ?_) (fun hz => bad _ ?_)
    · have hz : l[i].size = (l.getD 0 ByteArray.empty).size := by omega
      refine EvP.ite (fun he => bad _ ?_) (fun he => ?_)
      · have : l[i].size = 0 := by
          rw [ByteArray.toList_eq] at he
          rw [← list_len, he]; rfl
        rw [if_neg (by omega)]
      · have hpos : l[i].size ≠ 0 := by
          intro h
          apply he
          rw [ByteArray.toList_eq]
          exact List.eq_nil_of_length_eq_zero (by rw [list_len]; exact h)
        by_cases h8 : (l[i].size : Int) > 8
        · rw [decide_eq_true h8]
          exact bad _ (by rw [if_neg (by omega)])
        · rw [decide_eq_false h8]
          rw [if_pos (.inl (by omega))]
          refine EvP.succ ?_
          simp only [impl_lostOf.j2]
          refine EvP.no (by decide) ?_
          rw [impl_lost _ hsz hpos, e1.out, e2.out]
          refine EvP.bind (P := (· = lostB l[i])) (EvP.ret rfl) (fun _ e => ?_)
          subst e
          refine EvP.ite (fun h => ?_) (fun h => ?_)
          · rw [if_pos ⟨hz, .inr h⟩, if_pos h]
            have := ih (i + 1) (c + 1) (by omega) (by omega) (by omega) (by omega)
            rw [if_pos (.inl (by omega))] at this
            exact this
          · obtain ⟨r, hr, hn⟩ := trim_read _ hsz
            rw [hr]
            refine EvP.bind (P := (· = r)) (EvP.ret rfl) (fun _ e => ?_)
            subst e
            refine EvP.ite (fun h' => ?_) (fun h' => EvP.ret ?_)
            · rw [if_pos ⟨hz, .inl (hn.mp h')⟩, if_neg h]
              have := ih (i + 1) c (by omega) hc0 (by omega) (by omega)
              rw [if_pos (.inl (by omega))] at this
              exact this
            · rw [if_neg (fun hh => hh.2.elim (fun a => h' (hn.mpr a)) (fun a => h a))]
    · rw [if_neg (fun h : l[i].size = _ ∧ _ => hz (by rw [h.1]))]
      split <;> rfl
end
theorem spec_books (l : List ByteArray) (hs : ∀ t ∈ l, t.size ≤ 9223372036854775806) : EvP (fun k => spec_l7Books.f k l) (· = booksOf l) := by
  unfold spec_l7Books.f spec_l6In.f
  have bad : ∀ v, v = ((0, false) : Int × Bool) → EvP (fun k => spec_l7Books.j0 k l 0 true) (· = v) := by
    intro v hv
    refine EvP.succ ?_
    simp only [spec_l7Books.j0]
    exact EvP.yes trivial (EvP.ret hv.symm)
  refine EvP.bind (P := (· = (decide (1 ≤ l.length ∧ l.length ≤ 6)))) ?_ (fun _ e => ?_)
  · refine EvP.ite (fun h => EvP.ret ?_) (fun h => EvP.ret ?_)
    · exact decide_eq_decide.mpr (by omega)
    · rw [decide_eq_false (by omega)]
  subst e
  refine EvP.ite (fun h => ?_) (fun h => bad _ ?_)
  · have hl := of_decide_eq_true h
    refine EvP.yes (by omega) ?_
    rw [rd0 l]
    refine EvP.bind (P := (· = (decide (1 ≤ (l.getD 0 ByteArray.empty).size ∧ (l.getD 0 ByteArray.empty).size ≤ 8)))) ?_ (fun _ e => ?_)
    · refine EvP.ite (fun h => EvP.ret ?_) (fun h => EvP.ret ?_)
      · exact decide_eq_decide.mpr (by omega)
      · rw [decide_eq_false (by omega)]
    subst e
    by_cases h8 : 1 ≤ (l.getD 0 ByteArray.empty).size ∧ (l.getD 0 ByteArray.empty).size ≤ 8
    · rw [decide_eq_true h8]
      refine EvP.succ ?_
      simp only [spec_l7Books.j0]
      refine EvP.no (by decide) ?_
      unfold booksOf
      rw [if_pos ⟨hl.1, hl.2, h8.1, h8.2⟩]
      exact spec_books_loop l hl hs h8 l.length 0 0 (by omega) (by omega) (by omega)
    · rw [decide_eq_false h8]
      refine bad _ ?_
      unfold booksOf
      rw [if_neg (fun hh => h8 ⟨hh.2.2.1, hh.2.2.2⟩)]
  · unfold booksOf
    rw [if_neg (fun hh => h (decide_eq_true ⟨hh.1, hh.2.1⟩))]
theorem impl_books (l : List ByteArray) (hs : ∀ t ∈ l, t.size ≤ 9223372036854775806) : EvP (fun k => impl_lostOf.f k l) (· = booksOf l) := by
  unfold impl_lostOf.f
  have bad : ∀ v, v = ((0, false) : Int × Bool) → EvP (fun k => impl_lostOf.j0 k l true) (· = v) := by
    intro v hv
    refine EvP.succ ?_
    simp only [impl_lostOf.j0]
    exact EvP.yes trivial (EvP.ret hv.symm)
  refine EvP.ite (fun h => bad _ ?_) (fun h => ?_)
  · unfold booksOf; rw [if_neg (fun hh => by omega)]
  by_cases h6 : (l.length : Int) > 6
  · rw [decide_eq_true h6]
    exact bad _ (by unfold booksOf; rw [if_neg (fun hh => by omega)])
  rw [decide_eq_false h6]
  have hl : 1 ≤ l.length ∧ l.length ≤ 6 := by omega
  refine EvP.succ ?_
  simp only [impl_lostOf.j0]
  refine EvP.no (by decide) ?_
  have := impl_books_loop l hl hs l.length 0 0 (by omega) (by omega) (by omega) (by omega)
  refine this.mono (fun r e => ?_)
  rw [e]
  unfold booksOf
  by_cases h8 : 1 ≤ (l.getD 0 ByteArray.empty).size ∧ (l.getD 0 ByteArray.empty).size ≤ 8
  · rw [if_pos (.inl h8), if_pos ⟨hl.1, hl.2, h8.1, h8.2⟩]; rfl
  · rw [if_neg (fun hh => hh.elim h8 (by omega)), if_neg (fun hh => h8 ⟨hh.2.2.1, hh.2.2.2⟩)]
def okBooks (l : List ByteArray) : Bool := (booksOf l).2 && ((booksOf l).1 == 0)
theorem spec_okBooks (l : List ByteArray) (hs : ∀ t ∈ l, t.size ≤ 9223372036854775806) : EvP (fun k => spec_BooksValid.f k l) (· = okBooks l) := by
  unfold spec_BooksValid.f okBooks
  refine EvP.bind (spec_books l hs) (fun _ e => ?_)
  subst e
  refine EvP.ite (fun h => EvP.ret (by rw [h, Bool.true_and])) (fun h => EvP.ret (by rw [Bool.eq_false_iff.mpr h, Bool.false_and]))
theorem impl_okBooks (l : List ByteArray) (hs : ∀ t ∈ l, t.size ≤ 9223372036854775806) : EvP (fun k => impl_BooksValid.f k l) (· = okBooks l) := by
  unfold impl_BooksValid.f okBooks
  refine EvP.bind (impl_books l hs) (fun _ e => ?_)
  subst e
  refine EvP.ite (fun h => EvP.ret (by rw [h, Bool.true_and])) (fun h => EvP.ret (by rw [Bool.eq_false_iff.mpr h, Bool.false_and]))
end Go.Proofs.YtejoneninbdjbaaDoor.Pur
end
section
namespace Go.Proofs.YtejoneninbdjbaaDoor.E
open Go.RowKit Go.Proofs.YtejoneninbdjbaaDoorW.PrintWords Go.Proofs.YtejoneninbdjbaaDoorW.PrintLast Go.Proofs.YtejoneninbdjbaaDoorW.PrintMore
attribute [local go_sem] max2_int min2_int max_two min_two max_three min_three max_four min_four
set_option linter.unusedVariables false
set_option linter.unusedSimpArgs false
attribute [local go_sem] str_leq_ str_gtr_ str_geq_
def laws_szStringS.l0 : Nat → List ByteArray → Int → Int → Option (Int)
 | 0, _, _, _ => none
 | k + 1, x0, x1, x5 => if x5 < (x0.length : Int) then (if 0 ≤ x5 then (if (wrap64 (x1 - ((rdOf ByteArray.empty x0 x5).size : Int))) < 0 then (some (-1)) else (laws_szStringS.l0 k x0 (wrap64 (x1 - ((rdOf ByteArray.empty x0 x5).size : Int))) (wrap64 (x5 + 1)))) else (none)) else (some x1)
def laws_szStringS.f (k : Nat) (l0 : List ByteArray) (a1 : Int) : Option (Int) := if (wrap64 (a1 - (l0.length : Int))) < 0 then (some (-1)) else (laws_szStringS.l0 k l0 (wrap64 (a1 - (l0.length : Int))) 0)
end Go.Proofs.YtejoneninbdjbaaDoor.E
end
section
namespace Go.Proofs.YtejoneninbdjbaaDoor.E
open Go.RowKit Go.Proofs.YtejoneninbdjbaaDoorW.PrintWords Go.Proofs.YtejoneninbdjbaaDoorW.PrintLast Go.Proofs.YtejoneninbdjbaaDoorW.PrintMore
attribute [local go_sem] max2_int min2_int max_two min_two max_three min_three max_four min_four
set_option linter.unusedVariables false
set_option linter.unusedSimpArgs false
attribute [local go_sem] str_leq_ str_gtr_ str_geq_
def laws_eqStringS.l0 : Nat → List ByteArray → List ByteArray → Int → Option (Bool)
 | 0, _, _, _ => none
 | k + 1, x0, x1, x5 => if x5 < (x0.length : Int) then (if 0 ≤ x5 then (if x5 < (x1.length : Int) then (if (rdOf ByteArray.empty x0 x5).toList = (rdOf ByteArray.empty x1 x5).toList then (laws_eqStringS.l0 k x0 x1 (wrap64 (x5 + 1))) else (some false)) else (none)) else (none)) else (some true)
def laws_eqStringS.f (k : Nat) (l0 : List ByteArray) (l1 : List ByteArray) : Option (Bool) := if (l0.length : Int) = (l1.length : Int) then (laws_eqStringS.l0 k l0 l1 0) else (some false)
end Go.Proofs.YtejoneninbdjbaaDoor.E
end
section
namespace Go.Proofs.YtejoneninbdjbaaDoor.E
open Go.RowKit Go.Proofs.YtejoneninbdjbaaDoorW.PrintWords Go.Proofs.YtejoneninbdjbaaDoorW.PrintLast Go.Proofs.YtejoneninbdjbaaDoorW.PrintMore
attribute [local go_sem] max2_int min2_int max_two min_two max_three min_three max_four min_four
set_option linter.unusedVariables false
set_option linter.unusedSimpArgs false
attribute [local go_sem] str_leq_ str_gtr_ str_geq_
def laws_toStringS.l0 : Nat → List ByteArray → List ByteArray → Int → Option (List ByteArray)
 | 0, _, _, _ => none
 | k + 1, x0, x3, x4 => if x4 < (x0.length : Int) then (if 0 ≤ x4 then (if x4 < (x3.length : Int) then (laws_toStringS.l0 k x0 (x3.set (x4 : Int).toNat (rdOf ByteArray.empty x0 x4)) (wrap64 (x4 + 1))) else (none)) else (none)) else (some x3)
def laws_toStringS.f (k : Nat) (l0 : List ByteArray) : Option (List ByteArray) := if 0 ≤ (l0.length : Int) then (if ((l0.length : Int) : Int).toNat ≤ 17592186044416 then (laws_toStringS.l0 k l0 (List.replicate ((l0.length : Int) : Int).toNat (⟨#[]⟩ : ByteArray)) 0) else (none)) else (none)
end Go.Proofs.YtejoneninbdjbaaDoor.E
end
section
namespace Go.Proofs.YtejoneninbdjbaaDoor.E
open Go.RowKit Go.Proofs.YtejoneninbdjbaaDoorW.PrintWords Go.Proofs.YtejoneninbdjbaaDoorW.PrintLast Go.Proofs.YtejoneninbdjbaaDoorW.PrintMore
attribute [local go_sem] max2_int min2_int max_two min_two max_three min_three max_four min_four
set_option linter.unusedVariables false
set_option linter.unusedSimpArgs false
attribute [local go_sem] str_leq_ str_gtr_ str_geq_
def spec_l7Far.l0 : Nat → ByteArray → ByteArray → Int → Int → Option (Int)
 | 0, _, _, _, _ => none
 | k + 1, x0, x1, x5, x6 => if x6 < (x0.size : Int) then (if 0 ≤ x6 then (if x6 < (x1.size : Int) then (if (bt x0 x6) = (bt x1 x6) then (spec_l7Far.l0 k x0 x1 x5 (wrap64 (x6 + 1))) else (spec_l7Far.l0 k x0 x1 (wrap64 (x5 + 1)) (wrap64 (x6 + 1)))) else (none)) else (none)) else (some x5)
def spec_l7Far.f (k : Nat) (a0 : ByteArray) (a1 : ByteArray) : Option (Int) := spec_l7Far.l0 k a0 a1 0 0
end Go.Proofs.YtejoneninbdjbaaDoor.E
end
section
namespace Go.Proofs.YtejoneninbdjbaaDoor.E
open Go.RowKit Go.Proofs.YtejoneninbdjbaaDoorW.PrintWords Go.Proofs.YtejoneninbdjbaaDoorW.PrintLast Go.Proofs.YtejoneninbdjbaaDoorW.PrintMore
attribute [local go_sem] max2_int min2_int max_two min_two max_three min_three max_four min_four
set_option linter.unusedVariables false
set_option linter.unusedSimpArgs false
attribute [local go_sem] str_leq_ str_gtr_ str_geq_
def spec_BooksFar.f (k : Nat) (l0 : List ByteArray) (a1 : Int) (a2 : Int) : Option (Int) := (spec_BooksValid.f k l0).bind fun t142 => (if t142 = true then ((spec_l6In.f a1 0 (wrap64 ((l0.length : Int) - 1))).bind fun t143 => (if t143 = true then ((spec_l6In.f a2 0 (wrap64 ((l0.length : Int) - 1))).bind fun t144 => (if t144 = true then (if 0 ≤ a1 then (if a1 < (l0.length : Int) then (if 0 ≤ a2 then (if a2 < (l0.length : Int) then ((spec_l7Far.f k (rdOf ByteArray.empty l0 a1) (rdOf ByteArray.empty l0 a2)).bind fun t147 => (some t147)) else (none)) else (none)) else (none)) else (none)) else (some (-1)))) else (some (-1)))) else (some (-1)))
end Go.Proofs.YtejoneninbdjbaaDoor.E
end
section
namespace Go.Proofs.YtejoneninbdjbaaDoor.E
open Go.RowKit Go.Proofs.YtejoneninbdjbaaDoorW.PrintWords Go.Proofs.YtejoneninbdjbaaDoorW.PrintLast Go.Proofs.YtejoneninbdjbaaDoorW.PrintMore
attribute [local go_sem] max2_int min2_int max_two min_two max_three min_three max_four min_four
set_option linter.unusedVariables false
set_option linter.unusedSimpArgs false
attribute [local go_sem] str_leq_ str_gtr_ str_geq_
def laws_FnExactBooksFar.f (k : Nat) (l0 : List ByteArray) (a1 : Int) (a2 : Int) : Option (Bool) := (laws_szStringS.f k l0 1048576).bind fun t152 => (if t152 < 0 then (some true) else ((laws_toStringS.f k l0).bind fun t153 => ((spec_BooksFar.f k t153 a1 a2).bind fun t156 => ((laws_toStringS.f k l0).bind fun t157 => ((impl_BooksFar.f k t157 a1 a2).bind fun t160 => (if t160 = t156 then ((laws_toStringS.f k l0).bind fun t161 => ((laws_eqStringS.f k t157 t161).bind fun t164 => (if t164 = true then (some true) else (some false)))) else (some false)))))))
end Go.Proofs.YtejoneninbdjbaaDoor.E
end
section
namespace Go.Proofs.YtejoneninbdjbaaDoor.Pur
open Go.RowKit Go.Proofs.YtejoneninbdjbaaDoorW.PrintWords Go.Proofs.YtejoneninbdjbaaDoorW.PrintMore Go.Proofs.YtejoneninbdjbaaDoor.E
def diffs : List UInt8 → List UInt8 → Nat
  | a :: x, b :: y => (if a = b then 0 else 1) + diffs x y
  | _, _ => 0
def farT (s t : ByteArray) : Int := (diffs s.data.toList t.data.toList : Nat)
theorem diffs_zero : ∀ x y : List UInt8, x.length = y.length → (diffs x y = 0 ↔ x = y)
  | a :: x, b :: y, h => by
    have ih := diffs_zero x y (by simpa using h)
    rw [diffs]
    by_cases e : a = b
    · rw [if_pos e, e, Nat.zero_add, ih]; simp
    · rw [if_neg e]; simp [e]
  | [], [], _ => by simp [diffs]
  | [], _ :: _, h => by simp at h
  | _ :: _, [], h => by simp at h
theorem impl_far_loop (s t : ByteArray) (hs : s.size ≤ 1048576) (ht : s.size ≤ t.size) : ∀ (d i : Nat) (n : Int), i + d = s.size → 0 ≤ n → n ≤ i → EvP (fun k => impl_farBetween.l0 k s t n (s.size : Int) (i : Int)) (· = n + (diffs (s.data.toList.drop i) (t.data.toList.drop i) : Nat)) := by
  intro d
  induction d with
  | zero =>
    intro i n hi h0 h1
    refine EvP.succ ?_
    simp only [impl_farBetween.l0]
    refine EvP.no (by omega) (EvP.ret ?_)
    rw [List.drop_of_length_le (show s.data.toList.length ≤ i by rw [list_len]; omega)]
    simp [diffs]
  | succ d ih =>
    intro i n hi h0 h1
    have hlt : i < s.size := by omega
    have hlt' : i < t.size := by omega
    have e1 : Hd (wrap64 (n + 1) = n + 1) := ⟨w64 (by omega) (by omega)⟩
    have e2 : Hd (wrap64 ((i : Int) + 1) = ((i + 1 : Nat) : Int)) := ⟨w64 (by omega) (by omega)⟩
    refine EvP.succ ?_
    simp only [impl_farBetween.l0]
    refine EvP.yes (by omega) (EvP.yes (by omega) (EvP.yes (by omega) (EvP.yes (by omega) ?_)))
    rw [bt_at s i hlt, bt_at t i hlt', e1.out, e2.out, List.drop_eq_getElem_cons (show i < s.data.toList.length by rw [list_len]; exact hlt), List.drop_eq_getElem_cons (show i < t.data.toList.length by rw [list_len]; exact hlt'), diffs]
    refine EvP.ite (fun h => ?_) (fun h => ?_)
    · rw [if_pos (UInt8.toNat_inj.mp (by omega)), Nat.zero_add]
      exact ih (i + 1) n (by omega) h0 (by omega)
    · rw [if_neg (fun e => h (by rw [e]))]
      refine (ih (i + 1) (n + 1) (by omega) (by omega) (by omega)).mono (fun r e => by rw [e]; omega)
theorem impl_far (s t : ByteArray) (hs : s.size ≤ 1048576) (ht : s.size ≤ t.size) : EvP (fun k => impl_farBetween.f k s t) (· = farT s t) := by
  unfold impl_farBetween.f
  refine (impl_far_loop s t hs ht s.size 0 0 (by omega) (by omega) (by omega)).mono (fun r e => by rw [e]; unfold farT; simp)
theorem goB_ok (n : Nat) : ∀ (l : List ByteArray) (c : Int), (goB n l c).2 = true → ∀ t ∈ l, t.size = n ∧ (readB t = true ∨ lostB t = true)
  | [], _, _, _, h => by cases h
  | t :: ts, c, h, x, hx => by
    rw [goB] at h
    by_cases g : t.size = n ∧ (readB t = true ∨ lostB t = true)
    · rw [if_pos g] at h
      rcases List.mem_cons.mp hx with rfl | hx
      · exact g
      · exact goB_ok n ts _ h x hx
    · rw [if_neg g] at h
      exact absurd h (by decide)
theorem books_ok {l : List ByteArray} (h : (booksOf l).2 = true) : 1 ≤ l.length ∧ l.length ≤ 6 ∧ ∃ n : Nat, 1 ≤ n ∧ n ≤ 8 ∧ ∀ t ∈ l, t.size = n ∧ (readB t = true ∨ lostB t = true) := by
  unfold booksOf at h
  by_cases g : 1 ≤ l.length ∧ l.length ≤ 6 ∧ 1 ≤ (l.getD 0 ByteArray.empty).size ∧ (l.getD 0 ByteArray.empty).size ≤ 8
  · rw [if_pos g] at h
    exact ⟨g.1, g.2.1, _, g.2.2.1, g.2.2.2, goB_ok _ l 0 h⟩
  · rw [if_neg g] at h
    exact absurd h (by decide)
theorem okBooks_ok {l : List ByteArray} (h : okBooks l = true) : 1 ≤ l.length ∧ l.length ≤ 6 ∧ ∃ n : Nat, 1 ≤ n ∧ n ≤ 8 ∧ ∀ t ∈ l, t.size = n ∧ (readB t = true ∨ lostB t = true) := by
  unfold okBooks at h
  rw [Bool.and_eq_true] at h
  exact books_ok h.1
def farOf (l : List ByteArray) (i k : Int) : Int := if okBooks l = true ∧ 0 ≤ i ∧ i < l.length ∧ 0 ≤ k ∧ k < l.length then farT (rdOf ByteArray.empty l i) (rdOf ByteArray.empty l k) else -1
theorem rd_mem {l : List ByteArray} {i : Int} (h0 : 0 ≤ i) (h1 : i < l.length) : rdOf ByteArray.empty l i ∈ l := by
  obtain ⟨j, rfl⟩ := Int.eq_ofNat_of_zero_le h0
  rw [rd_at (by omega)]
  exact List.getElem_mem _
theorem impl_farOf (l : List ByteArray) (i k : Int) (hs : ∀ t ∈ l, t.size ≤ 9223372036854775806) : EvP (fun n => impl_BooksFar.f n l i k) (· = farOf l i k) := by
  unfold impl_BooksFar.f farOf
  refine EvP.bind (impl_okBooks l hs) (fun _ e => ?_)
  subst e
  refine EvP.ite (fun ho => ?_) (fun ho => EvP.ret (by rw [if_neg (fun h => ho h.1)]))
  obtain ⟨l1, l6, n, n1, n8, hn⟩ := okBooks_ok ho
  have m1 : ¬ mn i k < 0 ↔ 0 ≤ i ∧ 0 ≤ k := by unfold mn; omega
  have m2 : ¬ mx i k ≥ (l.length : Int) ↔ i < l.length ∧ k < l.length := by unfold mx; omega
  refine EvP.ite (fun h => EvP.ret (by rw [if_neg (fun hh => m1.mpr ⟨hh.2.1, hh.2.2.2.1⟩ h)])) (fun h1 => ?_)
  have h1 := m1.mp h1
  refine EvP.ite (fun h => EvP.ret (by rw [if_neg (fun hh => m2.mpr ⟨hh.2.2.1, hh.2.2.2.2⟩ h)])) (fun h2 => ?_)
  have h2 := m2.mp h2
  have s1 := (hn _ (rd_mem h1.1 h2.1)).1
  have s2 := (hn _ (rd_mem h1.2 h2.2)).1
  refine EvP.yes h1.1 (EvP.yes h2.1 (EvP.yes h1.2 (EvP.yes h2.2 ?_)))
  rw [if_pos ⟨ho, h1.1, h2.1, h1.2, h2.2⟩]
  exact EvP.bind (impl_far _ _ (by omega) (by omega)) (fun _ e => EvP.ret e)
end Go.Proofs.YtejoneninbdjbaaDoor.Pur
end
section
namespace Go.Proofs.YtejoneninbdjbaaDoor.Pur
open Go.RowKit Go.Proofs.YtejoneninbdjbaaDoorW.PrintWords Go.Proofs.YtejoneninbdjbaaDoorW.PrintMore Go.Proofs.YtejoneninbdjbaaDoor.E
def FewB (q : Int) (r : List ByteArray × Int) : Prop := r.1.length ≤ 5 ∧ (∀ t ∈ r.1, t.size ≤ 5) ∧ 0 ≤ r.2 ∧ r.2 ≤ q
section
variable {B : List Int} (hB : okB B) (lost : Bool) (n m : Nat) (hn : 1 ≤ n ∧ n ≤ 5) (hm : 1 ≤ m ∧ m ≤ 4)
include hB hn hm
theorem books_end (acc : List ByteArray) (ha : acc.length = n) (hs : ∀ t ∈ acc, t.size = m) (p q : Int) (hp : 0 ≤ p ∧ p ≤ 100000) (hq : p + 1 ≤ q) : EvP (fun k => spec_l92Books.l0 k lost acc (n : Int) (m : Int) (n : Int) B p) (FewB q) := by
  have hs5 : ∀ t ∈ acc, t.size ≤ 5 := fun t ht => by rw [hs t ht]; omega
  have set5 : ∀ (j : Nat) (v : ByteArray), v.size ≤ 5 → ∀ t ∈ acc.set j v, t.size ≤ 5 := by
    intro j v hv t ht
    rcases List.mem_or_eq_of_mem_set ht with h | h
    · exact hs5 t h
    · rw [h]; exact hv
  refine EvP.succ ?_
  simp only [spec_l92Books.l0]
  refine EvP.no (by omega) ?_
  refine EvP.bind (pick_ok hB p 40 (by omega) (by omega)) (fun r hr => ?_)
  have m0 := hs _ (rd_mem (l := acc) (i := 0) (by omega) (by omega))
  have m1 := hs _ (rd_mem (l := acc) (i := ((n - 1 : Nat) : Int)) (by omega) (by omega))
  have e1 : Hd (wrap64 ((n : Int) - 1) = ((n - 1 : Nat) : Int)) := ⟨by rw [w64 (by omega) (by omega)]; omega⟩
  simp only [e1.out]
  refine EvP.ite (fun _ => EvP.yes (by omega) (EvP.yes (by omega) (EvP.ret ⟨by simp; omega, set5 _ _ (by rw [ByteArray.size_append]; show _ + 1 ≤ 5; omega), by dsimp only; omega, by dsimp only; omega⟩))) (fun _ => ?_)
  refine EvP.ite (fun _ => ?_) (fun _ => EvP.ite (fun _ => EvP.ret ⟨by simp, (fun t ht => (by cases ht)), by dsimp only; omega, by dsimp only; omega⟩) (fun _ => EvP.ret ⟨by dsimp only; omega, hs5, by dsimp only; omega, by dsimp only; omega⟩))
  refine EvP.yes (by omega) (EvP.yes (by omega) (EvP.yes (by omega) (EvP.yes (by rw [ByteArray.size_extract]; omega) (EvP.ret ⟨by simp; omega, set5 _ _ (by rw [ByteArray.size_append, ByteArray.size_extract]; show 1 + _ ≤ 5; omega), by dsimp only; omega, by dsimp only; omega⟩))))
theorem letters_loop (acc : List ByteArray) (i : Nat) (hi : i < n) (ha : acc.length = i) (hs : ∀ t ∈ acc, t.size = m) (Q : List ByteArray × Int → Prop) (p0 : Int) (next : ∀ (t : ByteArray) (p : Int), t.size = m → 0 ≤ p → p ≤ p0 + 9 → EvP (fun k => spec_l92Books.l0 k lost (acc ++ [t]) (n : Int) (m : Int) ((i + 1 : Nat) : Int) B p) Q) :
    ∀ (d j : Nat) (s : ByteArray) (p : Int), j + d = m → s.size = j → 0 ≤ p → p ≤ p0 + 2 * j → p0 ≤ 90000 → EvP (fun k => spec_l92Books.l1 k lost acc (n : Int) (m : Int) (i : Int) s (j : Int) B p) Q := by
  intro d
  induction d with
  | zero =>
    intro j s p hj hsz hp0 hp1 hb
    have e1 : Hd (wrap64 ((i : Int) + 1) = ((i + 1 : Nat) : Int)) := ⟨w64 (by omega) (by omega)⟩
    refine EvP.succ ?_
    simp only [spec_l92Books.l1, e1.out]
    refine EvP.no (by omega) (EvP.ite (fun _ => ?_) (fun _ => EvP.yes (by omega) (next s p (by omega) hp0 (by omega))))
    refine EvP.bind (pick_ok hB p 3 (by omega) (by omega)) (fun r hr => ?_)
    refine EvP.ite (fun _ => EvP.yes (by omega) (EvP.yes (by omega) (EvP.yes (by omega) (next _ r.2 ?_ (by omega) (by omega))))) (fun _ => EvP.yes (by omega) (next s r.2 (by omega) (by omega) (by omega)))
    rw [ByteArray.size_extract, toNat_nat]
    show min m 4 - 0 = m
    omega
  | succ d ih =>
    intro j s p hj hsz hp0 hp1 hb
    have e1 : Hd (wrap64 ((j : Int) + 1) = ((j + 1 : Nat) : Int)) := ⟨w64 (by omega) (by omega)⟩
    have letter : ∀ p' : Int, 0 ≤ p' → p' ≤ p0 + 2 * j + 1 → EvP (fun k => (spec_l6Rd_of.f k B p' (([(⟨#[97]⟩ : ByteArray), (⟨#[98]⟩ : ByteArray), (⟨#[99]⟩ : ByteArray), (⟨#[97]⟩ : ByteArray), (⟨#[100]⟩ : ByteArray)] : List ByteArray))).bind fun bt => (if s.size + bt.1.size ≤ 9223372036854775807 then (spec_l92Books.l1 k lost acc (n : Int) (m : Int) (i : Int) (s ++ bt.1) ((j + 1 : Nat) : Int) B bt.2) else (none))) Q := by
      intro p' h0 h1
      refine EvP.bind (of_size hB p' (by omega) _ (by simp) 1 (by intro t ht; simp only [List.mem_cons, List.not_mem_nil, or_false] at ht; rcases ht with rfl | rfl | rfl | rfl | rfl <;> exact Nat.le_refl 1)) (fun r hr => ?_)
      have h1' : r.1.size = 1 := by
        have := hr.2.1
        simp only [List.mem_cons, List.not_mem_nil, or_false] at this
        rcases this with e | e | e | e | e <;> rw [e] <;> rfl
      exact EvP.yes (by omega) (ih (j + 1) _ r.2 (by omega) (by rw [ByteArray.size_append]; omega) (by omega) (by omega) hb)
    refine EvP.succ ?_
    simp only [spec_l92Books.l1, e1.out]
    refine EvP.yes (by omega) (EvP.ite (fun hpos => ?_) (fun _ => letter p hp0 (by omega)))
    have e3 : Hd (wrap64 ((i : Int) - 1) = ((i - 1 : Nat) : Int)) := ⟨by rw [w64 (by omega) (by omega)]; omega⟩
    have mm := hs _ (rd_mem (l := acc) (i := ((i - 1 : Nat) : Int)) (by omega) (by omega))
    simp only [e3.out]
    refine EvP.bind (pick_ok hB p 3 (by omega) (by omega)) (fun r hr => ?_)
    refine EvP.ite (fun _ => ?_) (fun _ => letter r.2 (by omega) (by omega))
    refine EvP.yes (by omega) (EvP.yes (by omega) (EvP.yes (by omega) (EvP.yes (by omega) (EvP.ite (fun _ => letter r.2 (by omega) (by omega)) (fun _ => ?_)))))
    have es : ((rdOf ByteArray.empty acc ((i - 1 : Nat) : Int)).extract j (j + 1)).size = 1 := by rw [ByteArray.size_extract]; omega
    rw [toNat_nat, toNat_nat]
    exact EvP.yes (by omega) (EvP.yes (by omega) (EvP.yes (by omega) (ih (j + 1) _ r.2 (by omega) (by rw [ByteArray.size_append, es]; omega) (by omega) (by omega) hb)))
theorem books_loop (q : Int) (hq : q ≤ 90000) : ∀ (d i : Nat) (acc : List ByteArray) (p : Int), i + d = n → acc.length = i → (∀ t ∈ acc, t.size = m) → 0 ≤ p → p + 9 * (d : Int) + 1 ≤ q → EvP (fun k => spec_l92Books.l0 k lost acc (n : Int) (m : Int) (i : Int) B p) (FewB q) := by
  intro d
  induction d with
  | zero =>
    intro i acc p hi ha hs hp0 hp1
    obtain rfl : i = n := by omega
    exact books_end hB lost i m hn hm acc ha hs p q (by omega) (by omega)
  | succ d ih =>
    intro i acc p hi ha hs hp0 hp1
    refine EvP.succ ?_
    simp only [spec_l92Books.l0]
    refine EvP.yes (by omega) ?_
    refine letters_loop hB lost n m hn hm acc i (by omega) ha hs _ p (fun t p' ht h0 h1 => ?_) m 0 ⟨#[]⟩ p (by omega) rfl hp0 (by omega) (by omega)
    refine ih (i + 1) _ p' (by omega) (by simp; omega) (fun x hx => ?_) h0 (by omega)
    rcases List.mem_append.mp hx with hx | hx
    · exact hs x hx
    · rw [List.mem_singleton.mp hx]; exact ht
end
theorem drawn_books {B : List Int} (hB : okB B) (lost : Bool) (p : Int) (hp : 0 ≤ p ∧ p ≤ 1000) : EvP (fun k => spec_l92Books.f k B p lost) (FewB (p + 60)) := by
  unfold spec_l92Books.f
  refine EvP.bind (pick_ok hB p 5 (by omega) (by omega)) (fun r hr => ?_)
  refine EvP.bind (pick_ok hB r.2 4 (by omega) (by omega)) (fun q hq => ?_)
  obtain ⟨n, hn⟩ := Int.eq_ofNat_of_zero_le hr.1
  obtain ⟨m, hm⟩ := Int.eq_ofNat_of_zero_le hq.1
  rw [show wrap64 (1 + r.1) = ((n + 1 : Nat) : Int) by rw [w64 (by omega) (by omega)]; omega, show wrap64 (1 + q.1) = ((m + 1 : Nat) : Int) by rw [w64 (by omega) (by omega)]; omega]
  exact books_loop hB lost (n + 1) (m + 1) (by omega) (by omega) (p + 60) (by omega) (n + 1) 0 [] q.2 (by omega) rfl (fun t ht => by cases ht) (by omega) (by omega)
end Go.Proofs.YtejoneninbdjbaaDoor.Pur
end
section
namespace Go.Proofs.YtejoneninbdjbaaDoor.E
open Go.RowKit Go.Proofs.YtejoneninbdjbaaDoorW.PrintWords Go.Proofs.YtejoneninbdjbaaDoorW.PrintLast Go.Proofs.YtejoneninbdjbaaDoorW.PrintMore
attribute [local go_sem] max2_int min2_int max_two min_two max_three min_three max_four min_four
set_option linter.unusedVariables false
set_option linter.unusedSimpArgs false
attribute [local go_sem] str_leq_ str_gtr_ str_geq_
def laws_FnExactBooksCommon.j0 : Nat → List ByteArray → List ByteArray → Bool → Option (Bool)
 | 0, _, _, _ => none
 | k + 1, x0, x6, x34 => if x34 = true then (some false) else ((laws_toStringS.f k x0).bind fun t219 => ((laws_eqStringS.f k x6 t219).bind fun t222 => (if t222 = true then (some true) else (some false))))
def laws_FnExactBooksCommon.f (k : Nat) (l0 : List ByteArray) : Option (Bool) := (laws_szStringS.f k l0 1048576).bind fun t208 => (if t208 < 0 then (some true) else ((laws_toStringS.f k l0).bind fun t209 => ((spec_BooksCommon.f k t209).bind fun bt212 => ((laws_toStringS.f k l0).bind fun t214 => ((impl_BooksCommon.f k t214).bind fun bt217 => (if bt217.1.toList = bt212.1.toList then (laws_FnExactBooksCommon.j0 k l0 t214 (bt217.2 != bt212.2)) else (laws_FnExactBooksCommon.j0 k l0 t214 true)))))))
end Go.Proofs.YtejoneninbdjbaaDoor.E
end
section
namespace Go.Proofs.YtejoneninbdjbaaDoor.Pur
open Go.RowKit Go.Proofs.YtejoneninbdjbaaDoorW.PrintWords Go.Proofs.YtejoneninbdjbaaDoorW.PrintMore Go.Proofs.YtejoneninbdjbaaDoor.E
def cnt (l : List ByteArray) (p c : Int) : Int := ((l.countP (fun t => decide (bt t p = 97 + c)) : Nat) : Int)
theorem cnt_nn (l : List ByteArray) (p c : Int) : 0 ≤ cnt l p c := Int.natCast_nonneg _
theorem cnt_le (l : List ByteArray) (p c : Int) : cnt l p c ≤ l.length := by
  have : l.countP (fun t => decide (bt t p = 97 + c)) ≤ l.length := List.countP_le_length
  unfold cnt; omega
theorem cnt_cons (t : ByteArray) (l : List ByteArray) (p c : Int) : cnt (t :: l) p c = cnt l p c + (if bt t p = 97 + c then 1 else 0) := by
  unfold cnt
  rw [List.countP_cons]
  by_cases h : bt t p = 97 + c
  · rw [if_pos h, decide_eq_true h]; rfl
  · rw [if_neg h, decide_eq_false h]; rfl
def pick (f : Int → Int) (b j : Int) : Int := if f j > f b then j else b
def col (l : List ByteArray) (p : Int) : Int := pick (cnt l p) (pick (cnt l p) (pick (cnt l p) 0 1) 2) 3
theorem pick_or (f : Int → Int) (b j : Int) : pick f b j = j ∨ pick f b j = b := by unfold pick; split <;> simp
theorem pick_rng {f : Int → Int} {b j : Int} (hb : 0 ≤ b ∧ b < 4) (hj : 0 ≤ j ∧ j < 4) : 0 ≤ pick f b j ∧ pick f b j < 4 := by
  rcases pick_or f b j with h | h <;> rw [h] <;> assumption
theorem col_rng (l : List ByteArray) (p : Int) : 0 ≤ col l p ∧ col l p < 4 := by
  unfold col
  exact pick_rng (pick_rng (pick_rng (by decide) (by decide)) (by decide)) (by decide)
def comL (l : List ByteArray) : Nat → Nat → List Int
  | 0, _ => []
  | d + 1, i => (97 + col l (i : Int)) :: comL l d (i + 1)
theorem comL_len (l : List ByteArray) : ∀ d i, (comL l d i).length = d
  | 0, _ => rfl
  | d + 1, i => by rw [comL, List.length_cons, comL_len l d (i + 1)]
theorem ext_letter (b : Int) (hb : 0 ≤ b ∧ b < 4) : (⟨#[97, 98, 99, 100]⟩ : ByteArray).extract b.toNat (b + 1).toNat = strOfNums [97 + b] := by
  obtain rfl | rfl | rfl | rfl : b = 0 ∨ b = 1 ∨ b = 2 ∨ b = 3 := by omega
  all_goals rfl
theorem strOfNums_app (x y : List Int) : strOfNums x ++ strOfNums y = strOfNums (x ++ y) := by
  apply ByteArray.ext
  rw [ByteArray.data_append]
  unfold strOfNums
  simp
def Rds (l : List ByteArray) (n : Nat) : Prop := 1 ≤ l.length ∧ l.length ≤ 6 ∧ 1 ≤ n ∧ n ≤ 8 ∧ ∀ t ∈ l, t.size = n ∧ ∀ p : Nat, p < n → 97 ≤ bt t (p : Int) ∧ bt t (p : Int) ≤ 100
theorem goB_none (n : Nat) : ∀ (l : List ByteArray) (c : Int), (goB n l c).2 = true → c ≤ (goB n l c).1 ∧ ((goB n l c).1 = c → ∀ t ∈ l, readB t = true)
  | [], c, _ => ⟨Int.le_refl _, fun _ _ h => by cases h⟩
  | t :: ts, c, h => by
    rw [goB] at h ⊢
    by_cases g : t.size = n ∧ (readB t = true ∨ lostB t = true)
    · rw [if_pos g] at h ⊢
      by_cases e : lostB t = true
      · rw [if_pos e] at h ⊢
        have := goB_none n ts (c + 1) h
        exact ⟨by omega, fun h' => by omega⟩
      · rw [if_neg e] at h ⊢
        have := goB_none n ts c h
        refine ⟨this.1, fun h' x hx => ?_⟩
        rcases List.mem_cons.mp hx with rfl | hx
        · exact g.2.resolve_right e
        · exact this.2 h' x hx
    · rw [if_neg g] at h
      exact absurd h (by decide)
theorem okBooks_rds {l : List ByteArray} (h : okBooks l = true) : Rds l (rdOf ByteArray.empty l 0).size := by
  unfold okBooks at h
  rw [Bool.and_eq_true] at h
  obtain ⟨h1, h2⟩ := h
  have h2 : (booksOf l).1 = 0 := by simpa using h2
  unfold booksOf at h1 h2
  by_cases g : 1 ≤ l.length ∧ l.length ≤ 6 ∧ 1 ≤ (l.getD 0 ByteArray.empty).size ∧ (l.getD 0 ByteArray.empty).size ≤ 8
  · rw [if_pos g] at h1 h2
    rw [rd0]
    refine ⟨g.1, g.2.1, g.2.2.1, g.2.2.2, fun t ht => ⟨(goB_ok _ l 0 h1 t ht).1, fun p hp => ?_⟩⟩
    have hs := (goB_ok _ l 0 h1 t ht).1
    have hr := (goB_none _ l 0 h1).2 h2 t ht
    have hlt : p < t.size := by omega
    rw [bt_at t p hlt]
    unfold readB at hr
    have := List.all_eq_true.mp hr _ (List.getElem_mem (h := by rw [Array.length_toList]; exact hlt))
    rw [Bool.and_eq_true] at this
    have a := of_decide_eq_true this.1
    have b := of_decide_eq_true this.2
    omega
  · rw [if_neg g] at h1
    exact absurd h1 (by decide)
theorem drop_cons (l : List ByteArray) (i : Nat) (hi : i < l.length) : l.drop i = rdOf ByteArray.empty l (i : Int) :: l.drop (i + 1) := by
  rw [rd_at hi]
  exact List.drop_eq_getElem_cons hi
section
variable (l : List ByteArray) (n : Nat) (R : Rds l n)
include R
theorem rds_at (i : Nat) (hi : i < l.length) (p : Nat) (hp : p < n) : (rdOf ByteArray.empty l (i : Int)).size = n ∧ 97 ≤ bt (rdOf ByteArray.empty l (i : Int)) (p : Int) ∧ bt (rdOf ByteArray.empty l (i : Int)) (p : Int) ≤ 100 := by
  have := R.2.2.2.2 _ (rd_mem (l := l) (i := (i : Int)) (by omega) (by omega))
  exact ⟨this.1, this.2 p hp⟩
theorem spec_count (s : ByteArray) (p : Nat) (hp : p < n) (b m c : Int) (hc : 0 ≤ c ∧ c < 4) (Q : ByteArray × Bool → Prop) : ∀ (d i : Nat) (x : Int), i + d = l.length → 0 ≤ x → x ≤ i →
    (EvP (fun k => if x + cnt (l.drop i) p c > m then spec_BooksCommon.l1 k l s p c (x + cnt (l.drop i) p c) (wrap64 (c + 1)) else spec_BooksCommon.l1 k l s p b m (wrap64 (c + 1))) Q) → EvP (fun k => spec_BooksCommon.l2 k l s p b m c x (i : Int)) Q := by
  have l1 := R.1
  have l6 := R.2.1
  have n8 := R.2.2.2.1
  intro d
  induction d with
  | zero =>
    intro i x hi h0 h1 K
    refine EvP.succ ?_
    simp only [spec_BooksCommon.l2]
    have e0 : cnt (l.drop i) p c = 0 := by rw [List.drop_eq_nil_of_le (by omega)]; rfl
    rw [e0, Int.add_zero] at K
    exact EvP.no (by omega) K
  | succ d ih =>
    intro i x hi h0 h1 K
    have h := rds_at l n R i (by omega) p hp
    rw [drop_cons l i (by omega), cnt_cons] at K
    have e1 : Hd (wrap64 (x + 1) = x + 1) := ⟨w64 (by omega) (by omega)⟩
    have e2 : Hd (wrap64 ((i : Int) + 1) = ((i + 1 : Nat) : Int)) := ⟨w64 (by omega) (by omega)⟩
    have e3 : Hd (wrap64 (97 + c) = 97 + c) := ⟨w64 (by omega) (by omega)⟩
    have e4 : Hd (wrap64 (bt (rdOf ByteArray.empty l (i : Int)) (p : Int)) = bt (rdOf ByteArray.empty l (i : Int)) (p : Int)) := ⟨w64 (by omega) (by omega)⟩
    refine EvP.succ ?_
    simp only [spec_BooksCommon.l2]
    refine EvP.yes (by omega) (EvP.yes (by omega) (EvP.yes (by omega) (EvP.yes (by omega) ?_)))
    rw [e1.out, e2.out, e3.out, e4.out]
    refine EvP.ite (fun g => ?_) (fun g => ?_)
    · rw [if_pos g] at K
      refine ih (i + 1) (x + 1) (by omega) (by omega) (by omega) ?_
      rw [show x + 1 + cnt (l.drop (i + 1)) p c = x + (cnt (l.drop (i + 1)) p c + 1) by omega]
      exact K
    · rw [if_neg g, Int.add_zero] at K
      exact ih (i + 1) x (by omega) h0 (by omega) K
theorem spec_step (s : ByteArray) (p : Nat) (hp : p < n) (b m c c' : Int) (hc : 0 ≤ c ∧ c < 4) (hc' : c' = c + 1) (Q : ByteArray × Bool → Prop) (K : EvP (fun k => spec_BooksCommon.l1 k l s p (if cnt l p c > m then c else b) (if cnt l p c > m then cnt l p c else m) c') Q) :
    EvP (fun k => spec_BooksCommon.l1 k l s p b m c) Q := by
  subst hc'
  refine EvP.succ ?_
  simp only [spec_BooksCommon.l1]
  refine EvP.yes (by omega) ?_
  refine spec_count l n R s p hp b m c hc Q l.length 0 0 (by omega) (by omega) (by omega) ?_
  rw [List.drop_zero, Int.zero_add, w64 (by omega) (by omega)]
  by_cases g : cnt l p c > m
  · rw [if_pos g, if_pos g] at K; exact EvP.yes g K
  · rw [if_neg g, if_neg g] at K; exact EvP.no g K
theorem spec_col (xs : List Int) (p : Nat) (hp : p < n) (hx : xs.length ≤ 100) (Q : ByteArray × Bool → Prop) (K : EvP (fun k => spec_BooksCommon.l0 k l (strOfNums (xs ++ [97 + col l p])) ((p + 1 : Nat) : Int)) Q) : EvP (fun k => spec_BooksCommon.l1 k l (strOfNums xs) p 0 0 0) Q := by
  have n8 := R.2.2.2.1
  have stp : ∀ (b c c' : Int), 0 ≤ c ∧ c < 4 → c' = c + 1 → EvP (fun k => spec_BooksCommon.l1 k l (strOfNums xs) p (pick (cnt l p) b c) (cnt l p (pick (cnt l p) b c)) c') Q → EvP (fun k => spec_BooksCommon.l1 k l (strOfNums xs) p b (cnt l p b) c) Q := by
    intro b c c' hc hc' K
    refine spec_step l n R _ p hp b _ c c' hc hc' Q ?_
    unfold pick at K
    by_cases g : cnt l p c > cnt l p b
    · rw [if_pos g] at K; rw [if_pos g, if_pos g]; exact K
    · rw [if_neg g] at K; rw [if_neg g, if_neg g]; exact K
  refine spec_step l n R _ p hp 0 0 0 1 (by decide) rfl Q ?_
  have e0 : (if cnt l p 0 > 0 then (0 : Int) else 0) = 0 := by split <;> rfl
  have e1 : (if cnt l p 0 > 0 then cnt l p 0 else 0) = cnt l p 0 := by
    have := cnt_nn l p 0
    split <;> omega
  rw [e0, e1]
  refine stp 0 1 2 (by decide) rfl (stp _ 2 3 (by decide) rfl (stp _ 3 4 (by decide) rfl ?_))
  have hr := col_rng l p
  rw [show pick (cnt l p) (pick (cnt l p) (pick (cnt l p) 0 1) 2) 3 = col l p from rfl]
  refine EvP.succ ?_
  simp only [spec_BooksCommon.l1]
  rw [w64 (i := col l p + 1) (by omega) (by omega), ext_letter _ hr, strOfNums_app, w64 (i := (p : Int) + 1) (by omega) (by omega)]
  refine EvP.no (by decide) (EvP.yes hr.1 (EvP.yes (by omega) (EvP.yes (by omega) (EvP.yes ?_ K))))
  rw [strOfNums_size, strOfNums_size]
  simp only [List.length_cons, List.length_nil]
  omega
theorem spec_com : ∀ (d p : Nat) (xs : List Int), p + d = n → xs.length = p → EvP (fun k => spec_BooksCommon.l0 k l (strOfNums xs) (p : Int)) (· = (strOfNums (xs ++ comL l d p), true)) := by
  have h0 := fun hp => rds_at l n R 0 (by have := R.1; omega) 0 hp
  have n1 := R.2.2.1
  have n8 := R.2.2.2.1
  have l1 := R.1
  have hs : (rdOf ByteArray.empty l 0).size = n := (h0 (by omega)).1
  intro d
  induction d with
  | zero =>
    intro p xs hp hx
    refine EvP.succ ?_
    simp only [spec_BooksCommon.l0]
    exact EvP.yes (by omega) (EvP.no (by omega) (EvP.ret (by rw [comL, List.append_nil])))
  | succ d ih =>
    intro p xs hp hx
    refine EvP.succ ?_
    simp only [spec_BooksCommon.l0]
    refine EvP.yes (by omega) (EvP.yes (by omega) ?_)
    refine spec_col l n R xs p (by omega) (by omega) _ ?_
    refine (ih (p + 1) (xs ++ [97 + col l p]) (by omega) (by simp; omega)).mono (fun r e => ?_)
    rw [e, comL, List.append_assoc]
    rfl
theorem impl_count (x4 : List Int) (p : Nat) (hp : p < n) (Q : ByteArray × Bool → Prop) (K : EvP (fun k => impl_BooksCommon.l2 k l n x4 p [cnt l p 0, cnt l p 1, cnt l p 2, cnt l p 3] 0 0) Q) :
    ∀ (d i : Nat) (a0 a1 a2 a3 : Int), i + d = l.length → a0 + cnt (l.drop i) p 0 = cnt l p 0 → a1 + cnt (l.drop i) p 1 = cnt l p 1 → a2 + cnt (l.drop i) p 2 = cnt l p 2 → a3 + cnt (l.drop i) p 3 = cnt l p 3 → 0 ≤ a0 → 0 ≤ a1 → 0 ≤ a2 → 0 ≤ a3 →
      EvP (fun k => impl_BooksCommon.l1 k l n x4 p [a0, a1, a2, a3] (i : Int)) Q := by
  have l6 := R.2.1
  intro d
  induction d with
  | zero =>
    intro i a0 a1 a2 a3 hi h0 h1 h2 h3 _ _ _ _
    have e : l.drop i = [] := List.drop_eq_nil_of_le (by omega)
    rw [e] at h0 h1 h2 h3
    have z : ∀ c, cnt [] p c = 0 := fun c => rfl
    rw [z, Int.add_zero] at h0 h1 h2 h3
    subst h0 h1 h2 h3
    refine EvP.succ ?_
    simp only [impl_BooksCommon.l1]
    exact EvP.no (by omega) K
  | succ d ih =>
    intro i a0 a1 a2 a3 hi h0 h1 h2 h3 g0 g1 g2 g3
    have h := rds_at l n R i (by omega) p hp
    have b0 := cnt_le l p 0
    have b1 := cnt_le l p 1
    have b2 := cnt_le l p 2
    have b3 := cnt_le l p 3
    rw [drop_cons l i (by omega), cnt_cons] at h0 h1 h2 h3
    have m0 := cnt_nn (l.drop (i + 1)) p 0
    have m1 := cnt_nn (l.drop (i + 1)) p 1
    have m2 := cnt_nn (l.drop (i + 1)) p 2
    have m3 := cnt_nn (l.drop (i + 1)) p 3
    refine EvP.succ ?_
    simp only [impl_BooksCommon.l1]
    obtain ⟨x, hx⟩ : ∃ x, x = bt (rdOf ByteArray.empty l (i : Int)) (p : Int) := ⟨_, rfl⟩
    rw [← hx] at h h0 h1 h2 h3 ⊢
    refine EvP.yes (by omega) (EvP.yes (by omega) (EvP.yes (by omega) (EvP.yes (by omega) (EvP.yes (by omega) ?_))))
    rw [w64 (i := (i : Int) + 1) (by omega) (by omega)]
    obtain rfl | rfl | rfl | rfl : x = 97 ∨ x = 98 ∨ x = 99 ∨ x = 100 := by omega
    · rw [if_pos (by decide)] at h0
      rw [if_neg (by decide)] at h1 h2 h3
      have e1 : wrap64 (rd [a0, a1, a2, a3] 0 + 1) = a0 + 1 := w64 (by show _ ≤ a0 + 1; omega) (by show a0 + 1 ≤ _; omega)
      refine EvP.mono (P := Q) ?_ (fun _ h => h)
      show EvP (fun k => impl_BooksCommon.l1 k l n x4 p ([a0, a1, a2, a3].set 0 (wrap64 (rd [a0, a1, a2, a3] 0 + 1))) ((i + 1 : Nat) : Int)) Q
      rw [e1]
      exact ih (i + 1) (a0 + 1) a1 a2 a3 (by omega) (by omega) (by omega) (by omega) (by omega) (by omega) g1 g2 g3
    · rw [if_pos (by decide)] at h1
      rw [if_neg (by decide)] at h0 h2 h3
      have e1 : wrap64 (rd [a0, a1, a2, a3] 1 + 1) = a1 + 1 := w64 (by show _ ≤ a1 + 1; omega) (by show a1 + 1 ≤ _; omega)
      show EvP (fun k => impl_BooksCommon.l1 k l n x4 p ([a0, a1, a2, a3].set 1 (wrap64 (rd [a0, a1, a2, a3] 1 + 1))) ((i + 1 : Nat) : Int)) Q
      rw [e1]
      exact ih (i + 1) a0 (a1 + 1) a2 a3 (by omega) (by omega) (by omega) (by omega) (by omega) g0 (by omega) g2 g3
    · rw [if_pos (by decide)] at h2
      rw [if_neg (by decide)] at h0 h1 h3
      have e1 : wrap64 (rd [a0, a1, a2, a3] 2 + 1) = a2 + 1 := w64 (by show _ ≤ a2 + 1; omega) (by show a2 + 1 ≤ _; omega)
      show EvP (fun k => impl_BooksCommon.l1 k l n x4 p ([a0, a1, a2, a3].set 2 (wrap64 (rd [a0, a1, a2, a3] 2 + 1))) ((i + 1 : Nat) : Int)) Q
      rw [e1]
      exact ih (i + 1) a0 a1 (a2 + 1) a3 (by omega) (by omega) (by omega) (by omega) (by omega) g0 g1 (by omega) g3
    · rw [if_pos (by decide)] at h3
      rw [if_neg (by decide)] at h0 h1 h2
      have e1 : wrap64 (rd [a0, a1, a2, a3] 3 + 1) = a3 + 1 := w64 (by show _ ≤ a3 + 1; omega) (by show a3 + 1 ≤ _; omega)
      show EvP (fun k => impl_BooksCommon.l1 k l n x4 p ([a0, a1, a2, a3].set 3 (wrap64 (rd [a0, a1, a2, a3] 3 + 1))) ((i + 1 : Nat) : Int)) Q
      rw [e1]
      exact ih (i + 1) a0 a1 a2 (a3 + 1) (by omega) (by omega) (by omega) (by omega) (by omega) g0 g1 g2 (by omega)
theorem impl_col (x4 : List Int) (p : Nat) (hp : p < n) (hx : x4.length ≤ 100) (Q : ByteArray × Bool → Prop) (K : EvP (fun k => impl_BooksCommon.l0 k l n (x4 ++ [97 + col l p]) ((p + 1 : Nat) : Int)) Q) :
    EvP (fun k => impl_BooksCommon.l2 k l n x4 p [cnt l p 0, cnt l p 1, cnt l p 2, cnt l p 3] 0 0) Q := by
  have n8 := R.2.2.2.1
  have ef : ∀ c : Int, 0 ≤ c ∧ c < 4 → rd [cnt l p 0, cnt l p 1, cnt l p 2, cnt l p 3] c = cnt l p c := by
    intro c hc
    obtain rfl | rfl | rfl | rfl : c = 0 ∨ c = 1 ∨ c = 2 ∨ c = 3 := by omega
    all_goals rfl
  have stp : ∀ (b j j' : Int), 0 ≤ b ∧ b < 4 → 0 ≤ j ∧ j < 4 → j' = j + 1 → EvP (fun k => impl_BooksCommon.l2 k l n x4 p [cnt l p 0, cnt l p 1, cnt l p 2, cnt l p 3] (pick (cnt l p) b j) j') Q → EvP (fun k => impl_BooksCommon.l2 k l n x4 p [cnt l p 0, cnt l p 1, cnt l p 2, cnt l p 3] b j) Q := by
    intro b j j' hb hj hj' K
    subst hj'
    refine EvP.succ ?_
    simp only [impl_BooksCommon.l2]
    rw [ef b hb, ef j hj]
    refine EvP.yes hj.2 (EvP.yes hj.1 (EvP.yes hb.1 (EvP.yes hb.2 ?_)))
    unfold pick at K
    by_cases g : cnt l p j > cnt l p b
    · rw [if_pos g] at K; exact EvP.yes g K
    · rw [if_neg g] at K; exact EvP.no g K
  have r0 : (0 : Int) ≤ 0 ∧ (0 : Int) < 4 := by decide
  have e00 : pick (cnt l p) 0 0 = 0 := by unfold pick; split <;> rfl
  have r1 := pick_rng (f := cnt l p) r0 (j := 1) (by decide)
  have r2 := pick_rng (f := cnt l p) r1 (j := 2) (by decide)
  refine stp 0 0 1 r0 r0 rfl ?_
  rw [e00]
  refine stp 0 1 2 r0 (by decide) rfl (stp _ 2 3 r1 (by decide) rfl (stp _ 3 4 r2 (by decide) rfl ?_))
  have hr := col_rng l p
  rw [show pick (cnt l p) (pick (cnt l p) (pick (cnt l p) 0 1) 2) 3 = col l p from rfl]
  refine EvP.succ ?_
  simp only [impl_BooksCommon.l2]
  rw [show (97 + col l p) % 256 = 97 + col l p by omega, w64 (i := (p : Int) + 1) (by omega) (by omega)]
  exact EvP.no (by decide) (EvP.yes (by omega) K)
theorem impl_com : ∀ (d p : Nat) (xs : List Int), p + d = n → xs.length = p → EvP (fun k => impl_BooksCommon.l0 k l n xs (p : Int)) (· = (strOfNums (xs ++ comL l d p), true)) := by
  have n8 := R.2.2.2.1
  intro d
  induction d with
  | zero =>
    intro p xs hp hx
    refine EvP.succ ?_
    simp only [impl_BooksCommon.l0]
    exact EvP.no (by omega) (EvP.ret (by rw [comL, List.append_nil]))
  | succ d ih =>
    intro p xs hp hx
    refine EvP.succ ?_
    simp only [impl_BooksCommon.l0]
    refine EvP.yes (by omega) ?_
    refine impl_count l n R xs p (by omega) _ ?_ l.length 0 0 0 0 0 (by omega) (by rw [List.drop_zero, Int.zero_add]) (by rw [List.drop_zero, Int.zero_add]) (by rw [List.drop_zero, Int.zero_add]) (by rw [List.drop_zero, Int.zero_add]) (by omega) (by omega) (by omega) (by omega)
    refine impl_col l n R xs p (by omega) (by omega) _ ?_
    refine (ih (p + 1) (xs ++ [97 + col l p]) (by omega) (by simp; omega)).mono (fun r e => ?_)
    rw [e, comL, List.append_assoc]
    rfl
end
def common (l : List ByteArray) : ByteArray × Bool := if okBooks l = true then (strOfNums (comL l (rdOf ByteArray.empty l 0).size 0), true) else (⟨#[]⟩, false)
theorem spec_common (l : List ByteArray) (hs : ∀ t ∈ l, t.size ≤ 9223372036854775806) : EvP (fun k => spec_BooksCommon.f k l) (· = common l) := by
  unfold spec_BooksCommon.f common
  refine EvP.bind (spec_okBooks l hs) (fun _ e => ?_)
  subst e
  refine EvP.ite (fun h => ?_) (fun h => EvP.ret (by rw [if_neg h]))
  rw [if_pos h]
  exact spec_com l _ (okBooks_rds h) (rdOf ByteArray.empty l 0).size 0 [] (by omega) rfl
theorem impl_common (l : List ByteArray) (hs : ∀ t ∈ l, t.size ≤ 9223372036854775806) : EvP (fun k => impl_BooksCommon.f k l) (· = common l) := by
  unfold impl_BooksCommon.f common
  refine EvP.bind (impl_okBooks l hs) (fun _ e => ?_)
  subst e
  refine EvP.ite (fun h => ?_) (fun h => EvP.ret (by rw [if_neg h]))
  rw [if_pos h]
  have R := okBooks_rds h
  exact EvP.yes (by have := R.1; omega) (impl_com l _ R (rdOf ByteArray.empty l 0).size 0 [] (by omega) rfl)
end Go.Proofs.YtejoneninbdjbaaDoor.Pur
end
section
namespace Go.Proofs.YtejoneninbdjbaaDoor.Pur
open Go.RowKit Go.Proofs.YtejoneninbdjbaaDoorW.PrintWords Go.Proofs.YtejoneninbdjbaaDoorW.PrintMore Go.Proofs.YtejoneninbdjbaaDoor.E
def dif (s t : ByteArray) : Nat → Nat → Nat
  | 0, _ => 0
  | d + 1, i => (if bt s (i : Int) = bt t (i : Int) then 0 else 1) + dif s t d (i + 1)
theorem dif_bd (s t : ByteArray) : ∀ d i, dif s t d i ≤ d
  | 0, _ => Nat.le_refl _
  | d + 1, i => by
    have := dif_bd s t d (i + 1)
    rw [dif]
    split <;> omega
theorem bt_nat (t : ByteArray) (i : Nat) (h : i < t.size) : ∃ h' : i < t.data.toList.length, bt t (i : Int) = ((t.data.toList[i]'h').toNat : Int) := ⟨by rw [Array.length_toList]; exact h, bt_at t i h⟩
theorem dif_diffs (s t : ByteArray) (n : Nat) (hs : s.size = n) (ht : t.size = n) : ∀ d i, i + d = n → dif s t d i = diffs (s.data.toList.drop i) (t.data.toList.drop i) := by
  intro d
  induction d with
  | zero =>
    intro i hi
    rw [List.drop_eq_nil_of_le (by rw [list_len]; omega), List.drop_eq_nil_of_le (by rw [list_len]; omega)]
    rfl
  | succ d ih =>
    intro i hi
    obtain ⟨h1, e1⟩ := bt_nat s i (by omega)
    obtain ⟨h2, e2⟩ := bt_nat t i (by omega)
    rw [dif, ih (i + 1) (by omega), List.drop_eq_getElem_cons h1, List.drop_eq_getElem_cons h2, diffs, e1, e2]
    have : ((((s.data.toList[i]'h1).toNat : Nat) : Int) = (((t.data.toList[i]'h2).toNat : Nat) : Int)) ↔ (s.data.toList[i]'h1) = (t.data.toList[i]'h2) := by
      constructor
      · intro h
        apply UInt8.toNat_inj.mp
        omega
      · intro h; rw [h]
    by_cases g : (s.data.toList[i]'h1) = (t.data.toList[i]'h2)
    · rw [if_pos (this.mpr g)]; simp [g]
    · rw [if_neg (fun h => g (this.mp h))]
      simp only [Array.getElem_toList] at g ⊢
      simp [g]
theorem farT_dif (s t : ByteArray) (n : Nat) (hs : s.size = n) (ht : t.size = n) : farT s t = (dif s t n 0 : Nat) := by
  rw [dif_diffs s t n hs ht n 0 (by omega)]
  rfl
def tot (l : List ByteArray) (o : ByteArray) (n : Nat) (i : Nat) : Nat := (l.map (fun t => dif t o n i)).sum
theorem tot_cons (t : ByteArray) (l : List ByteArray) (o : ByteArray) (n i : Nat) : tot (t :: l) o n i = dif t o n i + tot l o n i := by simp [tot]
def dcol (l : List ByteArray) (c : Int) (p : Nat) : Nat := l.countP (fun t => !decide (bt t (p : Int) = c))
theorem tot_succ (l : List ByteArray) (o : ByteArray) (d i : Nat) : tot l o (d + 1) i = dcol l (bt o (i : Int)) i + tot l o d (i + 1) := by
  induction l with
  | nil => rfl
  | cons t l ih =>
    rw [tot_cons, tot_cons, ih, dif]
    unfold dcol
    rw [List.countP_cons]
    by_cases h : bt t (i : Int) = bt o (i : Int)
    · rw [if_pos h, decide_eq_true h]
      simp only [Bool.not_true, Bool.false_eq_true, if_false]
      omega
    · rw [if_neg h, decide_eq_false h]
      simp only [Bool.not_false, if_true]
      omega
theorem tot_zero (l : List ByteArray) (o : ByteArray) (i : Nat) : tot l o 0 i = 0 := by
  induction l with
  | nil => rfl
  | cons t l ih => rw [tot_cons, ih]; rfl
theorem tot_le (l : List ByteArray) (o o' : ByteArray) (n : Nat) (h : ∀ p, p < n → dcol l (bt o (p : Int)) p ≤ dcol l (bt o' (p : Int)) p) : ∀ d i, i + d = n → tot l o d i ≤ tot l o' d i := by
  intro d
  induction d with
  | zero => intro i _; rw [tot_zero, tot_zero]; exact Nat.le_refl _
  | succ d ih =>
    intro i hi
    rw [tot_succ, tot_succ]
    have := ih (i + 1) (by omega)
    have := h i (by omega)
    omega
theorem dcol_cnt (l : List ByteArray) (c : Int) (p : Nat) : (dcol l (97 + c) p : Int) + cnt l p c = l.length := by
  have := List.length_eq_countP_add_countP (fun t => decide (bt t (p : Int) = 97 + c)) (l := l)
  unfold dcol cnt
  have e : (fun t => !decide (bt t (p : Int) = 97 + c)) = (fun t => decide (¬ (decide (bt t (p : Int) = 97 + c)) = true)) := by
    funext t
    by_cases h : bt t (p : Int) = 97 + c <;> simp [h]
  rw [e]
  omega
theorem pick_ge (f : Int → Int) (b j : Int) : f b ≤ f (pick f b j) ∧ f j ≤ f (pick f b j) := by
  unfold pick
  split <;> omega
theorem col_max (l : List ByteArray) (p c : Int) (hc : 0 ≤ c ∧ c < 4) : cnt l p c ≤ cnt l p (col l p) := by
  have a := pick_ge (cnt l p) 0 1
  have b := pick_ge (cnt l p) (pick (cnt l p) 0 1) 2
  have d := pick_ge (cnt l p) (pick (cnt l p) (pick (cnt l p) 0 1) 2) 3
  unfold col
  obtain rfl | rfl | rfl | rfl : c = 0 ∨ c = 1 ∨ c = 2 ∨ c = 3 := by omega
  all_goals omega
theorem comL_at (l : List ByteArray) : ∀ (d i j : Nat), j < d → (comL l d i)[j]? = some (97 + col l ((i + j : Nat) : Int)) := by
  intro d
  induction d with
  | zero => intro i j h; omega
  | succ d ih =>
    intro i j h
    rw [comL]
    cases j with
    | zero => rfl
    | succ j =>
      rw [List.getElem?_cons_succ, ih (i + 1) j (by omega), show i + 1 + j = i + (j + 1) by omega]
def com (l : List ByteArray) (n : Nat) : ByteArray := strOfNums (comL l n 0)
theorem com_size (l : List ByteArray) (n : Nat) : (com l n).size = n := by unfold com; rw [strOfNums_size, comL_len]
theorem com_bt (l : List ByteArray) (n p : Nat) (hp : p < n) : bt (com l n) (p : Int) = 97 + col l (p : Int) := by
  have hz := com_size l n
  obtain ⟨h1, e1⟩ := bt_nat (com l n) p (by omega)
  have hr := col_rng l (p : Int)
  have h3 : p < (comL l n 0).length := by rw [comL_len]; exact hp
  have e3 : (comL l n 0)[p]'h3 = 97 + col l (p : Int) := by
    have := comL_at l n 0 p hp
    rw [List.getElem?_eq_getElem h3, Nat.zero_add] at this
    exact Option.some.inj this
  have e2 : (com l n).data.toList[p]'h1 = UInt8.ofNat ((comL l n 0)[p]'h3).toNat := by
    unfold com
    simp only [strOfNums_data, List.getElem_map]
  rw [e1, e2, e3]
  generalize col l (p : Int) = c at *
  obtain rfl | rfl | rfl | rfl : c = 0 ∨ c = 1 ∨ c = 2 ∨ c = 3 := by omega
  all_goals rfl
section
variable (l : List ByteArray) (n : Nat) (R : Rds l n)
include R
theorem tot_com (j : Nat) (hj : j < l.length) : tot l (com l n) n 0 ≤ tot l (rdOf ByteArray.empty l (j : Int)) n 0 := by
  refine tot_le l _ _ n (fun p hp => ?_) n 0 (by omega)
  have h := rds_at l n R j hj p hp
  rw [com_bt l n p hp]
  have a := dcol_cnt l (col l (p : Int)) p
  have b := dcol_cnt l (bt (rdOf ByteArray.empty l (j : Int)) (p : Int) - 97) p
  have m := col_max l (p : Int) (bt (rdOf ByteArray.empty l (j : Int)) (p : Int) - 97) (by omega)
  rw [show 97 + (bt (rdOf ByteArray.empty l (j : Int)) (p : Int) - 97) = bt (rdOf ByteArray.empty l (j : Int)) (p : Int) by omega] at b
  omega
omit R in
theorem tot_bd (o : ByteArray) : ∀ m : List ByteArray, tot m o n 0 ≤ n * m.length := by
  intro m
  induction m with
  | nil => exact Nat.le_refl _
  | cons t m ih =>
    rw [tot_cons, List.length_cons, Nat.mul_succ]
    have := dif_bd t o n 0
    omega
theorem law_line (i : Nat) (hi : i < l.length) (Q : Bool → Prop) : ∀ (d p : Nat) (x : Int), p + d = n → 0 ≤ x → x ≤ 1000 + p →
    EvP (fun k => laws_FnBooksCommon.l0 k l (com l n) (x + (dif (rdOf ByteArray.empty l (i : Int)) (com l n) d p : Nat)) ((i + 1 : Nat) : Int)) Q → EvP (fun k => laws_FnBooksCommon.l1 k l (com l n) x (i : Int) (p : Int)) Q := by
  have hz := com_size l n
  have l6 := R.2.1
  have n8 := R.2.2.2.1
  intro d
  induction d with
  | zero =>
    intro p x hp h0 h1 K
    refine EvP.succ ?_
    simp only [laws_FnBooksCommon.l1]
    refine EvP.no (by omega) ?_
    rw [w64 (i := (i : Int) + 1) (by omega) (by omega)]
    rw [dif] at K
    simpa using K
  | succ d ih =>
    intro p x hp h0 h1 K
    have h := rds_at l n R i hi p (by omega)
    have e1 : Hd (wrap64 (x + 1) = x + 1) := ⟨w64 (by omega) (by omega)⟩
    have e2 : Hd (wrap64 ((p : Int) + 1) = ((p + 1 : Nat) : Int)) := ⟨w64 (by omega) (by omega)⟩
    refine EvP.succ ?_
    simp only [laws_FnBooksCommon.l1]
    refine EvP.yes (by omega) (EvP.yes (by omega) (EvP.yes (by omega) (EvP.yes (by omega) (EvP.yes (by omega) ?_))))
    rw [e1.out, e2.out]
    rw [dif] at K
    refine EvP.ite (fun g => ?_) (fun g => ?_)
    · rw [if_pos g, Nat.zero_add] at K
      exact ih (p + 1) x (by omega) h0 (by omega) K
    · rw [if_neg g] at K
      refine ih (p + 1) (x + 1) (by omega) (by omega) (by omega) ?_
      rw [show x + 1 + (dif (rdOf ByteArray.empty l (i : Int)) (com l n) d (p + 1) : Nat) = x + ((1 + dif (rdOf ByteArray.empty l (i : Int)) (com l n) d (p + 1) : Nat) : Int) by omega]
      exact K
theorem law_sum (Q : Bool → Prop) (K : EvP (fun k => laws_FnBooksCommon.l2 k l (com l n) (tot l (com l n) n 0 : Nat) true 0) Q) : ∀ (d i : Nat) (x : Nat), i + d = l.length → x + tot (l.drop i) (com l n) n 0 = tot l (com l n) n 0 →
    EvP (fun k => laws_FnBooksCommon.l0 k l (com l n) (x : Int) (i : Int)) Q := by
  have l6 := R.2.1
  have n8 := R.2.2.2.1
  have tb := tot_bd n (com l n) l
  have tb2 : n * l.length ≤ 8 * 6 := Nat.mul_le_mul n8 l6
  intro d
  induction d with
  | zero =>
    intro i x hi h
    rw [List.drop_eq_nil_of_le (by omega)] at h
    have : x = tot l (com l n) n 0 := h
    subst this
    refine EvP.succ ?_
    simp only [laws_FnBooksCommon.l0]
    exact EvP.no (by omega) K
  | succ d ih =>
    intro i x hi h
    rw [drop_cons l i (by omega), tot_cons] at h
    refine EvP.succ ?_
    simp only [laws_FnBooksCommon.l0]
    refine EvP.yes (by omega) ?_
    refine law_line l n R i (by omega) Q n 0 x (by omega) (by omega) (by omega) ?_
    have := ih (i + 1) (x + dif (rdOf ByteArray.empty l (i : Int)) (com l n) n 0) (by omega) (by omega)
    rw [Int.natCast_add] at this
    exact this
omit R in
theorem dif_comm (s t : ByteArray) : ∀ d i, dif s t d i = dif t s d i
  | 0, _ => rfl
  | d + 1, i => by
    rw [dif, dif, dif_comm s t d (i + 1)]
    by_cases h : bt s (i : Int) = bt t (i : Int)
    · rw [if_pos h, if_pos h.symm]
    · rw [if_neg h, if_neg (fun h' => h h'.symm)]
theorem law_other (hs : ∀ t ∈ l, t.size ≤ 9223372036854775806) (ok : okBooks l = true) (i : Nat) (hi : i < l.length) (s : Int) (q : Bool) (Q : Bool → Prop)
    (K : EvP (fun k => laws_FnBooksCommon.l3 k l (com l n) s q (i : Int) (tot l (rdOf ByteArray.empty l (i : Int)) n 0 : Nat) (l.length : Int)) Q) : ∀ (d j : Nat) (x : Nat), j + d = l.length → x + tot (l.drop j) (rdOf ByteArray.empty l (i : Int)) n 0 = tot l (rdOf ByteArray.empty l (i : Int)) n 0 →
    EvP (fun k => laws_FnBooksCommon.l3 k l (com l n) s q (i : Int) (x : Int) (j : Int)) Q := by
  have l6 := R.2.1
  have n1 := R.2.2.1
  have n8 := R.2.2.2.1
  have tb := tot_bd n (rdOf ByteArray.empty l (i : Int)) l
  have tb2 : n * l.length ≤ 8 * 6 := Nat.mul_le_mul n8 l6
  intro d
  induction d with
  | zero =>
    intro j x hj h
    rw [List.drop_eq_nil_of_le (by omega)] at h
    have h : x = tot l (rdOf ByteArray.empty l (i : Int)) n 0 := h
    obtain rfl : j = l.length := by omega
    rw [h]
    exact K
  | succ d ih =>
    intro j x hj h
    rw [drop_cons l j (by omega), tot_cons] at h
    refine EvP.succ ?_
    simp only [laws_FnBooksCommon.l3]
    refine EvP.yes (by omega) ?_
    refine EvP.bind (impl_farOf l (i : Int) (j : Int) hs) (fun r e => ?_)
    have hi0 := rds_at l n R i hi 0 (by omega)
    have hj0 := rds_at l n R j (by omega) 0 (by omega)
    have ef : farOf l (i : Int) (j : Int) = (dif (rdOf ByteArray.empty l (j : Int)) (rdOf ByteArray.empty l (i : Int)) n 0 : Nat) := by
      unfold farOf
      rw [if_pos ⟨ok, by omega, by omega, by omega, by omega⟩, farT_dif _ _ n hi0.1 hj0.1, dif_comm]
    rw [ef] at e
    subst e
    rw [w64 (i := (j : Int) + 1) (by omega) (by omega), w64 (by omega) (by omega)]
    have := ih (j + 1) (x + dif (rdOf ByteArray.empty l (j : Int)) (rdOf ByteArray.empty l (i : Int)) n 0) (by omega) (by omega)
    rw [Int.natCast_add] at this
    exact this
def Alike (i : Nat) : Prop := ∀ j, j < i → (rdOf ByteArray.empty l (j : Int)).toList = (rdOf ByteArray.empty l 0).toList
omit R in
theorem dif_self (t : ByteArray) : ∀ d i, dif t t d i = 0
  | 0, _ => rfl
  | d + 1, i => by rw [dif, if_pos rfl, dif_self t d (i + 1)]
omit R in
theorem tot_none (o : ByteArray) (m : List ByteArray) (h : ∀ t ∈ m, t = o) : tot m o n 0 = 0 := by
  induction m with
  | nil => rfl
  | cons t m ih =>
    rw [tot_cons, ih (fun x hx => h x (List.mem_cons_of_mem _ hx)), h t List.mem_cons_self, dif_self]
omit R in
theorem tot_mem (o : ByteArray) (m : List ByteArray) (t : ByteArray) (ht : t ∈ m) : dif t o n 0 ≤ tot m o n 0 := by
  induction m with
  | nil => cases ht
  | cons x m ih =>
    rw [tot_cons]
    rcases List.mem_cons.mp ht with rfl | h
    · omega
    · have := ih h; omega
theorem alike_com (h : Alike l l.length) : tot l (com l n) n 0 = 0 ∧ (com l n).toList = (rdOf ByteArray.empty l 0).toList := by
  have l1 := R.1
  have n1 := R.2.2.1
  have h0 := tot_com l n R 0 (by omega)
  have hz : tot l (rdOf ByteArray.empty l ((0 : Nat) : Int)) n 0 = 0 := by
    refine tot_none n _ l (fun t ht => ?_)
    obtain ⟨j, hj, rfl⟩ := List.mem_iff_getElem.mp ht
    have := h j hj
    rw [rd_at hj, ByteArray.toList_eq, ByteArray.toList_eq] at this
    exact ByteArray.ext (Array.toList_inj.mp this)
  have a : tot l (com l n) n 0 = 0 := by omega
  refine ⟨a, ?_⟩
  have b := tot_mem n (com l n) l (rdOf ByteArray.empty l ((0 : Nat) : Int)) (rd_mem (by omega) (by omega))
  have s0 := (rds_at l n R 0 (by omega) 0 (by omega)).1
  have cz := com_size l n
  rw [dif_diffs _ _ n s0 cz n 0 (by omega), List.drop_zero, List.drop_zero] at b
  have := (diffs_zero (rdOf ByteArray.empty l ((0 : Nat) : Int)).data.toList (com l n).data.toList (by rw [list_len, list_len]; omega)).mp (by omega)
  rw [ByteArray.toList_eq, ByteArray.toList_eq]
  exact this.symm
theorem law_alike (hs : ∀ t ∈ l, t.size ≤ 9223372036854775806) (ok : okBooks l = true) : ∀ (d i : Nat) (q : Bool), i + d = l.length → (q = true ↔ Alike l i) → EvP (fun k => laws_FnBooksCommon.l2 k l (com l n) (tot l (com l n) n 0 : Nat) q (i : Int)) (· = true) := by
  have l1 := R.1
  have l6 := R.2.1
  have n1 := R.2.2.1
  have n8 := R.2.2.2.1
  have s0 := (rds_at l n R 0 (by omega) 0 (by omega)).1
  have cz := com_size l n
  intro d
  induction d with
  | zero =>
    intro i q hi hq
    obtain rfl : i = l.length := by omega
    refine EvP.succ ?_
    simp only [laws_FnBooksCommon.l2]
    refine EvP.no (by omega) (EvP.yes (by omega) (EvP.yes ?_ ?_))
    · rw [cz]; exact (congrArg (fun x : Nat => (x : Int)) s0).symm
    · refine EvP.ite (fun g => ?_) (fun _ => EvP.ret rfl)
      have := alike_com l n R (hq.mp g)
      refine EvP.yes this.2 (EvP.ret ?_)
      rw [this.1]
      rfl
  | succ d ih =>
    intro i q hi hq
    refine EvP.succ ?_
    simp only [laws_FnBooksCommon.l2]
    refine EvP.yes (by omega) ?_
    refine law_other l n R hs ok i (by omega) _ q _ ?_ l.length 0 0 (by omega) (by rw [List.drop_zero]; omega)
    have tc := tot_com l n R i (by omega)
    have e2 : Hd (wrap64 ((i : Int) + 1) = ((i + 1 : Nat) : Int)) := ⟨w64 (by omega) (by omega)⟩
    refine EvP.succ ?_
    simp only [laws_FnBooksCommon.l3]
    refine EvP.no (by omega) ?_
    rw [e2.out]
    refine EvP.ite (fun g => ?_) (fun g => ?_)
    · refine EvP.yes (by omega) (EvP.yes (by omega) (EvP.yes (by omega) (EvP.no (by omega) ?_)))
      refine ih (i + 1) _ (by omega) ⟨fun h j hj => ?_, fun h => ?_⟩
      · by_cases e : j = i
        · subst e; exact beq_iff_eq.mp h
        · exact hq.mp g j (by omega)
      · exact beq_iff_eq.mpr (h i (by omega))
    · refine EvP.no (by omega) (ih (i + 1) false (by omega) ⟨fun h => absurd h (by decide), fun h => absurd (hq.mpr (fun j hj => h j (by omega))) g⟩)
end
theorem law_common (l0 : List Int) (_ : (l0.length : Int) ≤ 9223372036854775807) (hw : ∀ x ∈ l0, (Lit.int .u8 x).wf = true) : ∃ k, laws_FnBooksCommon.f k l0 = some true := by
  refine EvP.rounds (?_ : EvP (fun k => laws_FnBooksCommon.f k l0) (· = true))
  unfold laws_FnBooksCommon.f
  refine EvP.ite (fun _ => EvP.ret rfl) (fun h0 => ?_)
  refine EvP.bind (P := fun r => r.length ≤ 5 ∧ ∀ t ∈ r, t.size ≤ 5) ?_ (fun l hr => ?_)
  · unfold spec_DrawBooksCommon.f
    refine EvP.bind (open_code l0 hw) (fun r hr => ?_)
    refine EvP.bind (drawn_books hr.1 false r.2 (by omega)) (fun b hb => ?_)
    exact EvP.ret ⟨hb.1, hb.2.1⟩
  obtain ⟨r1, r2⟩ := hr
  have hs' : ∀ t ∈ l, t.size ≤ 9223372036854775806 := fun t ht => Nat.le_trans (r2 t ht) (by omega)
  refine EvP.bind (impl_common l hs') (fun _ e => ?_)
  subst e
  refine EvP.bind (spec_common l hs') (fun _ e => ?_)
  subst e
  rw [bne_self_eq_false]
  refine EvP.no (by decide) (EvP.yes rfl ?_)
  refine EvP.succ ?_
  simp only [laws_FnBooksCommon.j0]
  by_cases ok : okBooks l = true
  · have R := okBooks_rds ok
    have ec : common l = (com l (rdOf ByteArray.empty l 0).size, true) := by unfold common com; rw [if_pos ok]
    rw [ec]
    refine EvP.no (by simp) ?_
    refine law_sum l _ R _ ?_ l.length 0 0 (by omega) (by rw [List.drop_zero, Nat.zero_add])
    exact law_alike l _ R hs' ok l.length 0 true (by omega) ⟨fun _ j hj => absurd hj (by omega), fun _ => rfl⟩
  · have ec : common l = (⟨#[]⟩, false) := by unfold common; rw [if_neg ok]
    rw [ec]
    exact EvP.yes rfl (EvP.yes rfl (EvP.ret (by simp)))
end Go.Proofs.YtejoneninbdjbaaDoor.Pur
end
section
namespace Go.Proofs.YtejoneninbdjbaaDoor.Head
set_option maxRecDepth 100000
theorem and_t {a b : Bool} (h : a = true) (k : b = true) : (a && b) = true := by rw [h, k]; rfl
theorem mayEnter_of {P : Program} {l : List String} {W rest : List (List Char)} (h : behindMainWord (wordsSigns P.initOrder.toList) = W) (hc : ∃ c r, W = c :: r ∧ (c == "gc".toList || c == "spec".toList) = false ∧ (c == "carried".toList) = false) (hs : stripLifts liftWords W = (l, "cut".toList :: rest))
    (hl : (l.contains "finals" || !P.laysLater) = true) (hb : (l.contains "reflectrows" || !P.bearsReflect) = true) (hr : (l.contains "reflectrows" || !l.contains "leanrows") = true) (hd : P.doorFits l = true) : P.mayEnter = true := by
  obtain ⟨c, r, rfl, h1, h2⟩ := hc
  unfold Program.mayEnter
  rw [h]
  dsimp only
  rw [hs, hl, hb, hr, hd, h1, h2]
  simp
theorem headLifts_of {P : Program} {l : List String} {W rest : List (List Char)} (h : behindMainWord (wordsSigns P.initOrder.toList) = W) (hs : stripLifts liftWords W = (l, "cut".toList :: rest)) : P.headLifts = l := by
  unfold Program.headLifts
  rw [h]
  dsimp only
  rw [hs]
  simp
theorem liftsFinal_of {P : Program} {l : List String} {W rest : List (List Char)} (h : behindMainWord (wordsSigns P.initOrder.toList) = W) (hc : ∃ c r, W = c :: r ∧ (c == "gc".toList || c == "spec".toList) = false ∧ (c == "carried".toList) = false) (hs : stripLifts liftWords W = (l, "cut".toList :: rest)) : P.liftsFinal = l.contains "finals" := by
  unfold Program.liftsFinal
  rw [headLifts_of h hs, h]
  obtain ⟨c, r, rfl, h1, h2⟩ := hc
  have h3 : ((c :: r).head? == some "carried".toList) = false := by
    rw [beq_eq_false_iff_ne] at h2 ⊢
    exact fun e => h2 (Option.some.inj e)
  dsimp only
  rw [h3, Bool.false_and, Bool.false_or]
theorem make_of {P : Program} {rest : List (List Char)} (h : behindMainWord (wordsSigns P.initOrder.toList) = "cut".toList :: rest) : P.make = some .cut := by
  unfold Program.make
  rw [h]
  dsimp only
  rw [if_neg (by decide), if_pos (by simp)]
theorem mainIs_of {P : Program} {s : List Char} {rest : List (List Char)} (h : wordsSigns P.initOrder.toList = "harness".toList :: s :: rest) (hs : isSumSigns s = true) : P.mainIs = some (true, s) := by
  unfold Program.mainIs
  rw [h]
  dsimp only
  rw [hs]
  simp
def io : List Nat := [104, 97, 114, 110, 101, 115, 115, 32, 97, 49, 55, 53, 100, 55, 49, 55, 50, 99, 49, 55, 51, 50, 52, 49, 97, 52, 51, 56, 99, 53, 50, 99, 97, 100, 56, 102, 50, 99, 98, 98, 56, 52, 101, 54, 98, 50, 52, 101, 51, 97, 99, 54, 56, 49, 102, 49, 99, 55, 51, 51, 99, 98, 98, 57, 52, 51, 98, 49, 102, 48, 55, 99, 32, 99, 117, 116, 32, 97, 116, 32, 108, 111, 111, 112, 46, 101, 120, 97, 109, 112, 108, 101, 47, 110, 101, 117, 109, 101, 115, 47, 108, 97, 119, 115, 46, 70, 110, 69, 120, 97, 99, 116, 66, 111, 111, 107, 115, 86, 97, 108, 105, 100, 32, 108, 111, 111, 112, 46, 101, 120, 97, 109, 112, 108, 101, 47, 110, 101, 117, 109, 101, 115, 47, 108, 97, 119, 115, 46, 70, 110, 69, 120, 97, 99, 116, 66, 111, 111, 107, 115, 70, 97, 114, 32, 108, 111, 111, 112, 46, 101, 120, 97, 109, 112, 108, 101, 47, 110, 101, 117, 109, 101, 115, 47, 108, 97, 119, 115, 46, 70, 110, 69, 120, 97, 99, 116, 83, 116, 101, 109, 86, 97, 108, 105, 100, 32, 108, 111, 111, 112, 46, 101, 120, 97, 109, 112, 108, 101, 47, 110, 101, 117, 109, 101, 115, 47, 108, 97, 119, 115, 46, 70, 110, 69, 120, 97, 99, 116, 66, 111, 111, 107, 115, 67, 111, 109, 109, 111, 110, 32, 108, 111, 111, 112, 46, 101, 120, 97, 109, 112, 108, 101, 47, 110, 101, 117, 109, 101, 115, 47, 108, 97, 119, 115, 46, 70, 110, 66, 111, 111, 107, 115, 70, 97, 114, 32, 108, 111, 111, 112, 46, 101, 120, 97, 109, 112, 108, 101, 47, 110, 101, 117, 109, 101, 115, 47, 108, 97, 119, 115, 46, 70, 110, 69, 120, 97, 99, 116, 83, 116, 101, 109, 68, 101, 112, 116, 104, 32, 108, 111, 111, 112, 46, 101, 120, 97, 109, 112, 108, 101, 47, 110, 101, 117, 109, 101, 115, 47, 108, 97, 119, 115, 46, 70, 110, 66, 111, 111, 107, 115, 67, 111, 109, 109, 111, 110, 32, 108, 111, 111, 112, 46, 101, 120, 97, 109, 112, 108, 101, 47, 110, 101, 117, 109, 101, 115, 47, 108, 97, 119, 115, 46, 70, 110, 69, 120, 97, 99, 116, 83, 116, 101, 109, 67, 104, 97, 110, 103, 101, 115, 32, 108, 111, 111, 112, 46, 101, 120, 97, 109, 112, 108, 101, 47, 110, 101, 117, 109, 101, 115, 47, 108, 97, 119, 115, 46, 70, 110, 69, 120, 97, 99, 116, 83, 116, 101, 109, 77, 111, 118, 101, 32, 108, 111, 111, 112, 46, 101, 120, 97, 109, 112, 108, 101, 47, 110, 101, 117, 109, 101, 115, 47, 108, 97, 119, 115, 46, 70, 110, 69, 120, 97, 99, 116, 83, 116, 101, 109, 66, 101, 115, 116, 32, 108, 111, 111, 112, 46, 101, 120, 97, 109, 112, 108, 101, 47, 110, 101, 117, 109, 101, 115, 47, 108, 97, 119, 115, 46, 70, 110, 83, 116, 101, 109, 68, 101, 112, 116, 104, 32, 108, 111, 111, 112, 46, 101, 120, 97, 109, 112, 108, 101, 47, 110, 101, 117, 109, 101, 115, 47, 108, 97, 119, 115, 46, 70, 110, 83, 116, 101, 109, 66, 101, 115, 116, 32, 108, 111, 111, 112, 46, 101, 120, 97, 109, 112, 108, 101, 47, 110, 101, 117, 109, 101, 115, 47, 108, 97, 119, 115, 46, 70, 110, 69, 120, 97, 99, 116, 83, 116, 101, 109, 70, 101, 119, 101, 115, 116, 32, 108, 111, 111, 112, 46, 101, 120, 97, 109, 112, 108, 101, 47, 110, 101, 117, 109, 101, 115, 47, 108, 97, 119, 115, 46, 70, 110, 83, 116, 101, 109, 70, 101, 119, 101, 115, 116, 32, 108, 111, 111, 112, 46, 101, 120, 97, 109, 112, 108, 101, 47, 110, 101, 117, 109, 101, 115, 47, 108, 97, 119, 115, 46, 70, 110, 69, 120, 97, 99, 116, 83, 116, 101, 109, 70, 105, 108, 108, 32, 108, 111, 111, 112, 46, 101, 120, 97, 109, 112, 108, 101, 47, 110, 101, 117, 109, 101, 115, 47, 108, 97, 119, 115, 46, 70, 110, 83, 116, 101, 109, 77, 111, 118, 101, 32, 108, 111, 111, 112, 46, 101, 120, 97, 109, 112, 108, 101, 47, 110, 101, 117, 109, 101, 115, 47, 108, 97, 119, 115, 46, 70, 110, 83, 116, 101, 109, 76, 111, 115, 116, 32, 108, 111, 111, 112, 46, 101, 120, 97, 109, 112, 108, 101, 47, 110, 101, 117, 109, 101, 115, 47, 108, 97, 119, 115, 46, 70, 110, 83, 116, 101, 109, 67, 104, 97, 110, 103, 101, 115]
def ws : List (List Nat) := [[104, 97, 114, 110, 101, 115, 115], [97, 49, 55, 53, 100, 55, 49, 55, 50, 99, 49, 55, 51, 50, 52, 49, 97, 52, 51, 56, 99, 53, 50, 99, 97, 100, 56, 102, 50, 99, 98, 98, 56, 52, 101, 54, 98, 50, 52, 101, 51, 97, 99, 54, 56, 49, 102, 49, 99, 55, 51, 51, 99, 98, 98, 57, 52, 51, 98, 49, 102, 48, 55, 99], [99, 117, 116], [97, 116], [108, 111, 111, 112, 46, 101, 120, 97, 109, 112, 108, 101, 47, 110, 101, 117, 109, 101, 115, 47, 108, 97, 119, 115, 46, 70, 110, 69, 120, 97, 99, 116, 66, 111, 111, 107, 115, 86, 97, 108, 105, 100], [108, 111, 111, 112, 46, 101, 120, 97, 109, 112, 108, 101, 47, 110, 101, 117, 109, 101, 115, 47, 108, 97, 119, 115, 46, 70, 110, 69, 120, 97, 99, 116, 66, 111, 111, 107, 115, 70, 97, 114], [108, 111, 111, 112, 46, 101, 120, 97, 109, 112, 108, 101, 47, 110, 101, 117, 109, 101, 115, 47, 108, 97, 119, 115, 46, 70, 110, 69, 120, 97, 99, 116, 83, 116, 101, 109, 86, 97, 108, 105, 100], [108, 111, 111, 112, 46, 101, 120, 97, 109, 112, 108, 101, 47, 110, 101, 117, 109, 101, 115, 47, 108, 97, 119, 115, 46, 70, 110, 69, 120, 97, 99, 116, 66, 111, 111, 107, 115, 67, 111, 109, 109, 111, 110], [108, 111, 111, 112, 46, 101, 120, 97, 109, 112, 108, 101, 47, 110, 101, 117, 109, 101, 115, 47, 108, 97, 119, 115, 46, 70, 110, 66, 111, 111, 107, 115, 70, 97, 114], [108, 111, 111, 112, 46, 101, 120, 97, 109, 112, 108, 101, 47, 110, 101, 117, 109, 101, 115, 47, 108, 97, 119, 115, 46, 70, 110, 69, 120, 97, 99, 116, 83, 116, 101, 109, 68, 101, 112, 116, 104], [108, 111, 111, 112, 46, 101, 120, 97, 109, 112, 108, 101, 47, 110, 101, 117, 109, 101, 115, 47, 108, 97, 119, 115, 46, 70, 110, 66, 111, 111, 107, 115, 67, 111, 109, 109, 111, 110], [108, 111, 111, 112, 46, 101, 120, 97, 109, 112, 108, 101, 47, 110, 101, 117, 109, 101, 115, 47, 108, 97, 119, 115, 46, 70, 110, 69, 120, 97, 99, 116, 83, 116, 101, 109, 67, 104, 97, 110, 103, 101, 115], [108, 111, 111, 112, 46, 101, 120, 97, 109, 112, 108, 101, 47, 110, 101, 117, 109, 101, 115, 47, 108, 97, 119, 115, 46, 70, 110, 69, 120, 97, 99, 116, 83, 116, 101, 109, 77, 111, 118, 101], [108, 111, 111, 112, 46, 101, 120, 97, 109, 112, 108, 101, 47, 110, 101, 117, 109, 101, 115, 47, 108, 97, 119, 115, 46, 70, 110, 69, 120, 97, 99, 116, 83, 116, 101, 109, 66, 101, 115, 116], [108, 111, 111, 112, 46, 101, 120, 97, 109, 112, 108, 101, 47, 110, 101, 117, 109, 101, 115, 47, 108, 97, 119, 115, 46, 70, 110, 83, 116, 101, 109, 68, 101, 112, 116, 104], [108, 111, 111, 112, 46, 101, 120, 97, 109, 112, 108, 101, 47, 110, 101, 117, 109, 101, 115, 47, 108, 97, 119, 115, 46, 70, 110, 83, 116, 101, 109, 66, 101, 115, 116], [108, 111, 111, 112, 46, 101, 120, 97, 109, 112, 108, 101, 47, 110, 101, 117, 109, 101, 115, 47, 108, 97, 119, 115, 46, 70, 110, 69, 120, 97, 99, 116, 83, 116, 101, 109, 70, 101, 119, 101, 115, 116], [108, 111, 111, 112, 46, 101, 120, 97, 109, 112, 108, 101, 47, 110, 101, 117, 109, 101, 115, 47, 108, 97, 119, 115, 46, 70, 110, 83, 116, 101, 109, 70, 101, 119, 101, 115, 116], [108, 111, 111, 112, 46, 101, 120, 97, 109, 112, 108, 101, 47, 110, 101, 117, 109, 101, 115, 47, 108, 97, 119, 115, 46, 70, 110, 69, 120, 97, 99, 116, 83, 116, 101, 109, 70, 105, 108, 108], [108, 111, 111, 112, 46, 101, 120, 97, 109, 112, 108, 101, 47, 110, 101, 117, 109, 101, 115, 47, 108, 97, 119, 115, 46, 70, 110, 83, 116, 101, 109, 77, 111, 118, 101], [108, 111, 111, 112, 46, 101, 120, 97, 109, 112, 108, 101, 47, 110, 101, 117, 109, 101, 115, 47, 108, 97, 119, 115, 46, 70, 110, 83, 116, 101, 109, 76, 111, 115, 116], [108, 111, 111, 112, 46, 101, 120, 97, 109, 112, 108, 101, 47, 110, 101, 117, 109, 101, 115, 47, 108, 97, 119, 115, 46, 70, 110, 83, 116, 101, 109, 67, 104, 97, 110, 103, 101, 115]]
def ch (w : List Nat) : List Char := w.map Char.ofNat
theorem io_is : Tryd.prog.initOrder = String.ofList (ch io) := by kernel_rfl
theorem io_ws : wordsSigns (ch io) = ws.map ch := by kernel_rfl
theorem io_all : wordsSigns Tryd.prog.initOrder.toList = ws.map ch := by rw [io_is, String.toList_ofList, io_ws]
theorem be : behindMainWord (ws.map ch) = (ws.drop 2).map ch := by kernel_rfl
theorem io_be : behindMainWord (wordsSigns Tryd.prog.initOrder.toList) = (ws.drop 2).map ch := by rw [io_all, be]
theorem first : ∃ c r, (ws.drop 2).map ch = c :: r ∧ (c == "gc".toList || c == "spec".toList) = false ∧ (c == "carried".toList) = false := ⟨ch (ws.getD 2 []), (ws.drop 3).map ch, by kernel_rfl, by kernel_rfl, by kernel_rfl⟩
theorem st : stripLifts liftWords ((ws.drop 2).map ch) = ([], "cut".toList :: ((ws.drop 3).map ch)) := by kernel_rfl
theorem ll : ([].contains "finals" || !Tryd.prog.laysLater) = true := by kernel_rfl
theorem br : ([].contains "reflectrows" || !Tryd.prog.bearsReflect) = true := by kernel_rfl
theorem rr : ([].contains "reflectrows" || ![].contains "leanrows") = true := by kernel_rfl
theorem df : Tryd.prog.doorFits [] = true := by kernel_rfl
theorem mayE : Tryd.prog.mayEnter = true := mayEnter_of io_be first st ll br rr df
theorem finE : Tryd.prog.liftsFinal = [].contains "finals" := liftsFinal_of io_be first st
theorem mainE : Tryd.prog.mainIs = some (true, ch [97, 49, 55, 53, 100, 55, 49, 55, 50, 99, 49, 55, 51, 50, 52, 49, 97, 52, 51, 56, 99, 53, 50, 99, 97, 100, 56, 102, 50, 99, 98, 98, 56, 52, 101, 54, 98, 50, 52, 101, 51, 97, 99, 54, 56, 49, 102, 49, 99, 55, 51, 51, 99, 98, 98, 57, 52, 51, 98, 49, 102, 48, 55, 99]) := mainIs_of (rest := (ws.drop 2).map ch) (io_all.trans (by kernel_rfl)) (by kernel_rfl)
theorem makeE : Tryd.prog.make = some .cut := make_of (io_be.trans (by kernel_rfl : (ws.drop 2).map ch = "cut".toList :: ((ws.drop 3).map ch)))
end Go.Proofs.YtejoneninbdjbaaDoor.Head
end
section
namespace Go.Proofs.YtejoneninbdjbaaDoor.Pur
open Go.RowKit Go.ChangeShapes Go.Deep Go.Proofs.YtejoneninbdjbaaDoorW.PrintWords Go.Proofs.YtejoneninbdjbaaDoor.E
theorem open_rowP {P : Program} {H : Type} {enc : TypeId × Value → H} {W : World} {α : Type} [Inhabited α] {d : Kd α} {p : α → Prop} {t e : TypeId} {fuel : Nat} {cs : List Value} {x : DataW H × List MemPlace} (ht : P.underlying t = some (.slice e)) (hc : P.cellsOf e = d.sz)
    (o : ∀ (fuel : Nat) (cs : List Value) (x : DataW H × List MemPlace), DataW.trod enc P W 0 (fun _ => true) true fuel e cs = some x → ∃ y, d.K W y cs ∧ p y)
    (h : DataW.trod enc P W 0 (fun _ => true) true fuel t cs = some x) : ∃ (A : Option Addr) (c : Nat) (l : List α), cs = [.slice A l.length c] ∧ l.length ≤ c ∧ (l.length : Int) ≤ 9223372036854775807 ∧ d.C W A l.length l ∧ ∀ y ∈ l, p y := by
  rcases open_slice ht h with ⟨rfl, _⟩ | ⟨a, len, cap, m, n, D, Pl, rfl, _, hl, hm, hmm, _, hx⟩
  · exact ⟨none, 0, [], rfl, Nat.le_refl _, by simp, ⟨rfl, by simp, fun h => absurd h (by simp)⟩, fun y hy => by cases hy⟩
  · have hlm : len ≤ m := by rw [hmm]; simp; omega
    unfold maxLen at hm
    obtain ⟨Y, hY⟩ := choose_lt (α := α) (n := len) (p := fun i y => ∃ cs', W.cells? 0 (a.add (i * P.cellsOf e)) (P.cellsOf e) = some cs' ∧ d.K W y cs' ∧ p y) (fun i hi => by
      obtain ⟨cs', h1, h2⟩ := hx i (by omega)
      obtain ⟨y, hy, hp⟩ := o _ _ _ h2
      exact ⟨y, cs', h1, hy, hp⟩)
    have hlen : ((List.range len).map Y).length = len := by simp
    refine ⟨some a, cap, (List.range len).map Y, by rw [hlen], by rw [hlen]; exact hl, by rw [hlen]; omega, ⟨rfl, by rw [hlen]; omega, fun _ => ⟨a, rfl, fun j q hj => ?_⟩⟩, fun y hy => ?_⟩
    · obtain ⟨hj1, hj2⟩ := List.getElem?_eq_some_iff.1 hj
      rw [hlen] at hj1
      simp only [List.getElem_map, List.getElem_range] at hj2
      subst hj2
      obtain ⟨cs', h1, h2, _⟩ := hY j hj1
      obtain ⟨_, g1, g2⟩ := World.cells?_some h1
      refine ⟨cs', by rw [g1, hc], h2, fun i u hu => ?_⟩
      have := g2 i (by rw [← g1]; exact (List.getElem?_eq_some_iff.1 hu).1)
      rw [Go.Deep.add_add, hc, hu] at this
      exact this
    · obtain ⟨j, hj, rfl⟩ := List.mem_map.mp hy
      obtain ⟨_, _, _, hp⟩ := hY j (List.mem_range.mp hj)
      exact hp
theorem open_intsR {P : Program} {H : Type} {enc : TypeId × Value → H} {W : World} {k : IntKind} {t e : TypeId} {fuel : Nat} {cs : List Value} {x : DataW H × List MemPlace} (ht : P.underlying t = some (.slice e)) (he : P.underlying e = some (.int k)) (hc : P.cellsOf e = 1) (h : DataW.trod enc P W 0 (fun _ => true) true fuel t cs = some x) :
    ∃ (A : Option Addr) (c : Nat) (l : List Int), cs = [.slice A l.length c] ∧ l.length ≤ c ∧ (l.length : Int) ≤ 9223372036854775807 ∧ (Kd.int k).C W A l.length l ∧ ∀ y ∈ l, (Lit.int k y).wf = true :=
  open_rowP ht hc (fun fuel cs x h => by
    obtain ⟨s, rfl, _, hs⟩ := DataW.trod_int he h
    exact ⟨s, rfl, hs⟩) h
end Go.Proofs.YtejoneninbdjbaaDoor.Pur
end
section
namespace Go.Proofs.YtejoneninbdjbaaDoor.fnBooksCommon
open Go.ChangeShapes Go.WideShapes Go.ChangeAt Go.RowKit
open Go.ChangeMaps (open_string shut_string)
set_option linter.unusedVariables false
theorem own : ownKnob Tryd.prog.godebug = none := by kernel_rfl
theorem laidOut : laidOutB Tryd.prog = true := by kernel_rfl
set_option maxRecDepth 100000 in
theorem lifted (os : Os) (started : os.Started) (H : Type) (enc : TypeId × Value → H) :
    ReturnsInHanded {} Tryd.checked os 9 .any (fun w args => (Rows.fnBooksCommonSpec.pre enc Tryd.prog Tryd.f9 Rows.fnBooksCommonRow.domain false w args ∧ laidMetH Tryd.prog Rows.fnBooksCommonRow.laid w) ∧ sizedMet enc Tryd.prog Tryd.f9 (OpenSpec.ofChange Rows.fnBooksCommonSpec) false w args) (Rows.fnBooksCommonSpec.post enc Tryd.prog Tryd.f9 false true false false) := by
  refine returnsInHanded_of_change_and (C := Tryd.checked) (X := fun w _ => laidMetH Tryd.prog Rows.fnBooksCommonRow.laid w) (fun _ _ _ hh h => h.of_heap hh) own started (by kernel_rfl) Tryd.func9
    (ChangeSpec.witness_shaped (enc := enc) (C := Tryd.checked) (os := os) (X := fun w _ => laidMetH Tryd.prog Rows.fnBooksCommonRow.laid w) false (World.laidAll Tryd.prog os Rows.fnBooksCommonRow.laid) #[.slice none 0 0] 8 (World.laidAll_os _ _ _) (World.shaped_of_ZipB (by kernel_rfl) (by kernel_rfl)) (by kernel_rfl) (by kernel_rfl) (by kernel_rfl) (by rw [MakeChecks.laidMetH_plain _ _ _ (by kernel_rfl)]; exact laidMet_laidAll _ (by kernel_rfl) (by kernel_rfl))) ?_
  intro W base args ds gs before hval0 hW hcnd hsz0 hL _
  have hsz : (DataW.weightsEach Tryd.prog (Tryd.f9.params.toList ++ Rows.fnBooksCommonSpec.plain.varTypes Tryd.prog) (ds ++ gs)).all (· ≤ reachBytes) = true := hsz0
  have hval : ∀ (j : Nat) t v, Tryd.f9.params[j]? = some t → args[j]? = some v → Value.okWide Tryd.prog W .any base t v := hval0
  have hW' := hW
  obtain ⟨p, q, hA0, hV, rfl, hfz, hnd⟩ := hW
  have hA : DataW.TrodAll enc Tryd.prog W 0 (fun _ => true) true Tryd.f9.params.toList args.toList ds p := hA0
  rw [Tryd.params9] at hA hval hsz
  obtain ⟨v0, vs0, d0, ds0, p0, q0, hargs, rfl, rfl, h0, r0⟩ := trodAll_cons hA
  obtain ⟨rfl, rfl, rfl⟩ := trodAll_nil r0
  obtain rfl : args = #[v0] := by cases args; simp_all
  obtain ⟨rfl, rfl⟩ := trodVars_none hV
  have k0 := h0
  have lt0 : ∀ x ∈ p0, x.block < W.heap.size := by obtain ⟨m, hm⟩ := k0; exact DataW.trod_lt m _ _ _ hm
  obtain ⟨a0, len0, cap0, rfl⟩ := okWide_slice Tryd.underlying35 (hval 0 35 v0 rfl rfl)
  obtain ⟨fuel0, hf0⟩ := h0
  obtain ⟨A0, c0, l0, hcs0, hle0, hm0, hC0, hx0⟩ := Pur.open_intsR Tryd.underlying35 Tryd.underlying5 (by kernel_rfl) hf0
  simp [Value.cells] at hcs0
  obtain ⟨rfl, rfl, rfl⟩ := hcs0
  clear hA0 hval0 hsz0 hsz
  obtain ⟨k, hk⟩ := Pur.law_common l0 hm0 hx0
  refine (E.laws_FnBooksCommon.calls k _ _ l0 true W hC0 hle0 hk).mono fun e W' ⟨he, bel⟩ => ?_
  subst he
  exact ⟨_, rfl, _, _, _, [], _, [], hW', trodAll_mk1 (shut_bool Tryd.underlying4 _), (trodAll_cons_mk (Below.trod laidOut (by kernel_rfl) (of_decide_eq_true (by kernel_rfl)) k0 bel lt0) trodAll_mk0), rfl, bel.frame _, fun h => by cases h⟩
set_option maxRecDepth 100000 in
theorem closed : joinedFacts Tryd.prog 9 Tryd.f9 Rows.fnBooksCommonSpec Rows.fnBooksCommonRow = true := by
  have hf : (Rows.fnBooksCommonRow.lifted == Tryd.prog.liftsFinal) = true := by rw [Head.finE]; kernel_rfl
  have hm : (Tryd.prog.make == some Rows.fnBooksCommonRow.make) = true := by rw [Head.makeE]; kernel_rfl
  unfold joinedFacts
  repeat' (with_reducible refine Head.and_t ?_ ?_)
  all_goals first | with_reducible exact Head.mayE | with_reducible exact hf | with_reducible exact hm | (as_aux_lemma => kernel_rfl)
theorem over : Rows.fnBooksCommonRow.holds Tryd.pinned (OpenSpec.ofChange Rows.fnBooksCommonSpec) :=
  OpenClaim.holds_of_wide 9 Tryd.f9 rfl rfl rfl rfl rfl rfl rfl ⟨rfl, rfl, rfl, rfl, rfl⟩ rfl rfl rfl rfl rfl (by kernel_rfl) Tryd.func9 closed
    (of_decide_eq_true (by kernel_rfl)) (by unfold Func.isWrapper; first | (rw [if_pos (by decide +kernel)]; kernel_rfl) | (rw [if_neg (by decide +kernel)]; exact ⟨rfl, rfl⟩))
    (fun os started H enc _ => lifted os started H enc)
theorem card_ : Rows.FnBooksCommonCardSaid :=
  Claim7.holds_tied_plain_at .later [] [.data, .pinned] true (true, "a175d7172c173241a438c52cad8f2cbb84e6b24e3ac681f1c733cbb943b1f07c") false
    over (fun _ h => by cases h) (by as_aux_lemma => kernel_rfl) (fun _ h => by cases h) fnBooksCommon_row_tie rfl ⟨rfl, rfl⟩ (Head.mainE.trans (by as_aux_lemma => kernel_rfl)) rfl
    (fun f fn hf hfn => by
      obtain rfl : f = 9 := Option.some.inj ((show Tryd.prog.funcNamed "loop.example/neumes/laws.FnBooksCommon" = some 9 by kernel_rfl).symm.trans hf) |>.symm
      obtain rfl : fn = Tryd.f9 := (Option.some.inj (Tryd.func9.symm.trans hfn)).symm
      exact ⟨by kernel_rfl, fun j t ht => by
        rw [Tryd.params9] at ht
        have hm : t ∈ [35] := by simpa using Array.mem_of_getElem? ht
        have hall : ([35].all fun u => !Tryd.prog.wantsStandIn u) = true := by kernel_rfl
        exact (show Tryd.prog.wantsStandIn t = false by simpa using List.all_eq_true.1 hall t hm)⟩)
    (by kernel_rfl)
theorem proved : Rows.FnBooksCommonCardSaid := card_
#print axioms proved
end Go.Proofs.YtejoneninbdjbaaDoor.fnBooksCommon
namespace Go.Proofs.YtejoneninbdjbaaDoor
theorem fnBooksCommon_holds : Rows.FnBooksCommonCardSaid := fnBooksCommon.proved
end Go.Proofs.YtejoneninbdjbaaDoor
end
