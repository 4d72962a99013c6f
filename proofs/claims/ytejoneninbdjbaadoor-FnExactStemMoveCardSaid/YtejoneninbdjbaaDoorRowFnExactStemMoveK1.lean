/- Proved: for all arguments the given program's laws.FnExactStemMove returns true, and its arguments read afterwards as they read before (the given constant Rows.FnExactStemMoveCardSaid).
Conditions: none ahead of the given statement; the statement itself begins in a world whose listed package-level variables hold what the program's text lays there, and its card ties them to that text. -/
import Derived.Test.YtejoneninbdjbaaDoorRowFnExactStemMoveK0
section
namespace Go.Proofs.YtejoneninbdjbaaDoor.E
open Go.RowKit Go.Proofs.YtejoneninbdjbaaDoorW.PrintWords Go.Proofs.YtejoneninbdjbaaDoorW.PrintLast Go.Proofs.YtejoneninbdjbaaDoorW.PrintMore
attribute [local go_sem] max2_int min2_int max_two min_two max_three min_three max_four min_four
set_option linter.unusedVariables false
set_option linter.unusedSimpArgs false
attribute [local go_sem] str_leq_ str_gtr_ str_geq_
def laws_markText.l0 : Nat → Int → ByteArray → Option (ByteArray)
 | 0, _, _ => none
 | k + 1, x0, x3 => if x0 > 0 then ((some (([(wrap64 (48 + (Int.tmod x0 10))) % 256] : List Int) : List Int)).bind fun y398 => (if (strOfNums y398).size + x3.size ≤ 9223372036854775807 then (laws_markText.l0 k (wrap64 (Int.tdiv x0 10)) ((strOfNums y398) ++ x3)) else (none))) else (if 1 + x3.size ≤ 9223372036854775807 then (some ((⟨#[109]⟩ : ByteArray) ++ x3)) else (none))
def laws_markText.f (k : Nat) (a0 : Int) : Option (ByteArray) := if a0 ≤ 0 then (some (⟨#[109, 48]⟩ : ByteArray)) else (laws_markText.l0 k a0 (⟨#[]⟩ : ByteArray))
set_option maxHeartbeats 8000000 in
set_option maxRecDepth 100000 in
theorem laws_markText.calls (k : Nat) (a0 : Int) (r : ByteArray) (w : World) (h : laws_markText.f k a0 = some r) :
  Calls Tryd.prog 71 #[.int .i64 a0] w fun e w' => e = .returned (.string r) ∧ Below w.heap.size w w' := by
 have HB := Aside0.mk (Below.refl w.heap.size w)
 have H : (if a0 ≤ 0 then (some (⟨#[109, 48]⟩ : ByteArray)) else (laws_markText.l0 k a0 (⟨#[]⟩ : ByteArray))) = some r := h
 clear h
 by_cases c2 : a0 ≤ 0
 ·rw [if_pos c2] at H
  have c2b0 : decide (a0 ≤ 0) = true := decide_eq_true c2
  clear c2
  obtain rfl := Option.some.inj H
  go_enter Tryd.func71, Tryd.ntmps71
  go_wp2
  go_ret
  exact ⟨by first | rfl | (simp [errW_none, errW_some] <;> rfl) | (simp [*, errW_none, errW_some] <;> rfl), by repeat (first | (with_reducible first | exact HB.out | apply below_alloc | apply pw_below_drewN | apply below_drew1) | exact HB.out)⟩
 rw [if_neg c2] at H
 have c2b0 : decide (a0 ≤ 0) = false := decide_eq_false c2
 clear c2
 have H' := Aside0.mk H
 clear H
 go_enter Tryd.func71, Tryd.ntmps71
 go_wp2
 go_loopg [0, 3] k (fun kq v0 v3 w' => ∃ (x0_1 : Int) (x3_1 : ByteArray), v0 = .int .i64 x0_1 ∧ v3 = .string x3_1 ∧ Aside0 (laws_markText.l0 kq x0_1 x3_1 = some r) ∧ Aside0 (kq ≤ k) ∧ Aside0 (Below w.heap.size w w'))
 case atStart => exact ⟨(a0), ((⟨#[]⟩ : ByteArray)), (by first | rfl | (simp; done) | (simp [*]; done)), (by first | rfl | (simp; done) | (simp [*]; done)), H', ⟨Nat.le_refl _⟩, ⟨by repeat (first | (with_reducible first | exact HB.out | apply below_alloc | apply pw_below_drewN | apply below_drew1) | exact HB.out)⟩⟩
 case round =>
  clear H'
  try clear c2
  try clear c2b0
  try clear p2
  obtain ⟨x0_1, x3_1, rfl, rfl, HA, HK1, HB⟩ := hrel
  cases gk with
  | zero => exact absurd HA.out (by simp [laws_markText.l0])
  | succ k1 =>
   have H := HA.out
   clear HA
   simp only [laws_markText.l0] at H
   by_cases c3 : x0_1 > 0
   rotate_left
   ·rw [if_neg c3] at H
    have c3b0 : decide (0 < x0_1) = false := decide_eq_false c3
    clear c3
    by_cases c8 : 1 + x3_1.size ≤ 9223372036854775807
    rotate_left
    ·rw [if_neg c8] at H
     exact absurd H (by simp)
    rw [if_pos c8] at H
    have c8b0 := eq_true c8
    have c8b1 : decide (1 + x3_1.size ≤ 9223372036854775807) = true := decide_eq_true c8
    try have c8b2 : (9223372036854775807 < 1 + x3_1.size) = False := eq_false (Nat.not_lt.2 c8)
    obtain rfl := Option.some.inj H
    go_wp2
    go_ret
    exact ⟨by first | rfl | (simp [errW_none, errW_some] <;> rfl) | (simp [*, errW_none, errW_some] <;> rfl), by repeat (first | (with_reducible first | exact HB.out | apply below_alloc | apply pw_below_drewN | apply below_drew1) | exact HB.out)⟩
   rw [if_pos c3] at H
   have c3b0 : decide (0 < x0_1) = true := decide_eq_true c3
   clear c3
   obtain ⟨y398, hy398⟩ : ∃ y_ : List Int, y_ = (([(wrap64 (48 + (Int.tmod x0_1 10))) % 256] : List Int)) := ⟨_, rfl⟩
   replace H : (if (strOfNums y398).size + x3_1.size ≤ 9223372036854775807 then (laws_markText.l0 k1 (wrap64 (Int.tdiv x0_1 10)) ((strOfNums y398) ++ x3_1)) else (none)) = some r := by first | (rw [hy398]; with_reducible exact H) | (have H2_ := (Option.bind_some _ _).symm.trans H; rw [hy398]; with_reducible exact H2_) | (have H2_ := (Option.bind_some _ _).symm.trans H; with_reducible exact H2_) | with_reducible exact H | (rw [hy398]; exact H) | exact H
   have Ny398 := Aside0.mk hy398
   clear hy398
   by_cases c4 : (strOfNums y398).size + x3_1.size ≤ 9223372036854775807
   rotate_left
   ·rw [if_neg c4] at H
    exact absurd H (by simp)
   rw [if_pos c4] at H
   have c4b0 := eq_true c4
   have c4b1 : decide ((strOfNums y398).size + x3_1.size ≤ 9223372036854775807) = true := decide_eq_true c4
   try have c4b2 : (9223372036854775807 < (strOfNums y398).size + x3_1.size) = False := eq_false (Nat.not_lt.2 c4)
   have H' := Aside0.mk H
   clear H
   go_wp2_with (first | ((with_reducible refine gate_dst (N := 12) rfl ?_); refine Kd.R_lit (Kd.int .u8) _ 5 ?hg (N := 12) ?hd (xs := ([(wrap64 (48 + (Int.tmod x0_1 10))) % 256] : List Int)) (inner := [.int .u8 ((wrap64 (48 + (Int.tmod x0_1 10))) % 256)]) (ok := fun _ => True) (okp := fun _ => True) ?hr ?hp (fun _ hk => hk) trivial (Below.refl _ _) (Nat.le_refl _) (by simp) ?_; (case hd => rfl); (case hg => rfl); (case hr => first | (go_simp; done) | (go_simp; rfl)); (case hp => exact (Reps.one (show Kd.M (Kd.int .u8) _ _ _ ((wrap64 (48 + (Int.tmod x0_1 10))) % 256) [.int .u8 ((wrap64 (48 + (Int.tmod x0_1 10))) % 256)] from rfl) (Reps.none _ _))); intro v399 w5 ho6 hb hg_ hnew_; clear hg_ hnew_; (first | rw [← Ny398.out] at ho6 | (simp only [Int.reduceToNat] at ho6; rw [← Ny398.out] at ho6)); have n0_ := Aside0.mk (Kd.R_lower ho6 (below_size (by repeat (first | (with_reducible first | exact HB.out | apply below_alloc | apply pw_below_drewN | apply below_drew1) | exact HB.out)))); have n1_ := Aside0.mk (below_step (by repeat (first | (with_reducible first | exact HB.out | apply below_alloc | apply pw_below_drewN | apply below_drew1) | exact HB.out)) hb); clear HB; have HO400 := n0_; have HB := n1_; clear n0_ n1_; clear hb ho6; have hcv7 := own_string (P := Tryd.prog) Tryd.underlying35 Tryd.underlying5 Tryd.underlying9 (Kd.own_of_R HO400.out)))
   go_roundg k1
   case measure => have := HK1.out; omega
   case rel => exact ⟨(wrap64 (Int.tdiv x0_1 10)), ((strOfNums y398) ++ x3_1), (by first | rfl | (simp; done) | (simp [*]; done)), (by first | rfl | (simp; done) | (simp [*]; done)), H', ⟨by have := HK1.out; omega⟩, ⟨by repeat (first | (with_reducible first | exact HB.out | apply below_alloc | apply pw_below_drewN | apply below_drew1) | exact HB.out)⟩⟩
end Go.Proofs.YtejoneninbdjbaaDoor.E
end
section
namespace Go.Proofs.YtejoneninbdjbaaDoor.E
open Go.RowKit Go.Proofs.YtejoneninbdjbaaDoorW.PrintWords Go.Proofs.YtejoneninbdjbaaDoorW.PrintLast Go.Proofs.YtejoneninbdjbaaDoorW.PrintMore
attribute [local go_sem] max2_int min2_int max_two min_two max_three min_three max_four min_four
set_option linter.unusedVariables false
set_option linter.unusedSimpArgs false
attribute [local go_sem] str_leq_ str_gtr_ str_geq_
def laws_markStringS.l0 : Nat → List ByteArray → Int → Int → Option (Int × List ByteArray)
 | 0, _, _, _ => none
 | k + 1, x0, x1, x5 => if x5 < (x0.length : Int) then ((laws_markText.f k x1).bind fun t401 => (if 0 ≤ x5 then (laws_markStringS.l0 k (x0.set (x5 : Int).toNat t401) (wrap64 (x1 + 1)) (wrap64 (x5 + 1))) else (none))) else (some (x1, x0))
def laws_markStringS.f (k : Nat) (l0 : List ByteArray) (a1 : Int) : Option (Int × List ByteArray) := laws_markStringS.l0 k l0 a1 0
set_option maxHeartbeats 8000000 in
set_option maxRecDepth 100000 in
theorem laws_markStringS.calls (k : Nat) (P0_ : Nat → Prop) (u9000_ : Value) (l0 : List ByteArray) (a1 : Int) (r1 : Int) (r2 : List ByteArray) (w0 w : World) (hB : Below w0.heap.size w0 w) (ho0 : Kd.R Kd.string 9 w w0.heap.size P0_ u9000_ l0) (h : laws_markStringS.f k l0 a1 = some (r1, r2)) :
  Calls Tryd.prog 42 #[u9000_, .int .i64 a1] w fun e w' => e = .returned (.int .i64 r1) ∧ Kd.R Kd.string 9 w' w0.heap.size (fun k_ => (P0_ k_ ∨ w.heap.size ≤ k_)) u9000_ r2 ∧ Below w0.heap.size w0 w' ∧ Kept w w' (fun k_ => P0_ k_) := by
 have HO0 := Aside0.mk (show Kd.R Kd.string 9 w w0.heap.size (fun k_ => (P0_ k_ ∨ w.heap.size ≤ k_)) u9000_ l0 from Kd.R_mono ho0 (fun k_ hk => (.inl hk)))
 have HK := Aside0.mk (Kept.refl w (fun k_ => P0_ k_))
 have HW0 := Aside0.mk hB.size
 have HB := Aside0.mk hB
 clear hB
 have H : (laws_markStringS.l0 k l0 a1 0) = some (r1, r2) := h
 clear h
 have H' := Aside0.mk H
 clear H
 go_enter Tryd.func42, Tryd.ntmps42
 go_wp2
 go_loopg [1, 5] k (fun kq v1 v5 w' => ∃ (x0_1 : List ByteArray) (x1_1 : Int) (x5_1 : Int), v1 = .int .i64 x1_1 ∧ v5 = .int .i64 x5_1 ∧ Aside0 (laws_markStringS.l0 kq x0_1 x1_1 x5_1 = some (r1, r2)) ∧ Aside0 (kq ≤ k) ∧ Aside0 (Kd.R Kd.string 9 w' w0.heap.size (fun k_ => (P0_ k_ ∨ w.heap.size ≤ k_)) u9000_ x0_1) ∧ Aside0 (Kept w w' (fun k_ => P0_ k_)) ∧ Aside0 (Below w0.heap.size w0 w'))
 case atStart => exact ⟨(l0), (a1), (0), (by first | rfl | (simp; done) | (simp [*]; done)), (by first | rfl | (simp; done) | (simp [*]; done)), H', ⟨Nat.le_refl _⟩, ⟨by (with_reducible repeat (first | apply Kd.R_alloc | apply Kd.R_drewN | apply Kd.R_drew)); exact HO0.out⟩, ⟨by repeat (first | (with_reducible first | exact HK.out | apply Kept.alloc | apply Kept.drewN | apply Kept.drew) | exact HK.out)⟩, ⟨by repeat (first | (with_reducible first | exact HB.out | apply below_alloc | apply pw_below_drewN | apply below_drew1) | exact HB.out)⟩⟩
 case round =>
  clear H'
  try clear p2
  obtain ⟨x0_1, x1_1, x5_1, rfl, rfl, HA, HK1, HO_0, HK, HB⟩ := hrel
  cases gk with
  | zero => exact absurd HA.out (by simp [laws_markStringS.l0])
  | succ k1 =>
   have H := HA.out
   clear HA
   simp only [laws_markStringS.l0] at H
   by_cases c3 : x5_1 < (x0_1.length : Int)
   rotate_left
   ·rw [if_neg c3] at H
    have c3b0 : decide (x5_1 < (x0_1.length : Int)) = false := decide_eq_false c3
    clear c3
    simp only [Option.some.injEq, Prod.mk.injEq] at H
    obtain ⟨rfl, rfl⟩ := H
    obtain ⟨Ao11, co11, eo11⟩ := Kd.R_slice HO_0.out
    subst eo11
    go_wp2
    go_ret
    exact ⟨by first | rfl | (simp [errW_none, errW_some] <;> rfl) | (simp [*, errW_none, errW_some] <;> rfl), by (with_reducible repeat (first | apply Kd.R_alloc | apply Kd.R_drewN | apply Kd.R_drew)); exact HO_0.out, by repeat (first | (with_reducible first | exact HB.out | apply below_alloc | apply pw_below_drewN | apply below_drew1) | exact HB.out), by repeat (first | (with_reducible first | exact HK.out | apply Kept.alloc | apply Kept.drewN | apply Kept.drew) | exact HK.out)⟩
   rw [if_pos c3] at H
   have c3b0 : decide (x5_1 < (x0_1.length : Int)) = true := decide_eq_true c3
   clear c3
   replace H := Option.bind_eq_some_iff.mp H
   obtain ⟨t401, A40, H⟩ := H
   replace H : (if 0 ≤ x5_1 then (laws_markStringS.l0 k1 (x0_1.set (x5_1 : Int).toNat t401) (wrap64 (x1_1 + 1)) (wrap64 (x5_1 + 1))) else (none)) = some (r1, r2) := H
   have A4 := Aside0.mk A40
   clear A40
   by_cases c5 : 0 ≤ x5_1
   rotate_left
   ·rw [if_neg c5] at H
    exact absurd H (by simp)
   rw [if_pos c5] at H
   have c5b0 : decide (0 ≤ x5_1) = true := decide_eq_true c5
   clear c5
   obtain ⟨y402, hy402⟩ : ∃ y_ : List ByteArray, y_ = (x0_1.set (x5_1 : Int).toNat t401) := ⟨_, rfl⟩
   replace H : (laws_markStringS.l0 k1 y402 (wrap64 (x1_1 + 1)) (wrap64 (x5_1 + 1))) = some (r1, r2) := by first | (rw [hy402]; with_reducible exact H) | (have H2_ := (Option.bind_some _ _).symm.trans H; rw [hy402]; with_reducible exact H2_) | (have H2_ := (Option.bind_some _ _).symm.trans H; with_reducible exact H2_) | with_reducible exact H | (rw [hy402]; exact H) | exact H
   have Ny402 := Aside0.mk hy402
   clear hy402
   have H' := Aside0.mk H
   clear H
   obtain ⟨Ao7, co7, eo7⟩ := Kd.R_slice HO_0.out
   subst eo7
   go_wp2_with (first | ((with_reducible refine gate_callee (f := 71) rfl ?_); refine goesL_ (some 15) rfl rfl Tryd.func71 (by kernel_rfl) rfl #[.int .i64 x1_1] rfl (by (try simp only [List.map_toArray, List.map_cons, List.map_nil]); first | done | rfl | (simp only [List.length_drop, List.length_take]; rfl)) ?_; (with_reducible refine (laws_markText.calls k1 x1_1 t401 _ A4.out).mono ?_); rintro e w8 ⟨rfl, hb⟩; refine ⟨_, rfl, ?_⟩; have n0_ := Aside0.mk (Kd.R_below (by (with_reducible repeat (first | apply Kd.R_alloc | apply Kd.R_drewN | apply Kd.R_drew)); exact HO_0.out) hb); have n1_ := Aside0.mk (Kept.below (S := (fun k_ => P0_ k_)) (by repeat (first | (with_reducible first | exact HK.out | apply Kept.alloc | apply Kept.drewN | apply Kept.drew) | exact HK.out)) hb); have n2_ := Aside0.mk (below_step (by repeat (first | (with_reducible first | exact HB.out | apply below_alloc | apply pw_below_drewN | apply below_drew1) | exact HB.out)) hb); clear HO_0; clear HK; clear HB; have HO_0 := n0_; have HK := n1_; have HB := n2_; clear n0_ n1_ n2_; (try clear hb); (try clear hb2); (try clear hk); (try clear hi); have p6 : 0 ≤ (x5_1 : Int) := of_decide_eq_true (by first | (with_reducible assumption) | assumption); have q6 : (x5_1 : Int) < ((x0_1.length : Int) : Int) := of_decide_eq_true (by first | (with_reducible assumption) | assumption); obtain ⟨go6, co6, eo6, gb6, gl6, cl6, HG6⟩ := Kd.R_form HO_0.out (by omega); (first | cases eo6 | (injection eo6 with ea_ en_ ec_; (first | subst ea_ | (injection ea_ with ea_; subst ea_)); subst ec_; clear en_)); have GB6 := Aside0.mk gb6; have GG6 := Aside0.mk HG6; clear gb6 gl6 HG6; have HMgo6 := Aside0.mk (show (P0_ go6 ∨ w.heap.size ≤ go6) from (HO_0.out.1 _ rfl)); obtain ⟨hx6_0, hf6_0⟩ := Kd.R_celln (⟨#[]⟩ : ByteArray) HO_0.out (x5_1 : Int) p6 q6; replace p6 := eq_true p6; replace q6 := eq_true q6; obtain ⟨hy9_, hz9_⟩ := Kd.R_celln (⟨#[]⟩ : ByteArray) HO_0.out (x5_1 : Int) (of_decide_eq_true (by first | (with_reducible assumption) | assumption)) (of_decide_eq_true (by first | (with_reducible assumption) | assumption)); have HP9 := Kd.R_putg HO_0.out (x5_1 : Int) t401) | ((with_reducible refine gate_store (t := 9) (p := 16) rfl ?_); refine store_event (t := 9) (p := 16) (v := ?vo_w10) (w1 := (w8.setCell ⟨go6, (x5_1 : Int).toNat, none⟩ (.string t401))) ?hg ?ho ?hn ?hr ?_; (case ho => rfl); (case hg => rfl); (case hn => rfl); (case hr => first | (go_simp; done) | (go_simp; rfl)); intro w10 hw; have hg : w8.grownBy w10 (some go6) := (by rw [hw]; exact HP9.2); have hp_ : Kd.R Kd.string 9 w10 w0.heap.size (fun k_ => (P0_ k_ ∨ w.heap.size ≤ k_)) (.slice (some ⟨go6, 0, none⟩) x0_1.length co7) y402 := (by rw [hw, Ny402.out]; exact HP9.1); clear HP9; have n0_ := Aside0.mk (hp_); have n1_ := Aside0.mk ((by rw [hw]; exact below_set (HB.out) GB6.out : Below w0.heap.size w0 w10)); have n2_ := Aside0.mk (Kept.of_grown (S := (fun k_ => P0_ k_)) hg (by repeat (first | (with_reducible first | exact HK.out | apply Kept.alloc | apply Kept.drewN | apply Kept.drew) | exact HK.out)) (fun k_ e_ => (HO_0.out.1 k_ e_))); clear HO_0; clear HB; clear HK; have HO_0 := n0_; have HB := n1_; have HK := n2_; clear n0_ n1_ n2_; clear hg hw hp_))
   go_roundg k1
   case measure => have := HK1.out; omega
   case rel => exact ⟨(y402), (wrap64 (x1_1 + 1)), (wrap64 (x5_1 + 1)), (by first | rfl | (simp; done) | (simp [*]; done)), (by first | rfl | (simp; done) | (simp [*]; done)), H', ⟨by have := HK1.out; omega⟩, ⟨by (with_reducible repeat (first | apply Kd.R_alloc | apply Kd.R_drewN | apply Kd.R_drew)); exact HO_0.out⟩, ⟨by repeat (first | (with_reducible first | exact HK.out | apply Kept.alloc | apply Kept.drewN | apply Kept.drew) | exact HK.out)⟩, ⟨by repeat (first | (with_reducible first | exact HB.out | apply below_alloc | apply pw_below_drewN | apply below_drew1) | exact HB.out)⟩⟩
end Go.Proofs.YtejoneninbdjbaaDoor.E
end
section
namespace Go.Proofs.YtejoneninbdjbaaDoor.E
open Go.RowKit Go.Proofs.YtejoneninbdjbaaDoorW.PrintWords Go.Proofs.YtejoneninbdjbaaDoorW.PrintLast Go.Proofs.YtejoneninbdjbaaDoorW.PrintMore
attribute [local go_sem] max2_int min2_int max_two min_two max_three min_three max_four min_four
set_option linter.unusedVariables false
set_option linter.unusedSimpArgs false
attribute [local go_sem] str_leq_ str_gtr_ str_geq_
def laws_markIntS.l0 : Nat → List Int → Int → Int → Option (Int × List Int)
 | 0, _, _, _ => none
 | k + 1, x0, x1, x5 => if x5 < (x0.length : Int) then (if 0 ≤ x5 then (laws_markIntS.l0 k (x0.set (x5 : Int).toNat x1) (wrap64 (x1 + 1)) (wrap64 (x5 + 1))) else (none)) else (some (x1, x0))
def laws_markIntS.f (k : Nat) (l0 : List Int) (a1 : Int) : Option (Int × List Int) := laws_markIntS.l0 k l0 a1 0
set_option maxHeartbeats 8000000 in
set_option maxRecDepth 100000 in
theorem laws_markIntS.calls (k : Nat) (P0_ : Nat → Prop) (u9000_ : Value) (l0 : List Int) (a1 : Int) (r1 : Int) (r2 : List Int) (w0 w : World) (hB : Below w0.heap.size w0 w) (ho0 : Kd.R (Kd.int .i64) 3 w w0.heap.size P0_ u9000_ l0) (h : laws_markIntS.f k l0 a1 = some (r1, r2)) :
  Calls Tryd.prog 43 #[u9000_, .int .i64 a1] w fun e w' => e = .returned (.int .i64 r1) ∧ Kd.R (Kd.int .i64) 3 w' w0.heap.size (fun k_ => (P0_ k_ ∨ w.heap.size ≤ k_)) u9000_ r2 ∧ Below w0.heap.size w0 w' ∧ Kept w w' (fun k_ => P0_ k_) := by
 have HO0 := Aside0.mk (show Kd.R (Kd.int .i64) 3 w w0.heap.size (fun k_ => (P0_ k_ ∨ w.heap.size ≤ k_)) u9000_ l0 from Kd.R_mono ho0 (fun k_ hk => (.inl hk)))
 have HK := Aside0.mk (Kept.refl w (fun k_ => P0_ k_))
 have HW0 := Aside0.mk hB.size
 have HB := Aside0.mk hB
 clear hB
 have H : (laws_markIntS.l0 k l0 a1 0) = some (r1, r2) := h
 clear h
 have H' := Aside0.mk H
 clear H
 go_enter Tryd.func43, Tryd.ntmps43
 go_wp2
 go_loopg [1, 5] k (fun kq v1 v5 w' => ∃ (x0_1 : List Int) (x1_1 : Int) (x5_1 : Int), v1 = .int .i64 x1_1 ∧ v5 = .int .i64 x5_1 ∧ Aside0 (laws_markIntS.l0 kq x0_1 x1_1 x5_1 = some (r1, r2)) ∧ Aside0 (kq ≤ k) ∧ Aside0 (Kd.R (Kd.int .i64) 3 w' w0.heap.size (fun k_ => (P0_ k_ ∨ w.heap.size ≤ k_)) u9000_ x0_1) ∧ Aside0 (Kept w w' (fun k_ => P0_ k_)) ∧ Aside0 (Below w0.heap.size w0 w'))
 case atStart => exact ⟨(l0), (a1), (0), (by first | rfl | (simp; done) | (simp [*]; done)), (by first | rfl | (simp; done) | (simp [*]; done)), H', ⟨Nat.le_refl _⟩, ⟨by (with_reducible repeat (first | apply Kd.R_alloc | apply Kd.R_drewN | apply Kd.R_drew)); exact HO0.out⟩, ⟨by repeat (first | (with_reducible first | exact HK.out | apply Kept.alloc | apply Kept.drewN | apply Kept.drew) | exact HK.out)⟩, ⟨by repeat (first | (with_reducible first | exact HB.out | apply below_alloc | apply pw_below_drewN | apply below_drew1) | exact HB.out)⟩⟩
 case round =>
  clear H'
  try clear p2
  obtain ⟨x0_1, x1_1, x5_1, rfl, rfl, HA, HK1, HO_0, HK, HB⟩ := hrel
  cases gk with
  | zero => exact absurd HA.out (by simp [laws_markIntS.l0])
  | succ k1 =>
   have H := HA.out
   clear HA
   simp only [laws_markIntS.l0] at H
   by_cases c3 : x5_1 < (x0_1.length : Int)
   rotate_left
   ·rw [if_neg c3] at H
    have c3b0 : decide (x5_1 < (x0_1.length : Int)) = false := decide_eq_false c3
    clear c3
    simp only [Option.some.injEq, Prod.mk.injEq] at H
    obtain ⟨rfl, rfl⟩ := H
    obtain ⟨Ao9, co9, eo9⟩ := Kd.R_slice HO_0.out
    subst eo9
    go_wp2
    go_ret
    exact ⟨by first | rfl | (simp [errW_none, errW_some] <;> rfl) | (simp [*, errW_none, errW_some] <;> rfl), by (with_reducible repeat (first | apply Kd.R_alloc | apply Kd.R_drewN | apply Kd.R_drew)); exact HO_0.out, by repeat (first | (with_reducible first | exact HB.out | apply below_alloc | apply pw_below_drewN | apply below_drew1) | exact HB.out), by repeat (first | (with_reducible first | exact HK.out | apply Kept.alloc | apply Kept.drewN | apply Kept.drew) | exact HK.out)⟩
   rw [if_pos c3] at H
   have c3b0 : decide (x5_1 < (x0_1.length : Int)) = true := decide_eq_true c3
   clear c3
   by_cases c4 : 0 ≤ x5_1
   rotate_left
   ·rw [if_neg c4] at H
    exact absurd H (by simp)
   rw [if_pos c4] at H
   have c4b0 : decide (0 ≤ x5_1) = true := decide_eq_true c4
   clear c4
   obtain ⟨y403, hy403⟩ : ∃ y_ : List Int, y_ = (x0_1.set (x5_1 : Int).toNat x1_1) := ⟨_, rfl⟩
   replace H : (laws_markIntS.l0 k1 y403 (wrap64 (x1_1 + 1)) (wrap64 (x5_1 + 1))) = some (r1, r2) := by first | (rw [hy403]; with_reducible exact H) | (have H2_ := (Option.bind_some _ _).symm.trans H; rw [hy403]; with_reducible exact H2_) | (have H2_ := (Option.bind_some _ _).symm.trans H; with_reducible exact H2_) | with_reducible exact H | (rw [hy403]; exact H) | exact H
   have Ny403 := Aside0.mk hy403
   clear hy403
   have H' := Aside0.mk H
   clear H
   obtain ⟨Ao6, co6, eo6⟩ := Kd.R_slice HO_0.out
   subst eo6
   have p5 : 0 ≤ (x5_1 : Int) := of_decide_eq_true (by first | (with_reducible assumption) | assumption)
   have q5 : (x5_1 : Int) < ((x0_1.length : Int) : Int) := of_decide_eq_true (by first | (with_reducible assumption) | assumption)
   obtain ⟨go5, co5, eo5, gb5, gl5, cl5, HG5⟩ := Kd.R_form HO_0.out (by omega)
   (first | cases eo5 | (injection eo5 with ea_ en_ ec_; (first | subst ea_ | (injection ea_ with ea_; subst ea_)); subst ec_; clear en_))
   have GB5 := Aside0.mk gb5
   have GG5 := Aside0.mk HG5
   clear gb5 gl5 HG5
   have HMgo5 := Aside0.mk (show (P0_ go5 ∨ w.heap.size ≤ go5) from (HO_0.out.1 _ rfl))
   obtain ⟨hx5_0, hf5_0⟩ := Kd.R_celln 0 HO_0.out (x5_1 : Int) p5 q5
   replace p5 := eq_true p5
   replace q5 := eq_true q5
   have HP7 := Kd.R_putg HO_0.out (x5_1 : Int) x1_1
   go_wp2_with (first | ((with_reducible refine gate_store (t := 3) (p := 15) rfl ?_); refine store_event (t := 3) (p := 15) (v := ?vo_w8) (w1 := (wr.setCell ⟨go5, (x5_1 : Int).toNat, none⟩ (.int .i64 x1_1))) ?hg ?ho ?hn ?hr ?_; (case ho => rfl); (case hg => rfl); (case hn => rfl); (case hr => first | (go_simp; done) | (go_simp; rfl)); intro w8 hw; have hg : wr.grownBy w8 (some go5) := (by rw [hw]; exact HP7.2); have hp_ : Kd.R (Kd.int .i64) 3 w8 w0.heap.size (fun k_ => (P0_ k_ ∨ w.heap.size ≤ k_)) (.slice (some ⟨go5, 0, none⟩) x0_1.length co6) y403 := (by rw [hw, Ny403.out]; exact HP7.1); clear HP7; have n0_ := Aside0.mk (hp_); have n1_ := Aside0.mk ((by rw [hw]; exact below_set (HB.out) GB5.out : Below w0.heap.size w0 w8)); have n2_ := Aside0.mk (Kept.of_grown (S := (fun k_ => P0_ k_)) hg (by repeat (first | (with_reducible first | exact HK.out | apply Kept.alloc | apply Kept.drewN | apply Kept.drew) | exact HK.out)) (fun k_ e_ => (HO_0.out.1 k_ e_))); clear HO_0; clear HB; clear HK; have HO_0 := n0_; have HB := n1_; have HK := n2_; clear n0_ n1_ n2_; clear hg hw hp_))
   go_roundg k1
   case measure => have := HK1.out; omega
   case rel => exact ⟨(y403), (wrap64 (x1_1 + 1)), (wrap64 (x5_1 + 1)), (by first | rfl | (simp; done) | (simp [*]; done)), (by first | rfl | (simp; done) | (simp [*]; done)), H', ⟨by have := HK1.out; omega⟩, ⟨by (with_reducible repeat (first | apply Kd.R_alloc | apply Kd.R_drewN | apply Kd.R_drew)); exact HO_0.out⟩, ⟨by repeat (first | (with_reducible first | exact HK.out | apply Kept.alloc | apply Kept.drewN | apply Kept.drew) | exact HK.out)⟩, ⟨by repeat (first | (with_reducible first | exact HB.out | apply below_alloc | apply pw_below_drewN | apply below_drew1) | exact HB.out)⟩⟩
end Go.Proofs.YtejoneninbdjbaaDoor.E
end
section
namespace Go.Proofs.YtejoneninbdjbaaDoor.E
open Go.RowKit Go.Proofs.YtejoneninbdjbaaDoorW.PrintWords Go.Proofs.YtejoneninbdjbaaDoorW.PrintLast Go.Proofs.YtejoneninbdjbaaDoorW.PrintMore
attribute [local go_sem] max2_int min2_int max_two min_two max_three min_three max_four min_four
set_option linter.unusedVariables false
set_option linter.unusedSimpArgs false
attribute [local go_sem] str_leq_ str_gtr_ str_geq_
def laws_heldIntS.l0 : Nat → List Int → Int → Int → Option (Int)
 | 0, _, _, _ => none
 | k + 1, x0, x1, x5 => if x5 < (x0.length : Int) then (if 0 ≤ x5 then (if (rd x0 x5) = x1 then (laws_heldIntS.l0 k x0 (wrap64 (x1 + 1)) (wrap64 (x5 + 1))) else (some (-1))) else (none)) else (some x1)
def laws_heldIntS.f (k : Nat) (l0 : List Int) (a1 : Int) : Option (Int) := laws_heldIntS.l0 k l0 a1 0
set_option maxHeartbeats 8000000 in
set_option maxRecDepth 100000 in
theorem laws_heldIntS.calls (k : Nat) (A0 : Option Addr) (c0 : Nat) (l0 : List Int) (a1 : Int) (r : Int) (w : World) (hr0 : Kd.C (Kd.int .i64) w A0 l0.length l0) (hc0 : l0.length ≤ c0) (h : laws_heldIntS.f k l0 a1 = some r) :
  Calls Tryd.prog 44 #[.slice A0 l0.length c0, .int .i64 a1] w fun e w' => e = .returned (.int .i64 r) ∧ Drawn0 w w' := by
 have HR0 := Aside0.mk hr0
 have HC0 := Aside0.mk hc0
 clear hr0 hc0
 have H : (laws_heldIntS.l0 k l0 a1 0) = some r := h
 clear h
 have H' := Aside0.mk H
 clear H
 go_enter Tryd.func44, Tryd.ntmps44
 go_wp2
 go_loopg [1, 5] k (fun kq v1 v5 w' => ∃ (x1_1 : Int) (x5_1 : Int), v1 = .int .i64 x1_1 ∧ v5 = .int .i64 x5_1 ∧ Aside0 (laws_heldIntS.l0 kq l0 x1_1 x5_1 = some r) ∧ Aside0 (kq ≤ k) ∧ Drawn0 w w')
 case atStart => exact ⟨(a1), (0), (by first | rfl | (simp; done) | (simp [*]; done)), (by first | rfl | (simp; done) | (simp [*]; done)), H', ⟨Nat.le_refl _⟩, by repeat (first | exact Drawn0.refl _ | apply Drawn0.step)⟩
 case round =>
  clear H'
  try clear p2
  obtain ⟨x1_1, x5_1, rfl, rfl, HA, HK1, ⟨m1, rfl⟩⟩ := hrel
  cases gk with
  | zero => exact absurd HA.out (by simp [laws_heldIntS.l0])
  | succ k1 =>
   have H := HA.out
   clear HA
   simp only [laws_heldIntS.l0] at H
   by_cases c3 : x5_1 < (l0.length : Int)
   rotate_left
   ·rw [if_neg c3] at H
    have c3b0 : decide (x5_1 < (l0.length : Int)) = false := decide_eq_false c3
    clear c3
    obtain rfl := Option.some.inj H
    go_wp2
    go_ret
    exact ⟨by first | rfl | (simp; done) | (simp [*]; done), by repeat (first | exact Drawn0.refl _ | apply Drawn0.step)⟩
   rw [if_pos c3] at H
   have c3b0 : decide (x5_1 < (l0.length : Int)) = true := decide_eq_true c3
   clear c3
   by_cases c4 : 0 ≤ x5_1
   rotate_left
   ·rw [if_neg c4] at H
    exact absurd H (by simp)
   rw [if_pos c4] at H
   have c4b0 : decide (0 ≤ x5_1) = true := decide_eq_true c4
   clear c4
   by_cases c5 : (rd l0 x5_1) = x1_1
   rotate_left
   ·rw [if_neg c5] at H
    have c5b0 : ((rd l0 x5_1) == x1_1) = false := beq_eq_false_iff_ne.mpr c5
    have c5b1 : ((rd l0 x5_1) != x1_1) = true := bne_iff_ne.mpr c5
    obtain rfl := Option.some.inj H
    have p404 : 0 ≤ (x5_1 : Int) := of_decide_eq_true (by first | (with_reducible assumption) | assumption)
    have q404 : x5_1 < (l0.length : Int) := of_decide_eq_true (by first | (with_reducible assumption) | assumption)
    obtain ⟨ad404, e404, hx404_0⟩ := Kd.at_int HR0.out x5_1 p404 q404
    cases e404
    replace p404 := eq_true p404
    replace q404 := eq_true q404
    go_wp2
    go_ret
    exact ⟨by first | rfl | (simp; done) | (simp [*]; done), by repeat (first | exact Drawn0.refl _ | apply Drawn0.step)⟩
   rw [if_pos c5] at H
   have c5b0 : ((rd l0 x5_1) == x1_1) = true := beq_iff_eq.mpr c5
   have c5b1 : ((rd l0 x5_1) != x1_1) = false := bne_eq_false_iff_eq.mpr c5
   clear c5
   have H' := Aside0.mk H
   clear H
   have p404 : 0 ≤ (x5_1 : Int) := of_decide_eq_true (by first | (with_reducible assumption) | assumption)
   have q404 : x5_1 < (l0.length : Int) := of_decide_eq_true (by first | (with_reducible assumption) | assumption)
   obtain ⟨ad404, e404, hx404_0⟩ := Kd.at_int HR0.out x5_1 p404 q404
   cases e404
   replace p404 := eq_true p404
   replace q404 := eq_true q404
   go_wp2
   go_roundg k1
   case measure => have := HK1.out; omega
   case rel => exact ⟨(wrap64 (x1_1 + 1)), (wrap64 (x5_1 + 1)), (by first | rfl | (simp; done) | (simp [*]; done)), (by first | rfl | (simp; done) | (simp [*]; done)), H', ⟨by have := HK1.out; omega⟩, by repeat (first | exact Drawn0.refl _ | apply Drawn0.step)⟩
end Go.Proofs.YtejoneninbdjbaaDoor.E
end
section
namespace Go.Proofs.YtejoneninbdjbaaDoor.E
open Go.RowKit Go.Proofs.YtejoneninbdjbaaDoorW.PrintWords Go.Proofs.YtejoneninbdjbaaDoorW.PrintLast Go.Proofs.YtejoneninbdjbaaDoorW.PrintMore
attribute [local go_sem] max2_int min2_int max_two min_two max_three min_three max_four min_four
set_option linter.unusedVariables false
set_option linter.unusedSimpArgs false
attribute [local go_sem] str_leq_ str_gtr_ str_geq_
mutual
def laws_FnExactStemMove.j0 : Nat → List ByteArray → List Int → Int → Int → List Int → Bool → List ByteArray → List Int → List Int → Bool → Bool → Option (Bool)
 | 0, _, _, _, _, _, _, _, _, _, _, _ => none
 | k + 1, x0, x1, x2, x3, x10, x11, x12, x13, x14, x15, x59 => if x59 = true then (some false) else ((laws_toStringS.f k x0).bind fun t427 => ((laws_eqStringS.f k x12 t427).bind fun t430 => (if t430 = true then ((laws_toIntS.f k x1).bind fun t431 => ((laws_eqIntS.f k x13 t431).bind fun t434 => (if t434 = true then ((laws_markStringS.f k x12 1).bind fun bt435 => ((laws_markIntS.f k x13 bt435.1).bind fun bt437 => (if bt437.1 < 0 then (laws_FnExactStemMove.j1 k x0 x1 x2 x3 x10 x11 x14 true) else ((laws_eqIntS.f k x14 x10).bind fun t439 => (if t439 = true then (laws_FnExactStemMove.j1 k x0 x1 x2 x3 x10 x11 x14 (x15 != x11)) else (laws_FnExactStemMove.j1 k x0 x1 x2 x3 x10 x11 x14 true)))))) else (some false)))) else (some false))))
def laws_FnExactStemMove.j1 : Nat → List ByteArray → List Int → Int → Int → List Int → Bool → List Int → Bool → Option (Bool)
 | 0, _, _, _, _, _, _, _, _ => none
 | k + 1, x0, x1, x2, x3, x10, x11, x14, x88 => if x88 = true then (some false) else ((laws_markIntS.f k x14 1).bind fun bt440 => ((laws_heldIntS.f k bt440.2 1).bind fun t442 => (if t442 < 0 then (some false) else (if t442 = bt440.1 then ((laws_toStringS.f k x0).bind fun t443 => ((laws_toIntS.f k x1).bind fun t446 => ((impl_StemMove.f k t443 t446 x2 x3).bind fun bt449 => ((laws_eqIntS.f k bt449.1 x10).bind fun t453 => (if t453 = true then (laws_FnExactStemMove.j2 k bt440.2 bt440.1 (bt449.2 != x11)) else (laws_FnExactStemMove.j2 k bt440.2 bt440.1 true)))))) else (some false)))))
def laws_FnExactStemMove.j2 : Nat → List Int → Int → Bool → Option (Bool)
 | 0, _, _, _ => none
 | k + 1, x14, x17, x118 => if x118 = true then (some false) else ((laws_heldIntS.f k x14 1).bind fun t454 => (if t454 < 0 then (some false) else (if t454 = x17 then (some true) else (some false))))
end
def laws_FnExactStemMove.f (k : Nat) (l0 : List ByteArray) (l1 : List Int) (a2 : Int) (a3 : Int) : Option (Bool) := if (l1.length : Int) > 1048576 then (some true) else ((laws_szStringS.f k l0 1048576).bind fun t405 => (if t405 < 0 then (some true) else ((laws_toStringS.f k l0).bind fun t406 => ((laws_toIntS.f k l1).bind fun t409 => ((spec_StemMove.f k t406 t409 a2 a3).bind fun bt412 => ((laws_toStringS.f k l0).bind fun t416 => ((laws_toIntS.f k l1).bind fun t419 => ((impl_StemMove.f k t416 t419 a2 a3).bind fun bt422 => ((laws_eqIntS.f k bt422.1 bt412.1).bind fun t426 => (if t426 = true then (laws_FnExactStemMove.j0 k l0 l1 a2 a3 bt412.1 bt412.2 t416 t419 bt422.1 bt422.2 (bt422.2 != bt412.2)) else (laws_FnExactStemMove.j0 k l0 l1 a2 a3 bt412.1 bt412.2 t416 t419 bt422.1 bt422.2 true)))))))))))
set_option maxHeartbeats 8000000 in
set_option maxRecDepth 100000 in
theorem laws_FnExactStemMove.calls (k : Nat) (A0 : Option Addr) (c0 : Nat) (l0 : List ByteArray) (A1 : Option Addr) (c1 : Nat) (l1 : List Int) (a2 : Int) (a3 : Int) (r : Bool) (w : World) (hr0 : Kd.C Kd.string w A0 l0.length l0) (hc0 : l0.length ≤ c0) (hr1 : Kd.C (Kd.int .i64) w A1 l1.length l1) (hc1 : l1.length ≤ c1) (h : laws_FnExactStemMove.f k l0 l1 a2 a3 = some r) :
  Calls Tryd.prog 11 #[.slice A0 l0.length c0, .slice A1 l1.length c1, .int .i64 a2, .int .i64 a3] w fun e w' => e = .returned (.bool r) ∧ Below w.heap.size w w' := by
 have HR0 := Aside0.mk hr0
 have HC0 := Aside0.mk hc0
 clear hr0 hc0
 have HR1 := Aside0.mk hr1
 have HC1 := Aside0.mk hc1
 clear hr1 hc1
 have HB := Aside0.mk (Below.refl w.heap.size w)
 have H : (if (l1.length : Int) > 1048576 then (some true) else ((laws_szStringS.f k l0 1048576).bind fun t405 => (if t405 < 0 then (some true) else ((laws_toStringS.f k l0).bind fun t406 => ((laws_toIntS.f k l1).bind fun t409 => ((spec_StemMove.f k t406 t409 a2 a3).bind fun bt412 => ((laws_toStringS.f k l0).bind fun t416 => ((laws_toIntS.f k l1).bind fun t419 => ((impl_StemMove.f k t416 t419 a2 a3).bind fun bt422 => ((laws_eqIntS.f k bt422.1 bt412.1).bind fun t426 => (if t426 = true then (laws_FnExactStemMove.j0 k l0 l1 a2 a3 bt412.1 bt412.2 t416 t419 bt422.1 bt422.2 (bt422.2 != bt412.2)) else (laws_FnExactStemMove.j0 k l0 l1 a2 a3 bt412.1 bt412.2 t416 t419 bt422.1 bt422.2 true)))))))))))) = some r := h
 clear h
 by_cases c5 : (l1.length : Int) > 1048576
 ·rw [if_pos c5] at H
  have c5b0 : decide (1048576 < (l1.length : Int)) = true := decide_eq_true c5
  have c5b1 : decide (1048576 < l1.length) = true := decide_eq_true (by omega)
  clear c5
  obtain rfl := Option.some.inj H
  go_enter Tryd.func11, Tryd.ntmps11
  go_wp2
  go_ret
  exact ⟨by first | rfl | (simp [errW_none, errW_some] <;> rfl) | (simp [*, errW_none, errW_some] <;> rfl), by repeat (first | (with_reducible first | exact HB.out | apply below_alloc | apply pw_below_drewN | apply below_drew1) | exact HB.out)⟩
 rw [if_neg c5] at H
 have c5b0 : decide (1048576 < (l1.length : Int)) = false := decide_eq_false c5
 have c5b1 : decide (1048576 < l1.length) = false := decide_eq_false (by omega)
 clear c5
 replace H := Option.bind_eq_some_iff.mp H
 obtain ⟨t405, A60, H⟩ := H
 replace H : (if t405 < 0 then (some true) else ((laws_toStringS.f k l0).bind fun t406 => ((laws_toIntS.f k l1).bind fun t409 => ((spec_StemMove.f k t406 t409 a2 a3).bind fun bt412 => ((laws_toStringS.f k l0).bind fun t416 => ((laws_toIntS.f k l1).bind fun t419 => ((impl_StemMove.f k t416 t419 a2 a3).bind fun bt422 => ((laws_eqIntS.f k bt422.1 bt412.1).bind fun t426 => (if t426 = true then (laws_FnExactStemMove.j0 k l0 l1 a2 a3 bt412.1 bt412.2 t416 t419 bt422.1 bt422.2 (bt422.2 != bt412.2)) else (laws_FnExactStemMove.j0 k l0 l1 a2 a3 bt412.1 bt412.2 t416 t419 bt422.1 bt422.2 true)))))))))) = some r := H
 have A6 := Aside0.mk A60
 clear A60
 by_cases c7 : t405 < 0
 ·rw [if_pos c7] at H
  have c7b0 : decide (t405 < 0) = true := decide_eq_true c7
  clear c7
  obtain rfl := Option.some.inj H
  go_enter Tryd.func11, Tryd.ntmps11
  go_wp2_with (first | ((with_reducible refine gate_callee (f := 21) rfl ?_); refine goesL_ (some 26) rfl rfl Tryd.func21 (by kernel_rfl) rfl #[.slice A0 l0.length c0, .int .i64 1048576] rfl (by (try simp only [List.map_toArray, List.map_cons, List.map_nil]); first | done | rfl | (simp only [List.length_drop, List.length_take]; rfl)) ?_; (with_reducible refine (laws_szStringS.calls k _ _ l0 1048576 t405 _ ?side1 ?side2 A6.out).mono ?_); (case side1 => repeat (first | exact HR0.out | (with_reducible refine Kd.C_alloc ?_ _) | (with_reducible refine Kd.C_drewN ?_ _) | (with_reducible refine Kd.C_drew ?_))); (case side2 => exact HC0.out); rintro e w' ⟨rfl, ⟨nd, rfl⟩⟩; refine ⟨_, rfl, ?_⟩))
  go_ret
  exact ⟨by first | rfl | (simp [errW_none, errW_some] <;> rfl) | (simp [*, errW_none, errW_some] <;> rfl), by repeat (first | (with_reducible first | exact HB.out | apply below_alloc | apply pw_below_drewN | apply below_drew1) | exact HB.out)⟩
 rw [if_neg c7] at H
 have c7b0 : decide (t405 < 0) = false := decide_eq_false c7
 clear c7
 replace H := Option.bind_eq_some_iff.mp H
 obtain ⟨t406, A80, H⟩ := H
 replace H : ((laws_toIntS.f k l1).bind fun t409 => ((spec_StemMove.f k t406 t409 a2 a3).bind fun bt412 => ((laws_toStringS.f k l0).bind fun t416 => ((laws_toIntS.f k l1).bind fun t419 => ((impl_StemMove.f k t416 t419 a2 a3).bind fun bt422 => ((laws_eqIntS.f k bt422.1 bt412.1).bind fun t426 => (if t426 = true then (laws_FnExactStemMove.j0 k l0 l1 a2 a3 bt412.1 bt412.2 t416 t419 bt422.1 bt422.2 (bt422.2 != bt412.2)) else (laws_FnExactStemMove.j0 k l0 l1 a2 a3 bt412.1 bt412.2 t416 t419 bt422.1 bt422.2 true)))))))) = some r := H
 have A8 := Aside0.mk A80
 clear A80
 replace H := Option.bind_eq_some_iff.mp H
 obtain ⟨t409, A90, H⟩ := H
 replace H : ((spec_StemMove.f k t406 t409 a2 a3).bind fun bt412 => ((laws_toStringS.f k l0).bind fun t416 => ((laws_toIntS.f k l1).bind fun t419 => ((impl_StemMove.f k t416 t419 a2 a3).bind fun bt422 => ((laws_eqIntS.f k bt422.1 bt412.1).bind fun t426 => (if t426 = true then (laws_FnExactStemMove.j0 k l0 l1 a2 a3 bt412.1 bt412.2 t416 t419 bt422.1 bt422.2 (bt422.2 != bt412.2)) else (laws_FnExactStemMove.j0 k l0 l1 a2 a3 bt412.1 bt412.2 t416 t419 bt422.1 bt422.2 true))))))) = some r := H
 have A9 := Aside0.mk A90
 clear A90
 replace H := Option.bind_eq_some_iff.mp H
 obtain ⟨⟨t412, t413⟩, A100, H⟩ := H
 replace H : ((laws_toStringS.f k l0).bind fun t416 => ((laws_toIntS.f k l1).bind fun t419 => ((impl_StemMove.f k t416 t419 a2 a3).bind fun bt422 => ((laws_eqIntS.f k bt422.1 t412).bind fun t426 => (if t426 = true then (laws_FnExactStemMove.j0 k l0 l1 a2 a3 t412 t413 t416 t419 bt422.1 bt422.2 (bt422.2 != t413)) else (laws_FnExactStemMove.j0 k l0 l1 a2 a3 t412 t413 t416 t419 bt422.1 bt422.2 true)))))) = some r := H
 have A10 := Aside0.mk A100
 clear A100
 replace H := Option.bind_eq_some_iff.mp H
 obtain ⟨t416, A110, H⟩ := H
 replace H : ((laws_toIntS.f k l1).bind fun t419 => ((impl_StemMove.f k t416 t419 a2 a3).bind fun bt422 => ((laws_eqIntS.f k bt422.1 t412).bind fun t426 => (if t426 = true then (laws_FnExactStemMove.j0 k l0 l1 a2 a3 t412 t413 t416 t419 bt422.1 bt422.2 (bt422.2 != t413)) else (laws_FnExactStemMove.j0 k l0 l1 a2 a3 t412 t413 t416 t419 bt422.1 bt422.2 true))))) = some r := H
 have A11 := Aside0.mk A110
 clear A110
 replace H := Option.bind_eq_some_iff.mp H
 obtain ⟨t419, A120, H⟩ := H
 replace H : ((impl_StemMove.f k t416 t419 a2 a3).bind fun bt422 => ((laws_eqIntS.f k bt422.1 t412).bind fun t426 => (if t426 = true then (laws_FnExactStemMove.j0 k l0 l1 a2 a3 t412 t413 t416 t419 bt422.1 bt422.2 (bt422.2 != t413)) else (laws_FnExactStemMove.j0 k l0 l1 a2 a3 t412 t413 t416 t419 bt422.1 bt422.2 true)))) = some r := H
 have A12 := Aside0.mk A120
 clear A120
 replace H := Option.bind_eq_some_iff.mp H
 obtain ⟨⟨t422, t423⟩, A130, H⟩ := H
 replace H : ((laws_eqIntS.f k t422 t412).bind fun t426 => (if t426 = true then (laws_FnExactStemMove.j0 k l0 l1 a2 a3 t412 t413 t416 t419 t422 t423 (t423 != t413)) else (laws_FnExactStemMove.j0 k l0 l1 a2 a3 t412 t413 t416 t419 t422 t423 true))) = some r := H
 have A13 := Aside0.mk A130
 clear A130
 have HC14 := Aside0.mk H
 clear H
 go_enter Tryd.func11, Tryd.ntmps11
 go_upto_region 11 with (first | ((with_reducible refine gate_callee (f := 21) rfl ?_); refine goesL_ (some 26) rfl rfl Tryd.func21 (by kernel_rfl) rfl #[.slice A0 l0.length c0, .int .i64 1048576] rfl (by (try simp only [List.map_toArray, List.map_cons, List.map_nil]); first | done | rfl | (simp only [List.length_drop, List.length_take]; rfl)) ?_; (with_reducible refine (laws_szStringS.calls k _ _ l0 1048576 t405 _ ?side1 ?side2 A6.out).mono ?_); (case side1 => repeat (first | exact HR0.out | (with_reducible refine Kd.C_alloc ?_ _) | (with_reducible refine Kd.C_drewN ?_ _) | (with_reducible refine Kd.C_drew ?_))); (case side2 => exact HC0.out); rintro e w' ⟨rfl, ⟨nd, rfl⟩⟩; refine ⟨_, rfl, ?_⟩) | ((with_reducible refine gate_callee (f := 23) rfl ?_); refine goesL_ (some 31) rfl rfl Tryd.func23 (by kernel_rfl) rfl #[.slice A0 l0.length c0] rfl (by (try simp only [List.map_toArray, List.map_cons, List.map_nil]); first | done | rfl | (simp only [List.length_drop, List.length_take]; rfl)) ?_; (with_reducible refine (laws_toStringS.calls k _ _ l0 t406 _ ?side1 ?side2 A8.out).mono ?_); (case side1 => repeat (first | exact HR0.out | (with_reducible refine Kd.C_alloc ?_ _) | (with_reducible refine Kd.C_drewN ?_ _) | (with_reducible refine Kd.C_drew ?_))); (case side2 => exact HC0.out); rintro e w15 ⟨v407, rfl, ho0, hb⟩; refine ⟨_, rfl, ?_⟩; have n0_ := Aside0.mk (Kd.R_lower ho0 (below_size (by repeat (first | (with_reducible first | exact HB.out | apply below_alloc | apply pw_below_drewN | apply below_drew1) | exact HB.out)))); have n1_ := Aside0.mk (below_step (by repeat (first | (with_reducible first | exact HB.out | apply below_alloc | apply pw_below_drewN | apply below_drew1) | exact HB.out)) hb); clear HB; have HO408 := n0_; have HB := n1_; clear n0_ n1_; (try clear hb); (try clear hb2); (try clear hk); (try clear hi); (try clear ho0)) | ((with_reducible refine gate_callee (f := 29) rfl ?_); refine goesL_ (some 33) rfl rfl Tryd.func29 (by kernel_rfl) rfl #[.slice A1 l1.length c1] rfl (by (try simp only [List.map_toArray, List.map_cons, List.map_nil]); first | done | rfl | (simp only [List.length_drop, List.length_take]; rfl)) ?_; (with_reducible refine (laws_toIntS.calls k _ _ l1 t409 _ ?side1 ?side2 A9.out).mono ?_); (case side1 => repeat (first | exact (Kd.C_below HR1.out HB.out) | (with_reducible refine Kd.C_alloc ?_ _) | (with_reducible refine Kd.C_drewN ?_ _) | (with_reducible refine Kd.C_drew ?_))); (case side2 => exact HC1.out); rintro e w16 ⟨v410, rfl, ho0, hb⟩; refine ⟨_, rfl, ?_⟩; have n0_ := Aside0.mk (Kd.R_below (by (with_reducible repeat (first | apply Kd.R_alloc | apply Kd.R_drewN | apply Kd.R_drew)); exact HO408.out) hb); have n1_ := Aside0.mk (Kd.R_lower ho0 (below_size (by repeat (first | (with_reducible first | exact HB.out | apply below_alloc | apply pw_below_drewN | apply below_drew1) | exact HB.out)))); have n2_ := Aside0.mk (below_step (by repeat (first | (with_reducible first | exact HB.out | apply below_alloc | apply pw_below_drewN | apply below_drew1) | exact HB.out)) hb); clear HO408; clear HB; have HO408 := n0_; have HO411 := n1_; have HB := n2_; clear n0_ n1_ n2_; (try clear hb); (try clear hb2); (try clear hk); (try clear hi); (try clear ho0); obtain ⟨Ao17, co17, eo17⟩ := Kd.R_slice HO408.out; subst eo17; obtain ⟨Ao18, co18, eo18⟩ := Kd.R_slice HO411.out; subst eo18) | ((with_reducible refine gate_callee (f := 40) rfl ?_); refine goesL_ (some 36) rfl rfl Tryd.func40 (by kernel_rfl) rfl #[.slice Ao17 t406.length co17, .slice Ao18 t409.length co18, .int .i64 a2, .int .i64 a3] rfl (by (try simp only [List.map_toArray, List.map_cons, List.map_nil]); first | done | rfl | (simp only [List.length_drop, List.length_take]; rfl)) ?_; (with_reducible refine (spec_StemMove.calls k _ _ t406 _ _ t409 a2 a3 t412 t413 _ ?side1 ?side2 ?side3 ?side4 A10.out).mono ?_); (case side1 => repeat (first | exact (Kd.R_reads' HO408.out).2.2 | (with_reducible refine Kd.C_alloc ?_ _) | (with_reducible refine Kd.C_drewN ?_ _) | (with_reducible refine Kd.C_drew ?_))); (case side2 => exact (Kd.R_reads' HO408.out).2.1); (case side3 => repeat (first | exact (Kd.R_reads' HO411.out).2.2 | (with_reducible refine Kd.C_alloc ?_ _) | (with_reducible refine Kd.C_drewN ?_ _) | (with_reducible refine Kd.C_drew ?_))); (case side4 => exact (Kd.R_reads' HO411.out).2.1); rintro e w19 ⟨v414, rfl, ho0, hb⟩; refine ⟨_, rfl, ?_⟩; have n0_ := Aside0.mk (Kd.R_below (by (with_reducible repeat (first | apply Kd.R_alloc | apply Kd.R_drewN | apply Kd.R_drew)); exact HO408.out) hb); have n1_ := Aside0.mk (Kd.R_elder' (by (with_reducible repeat (first | apply Kd.R_alloc | apply Kd.R_drewN | apply Kd.R_drew)); exact HO411.out) (Kd.R_base ho0) hb); have n2_ := Aside0.mk (Kd.R_lower (Kd.R_new' ho0 (Kd.R_lt (by (with_reducible repeat (first | apply Kd.R_alloc | apply Kd.R_drewN | apply Kd.R_drew)); exact HO411.out))) (below_size (by repeat (first | (with_reducible first | exact HB.out | apply below_alloc | apply pw_below_drewN | apply below_drew1) | exact HB.out)))); have n3_ := Aside0.mk (below_step (by repeat (first | (with_reducible first | exact HB.out | apply below_alloc | apply pw_below_drewN | apply below_drew1) | exact HB.out)) hb); clear HO408; clear HO411; clear HB; have HO408 := n0_; have HO411 := n1_; have HO415 := n2_; have HB := n3_; clear n0_ n1_ n2_ n3_; (try clear hb); (try clear hb2); (try clear hk); (try clear hi); (try clear ho0)) | ((with_reducible refine gate_callee (f := 23) rfl ?_); refine goesL_ (some 40) rfl rfl Tryd.func23 (by kernel_rfl) rfl #[.slice A0 l0.length c0] rfl (by (try simp only [List.map_toArray, List.map_cons, List.map_nil]); first | done | rfl | (simp only [List.length_drop, List.length_take]; rfl)) ?_; (with_reducible refine (laws_toStringS.calls k _ _ l0 t416 _ ?side1 ?side2 A11.out).mono ?_); (case side1 => repeat (first | exact (Kd.C_below HR0.out HB.out) | (with_reducible refine Kd.C_alloc ?_ _) | (with_reducible refine Kd.C_drewN ?_ _) | (with_reducible refine Kd.C_drew ?_))); (case side2 => exact HC0.out); rintro e w20 ⟨v417, rfl, ho0, hb⟩; refine ⟨_, rfl, ?_⟩; have n0_ := Aside0.mk (Kd.R_elder' (by (with_reducible repeat (first | apply Kd.R_alloc | apply Kd.R_drewN | apply Kd.R_drew)); exact HO408.out) (Kd.R_base ho0) hb); have n1_ := Aside0.mk (Kd.R_below (by (with_reducible repeat (first | apply Kd.R_alloc | apply Kd.R_drewN | apply Kd.R_drew)); exact HO411.out) hb); have n2_ := Aside0.mk (Kd.R_below (by (with_reducible repeat (first | apply Kd.R_alloc | apply Kd.R_drewN | apply Kd.R_drew)); exact HO415.out) hb); have n3_ := Aside0.mk (Kd.R_lower (Kd.R_new' ho0 (Kd.R_lt (by (with_reducible repeat (first | apply Kd.R_alloc | apply Kd.R_drewN | apply Kd.R_drew)); exact HO408.out))) (below_size (by repeat (first | (with_reducible first | exact HB.out | apply below_alloc | apply pw_below_drewN | apply below_drew1) | exact HB.out)))); have n4_ := Aside0.mk (below_step (by repeat (first | (with_reducible first | exact HB.out | apply below_alloc | apply pw_below_drewN | apply below_drew1) | exact HB.out)) hb); clear HO408; clear HO411; clear HO415; clear HB; have HO408 := n0_; have HO411 := n1_; have HO415 := n2_; have HO418 := n3_; have HB := n4_; clear n0_ n1_ n2_ n3_ n4_; (try clear hb); (try clear hb2); (try clear hk); (try clear hi); (try clear ho0)) | ((with_reducible refine gate_callee (f := 29) rfl ?_); refine goesL_ (some 42) rfl rfl Tryd.func29 (by kernel_rfl) rfl #[.slice A1 l1.length c1] rfl (by (try simp only [List.map_toArray, List.map_cons, List.map_nil]); first | done | rfl | (simp only [List.length_drop, List.length_take]; rfl)) ?_; (with_reducible refine (laws_toIntS.calls k _ _ l1 t419 _ ?side1 ?side2 A12.out).mono ?_); (case side1 => repeat (first | exact (Kd.C_below HR1.out HB.out) | (with_reducible refine Kd.C_alloc ?_ _) | (with_reducible refine Kd.C_drewN ?_ _) | (with_reducible refine Kd.C_drew ?_))); (case side2 => exact HC1.out); rintro e w21 ⟨v420, rfl, ho0, hb⟩; refine ⟨_, rfl, ?_⟩; have n0_ := Aside0.mk (Kd.R_below (by (with_reducible repeat (first | apply Kd.R_alloc | apply Kd.R_drewN | apply Kd.R_drew)); exact HO408.out) hb); have n1_ := Aside0.mk (Kd.R_elder' (by (with_reducible repeat (first | apply Kd.R_alloc | apply Kd.R_drewN | apply Kd.R_drew)); exact HO411.out) (Kd.R_base ho0) hb); have n2_ := Aside0.mk (Kd.R_elder' (by (with_reducible repeat (first | apply Kd.R_alloc | apply Kd.R_drewN | apply Kd.R_drew)); exact HO415.out) (Kd.R_base ho0) hb); have n3_ := Aside0.mk (Kd.R_below (by (with_reducible repeat (first | apply Kd.R_alloc | apply Kd.R_drewN | apply Kd.R_drew)); exact HO418.out) hb); have n4_ := Aside0.mk (Kd.R_lower (Kd.R_new' (Kd.R_new' ho0 (Kd.R_lt (by (with_reducible repeat (first | apply Kd.R_alloc | apply Kd.R_drewN | apply Kd.R_drew)); exact HO411.out))) (Kd.R_lt (by (with_reducible repeat (first | apply Kd.R_alloc | apply Kd.R_drewN | apply Kd.R_drew)); exact HO415.out))) (below_size (by repeat (first | (with_reducible first | exact HB.out | apply below_alloc | apply pw_below_drewN | apply below_drew1) | exact HB.out)))); have n5_ := Aside0.mk (below_step (by repeat (first | (with_reducible first | exact HB.out | apply below_alloc | apply pw_below_drewN | apply below_drew1) | exact HB.out)) hb); clear HO408; clear HO411; clear HO415; clear HO418; clear HB; have HO408 := n0_; have HO411 := n1_; have HO415 := n2_; have HO418 := n3_; have HO421 := n4_; have HB := n5_; clear n0_ n1_ n2_ n3_ n4_ n5_; (try clear hb); (try clear hb2); (try clear hk); (try clear hi); (try clear ho0); obtain ⟨Ao22, co22, eo22⟩ := Kd.R_slice HO418.out; subst eo22; obtain ⟨Ao23, co23, eo23⟩ := Kd.R_slice HO421.out; subst eo23) | ((with_reducible refine gate_callee (f := 41) rfl ?_); refine goesL_ (some 48) rfl rfl Tryd.func41 (by kernel_rfl) rfl #[.slice Ao22 t416.length co22, .slice Ao23 t419.length co23, .int .i64 a2, .int .i64 a3] rfl (by (try simp only [List.map_toArray, List.map_cons, List.map_nil]); first | done | rfl | (simp only [List.length_drop, List.length_take]; rfl)) ?_; (with_reducible refine (impl_StemMove.calls k _ _ t416 _ _ t419 a2 a3 t422 t423 _ ?side1 ?side2 ?side3 ?side4 A13.out).mono ?_); (case side1 => repeat (first | exact (Kd.R_reads' HO418.out).2.2 | (with_reducible refine Kd.C_alloc ?_ _) | (with_reducible refine Kd.C_drewN ?_ _) | (with_reducible refine Kd.C_drew ?_))); (case side2 => exact (Kd.R_reads' HO418.out).2.1); (case side3 => repeat (first | exact (Kd.R_reads' HO421.out).2.2 | (with_reducible refine Kd.C_alloc ?_ _) | (with_reducible refine Kd.C_drewN ?_ _) | (with_reducible refine Kd.C_drew ?_))); (case side4 => exact (Kd.R_reads' HO421.out).2.1); rintro e w24 ⟨v424, rfl, ho0, hb⟩; refine ⟨_, rfl, ?_⟩; have n0_ := Aside0.mk (Kd.R_below (by (with_reducible repeat (first | apply Kd.R_alloc | apply Kd.R_drewN | apply Kd.R_drew)); exact HO408.out) hb); have n1_ := Aside0.mk (Kd.R_elder' (by (with_reducible repeat (first | apply Kd.R_alloc | apply Kd.R_drewN | apply Kd.R_drew)); exact HO411.out) (Kd.R_base ho0) hb); have n2_ := Aside0.mk (Kd.R_elder' (by (with_reducible repeat (first | apply Kd.R_alloc | apply Kd.R_drewN | apply Kd.R_drew)); exact HO415.out) (Kd.R_base ho0) hb); have n3_ := Aside0.mk (Kd.R_below (by (with_reducible repeat (first | apply Kd.R_alloc | apply Kd.R_drewN | apply Kd.R_drew)); exact HO418.out) hb); have n4_ := Aside0.mk (Kd.R_elder' (by (with_reducible repeat (first | apply Kd.R_alloc | apply Kd.R_drewN | apply Kd.R_drew)); exact HO421.out) (Kd.R_base ho0) hb); have n5_ := Aside0.mk (Kd.R_lower (Kd.R_new' (Kd.R_new' (Kd.R_new' ho0 (Kd.R_lt (by (with_reducible repeat (first | apply Kd.R_alloc | apply Kd.R_drewN | apply Kd.R_drew)); exact HO411.out))) (Kd.R_lt (by (with_reducible repeat (first | apply Kd.R_alloc | apply Kd.R_drewN | apply Kd.R_drew)); exact HO415.out))) (Kd.R_lt (by (with_reducible repeat (first | apply Kd.R_alloc | apply Kd.R_drewN | apply Kd.R_drew)); exact HO421.out))) (below_size (by repeat (first | (with_reducible first | exact HB.out | apply below_alloc | apply pw_below_drewN | apply below_drew1) | exact HB.out)))); have n6_ := Aside0.mk (below_step (by repeat (first | (with_reducible first | exact HB.out | apply below_alloc | apply pw_below_drewN | apply below_drew1) | exact HB.out)) hb); clear HO408; clear HO411; clear HO415; clear HO418; clear HO421; clear HB; have HO408 := n0_; have HO411 := n1_; have HO415 := n2_; have HO418 := n3_; have HO421 := n4_; have HO425 := n5_; have HB := n6_; clear n0_ n1_ n2_ n3_ n4_ n5_ n6_; (try clear hb); (try clear hb2); (try clear hk); (try clear hi); (try clear ho0)))
 (try simp only [Act.put, List.setIfInBounds_toArray, List.set_cons_zero, List.set_cons_succ])
 go_cut [59] (fun v59 wc => ∃ (kq : Nat) (x59_13 : Bool), v59 = .bool x59_13 ∧ Aside0 (laws_FnExactStemMove.j0 kq l0 l1 a2 a3 t412 t413 t416 t419 t422 t423 x59_13 = some r) ∧ Aside0 (kq ≤ k) ∧ Aside0 (Kd.R (Kd.int .i64) 3 wc w.heap.size (fun k_ => some k_ ≠ ((.slice Ao23 t419.length co23) : Value).ownBlock ∧ some k_ ≠ (v424 : Value).ownBlock) v414 t412) ∧ Aside0 (Kd.R Kd.string 9 wc w.heap.size (fun _ => True) (.slice Ao22 t416.length co22) t416) ∧ Aside0 (Kd.R (Kd.int .i64) 3 wc w.heap.size (fun k_ => some k_ ≠ (v414 : Value).ownBlock ∧ some k_ ≠ (v424 : Value).ownBlock) (.slice Ao23 t419.length co23) t419) ∧ Aside0 (Kd.R (Kd.int .i64) 3 wc w.heap.size (fun k_ => some k_ ≠ (v414 : Value).ownBlock ∧ some k_ ≠ ((.slice Ao23 t419.length co23) : Value).ownBlock) v424 t422) ∧ Aside0 (Below w.heap.size w wc))
 case first =>
  have H := HC14.out
  clear HC14
  replace H := Option.bind_eq_some_iff.mp H
  obtain ⟨t426, A250, H⟩ := H
  replace H : (if t426 = true then (laws_FnExactStemMove.j0 k l0 l1 a2 a3 t412 t413 t416 t419 t422 t423 (t423 != t413)) else (laws_FnExactStemMove.j0 k l0 l1 a2 a3 t412 t413 t416 t419 t422 t423 true)) = some r := H
  have A25 := Aside0.mk A250
  clear A250
  by_cases c26 : t426 = true
  ·subst c26
   have H1 : (laws_FnExactStemMove.j0 k l0 l1 a2 a3 t412 t413 t416 t419 t422 t423 (t423 != t413)) = some r := by rw [if_pos rfl] at H; exact H
   clear H
   have H := H1
   clear H1
   have H' := Aside0.mk H
   clear H
   obtain ⟨Ao27, co27, eo27⟩ := Kd.R_slice HO425.out
   subst eo27
   obtain ⟨Ao28, co28, eo28⟩ := Kd.R_slice HO415.out
   subst eo28
   go_wp2_with (first | ((with_reducible refine gate_callee (f := 31) rfl ?_); refine goesL_ (some 53) rfl rfl Tryd.func31 (by kernel_rfl) rfl #[.slice Ao27 t422.length co27, .slice Ao28 t412.length co28] rfl (by (try simp only [List.map_toArray, List.map_cons, List.map_nil]); first | done | rfl | (simp only [List.length_drop, List.length_take]; rfl)) ?_; (with_reducible refine (laws_eqIntS.calls k _ _ t422 _ _ t412 true _ ?side1 ?side2 ?side3 ?side4 A25.out).mono ?_); (case side1 => repeat (first | exact (Kd.R_reads' HO425.out).2.2 | (with_reducible refine Kd.C_alloc ?_ _) | (with_reducible refine Kd.C_drewN ?_ _) | (with_reducible refine Kd.C_drew ?_))); (case side2 => exact (Kd.R_reads' HO425.out).2.1); (case side3 => repeat (first | exact (Kd.R_reads' HO415.out).2.2 | (with_reducible refine Kd.C_alloc ?_ _) | (with_reducible refine Kd.C_drewN ?_ _) | (with_reducible refine Kd.C_drew ?_))); (case side4 => exact (Kd.R_reads' HO415.out).2.1); rintro e w' ⟨rfl, ⟨nd, rfl⟩⟩; refine ⟨_, rfl, ?_⟩))
   go_meet
   case rel => exact ⟨_, ((t423 != t413)), (by first | rfl | (simp; done) | (simp [*]; done)), H', ⟨by first | omega | exact Nat.le_refl _⟩, ⟨by (with_reducible repeat (first | apply Kd.R_alloc | apply Kd.R_drewN | apply Kd.R_drew)); exact Kd.R_mono HO415.out (fun _ hk => ⟨hk.1.2, hk.2⟩)⟩, ⟨by (with_reducible repeat (first | apply Kd.R_alloc | apply Kd.R_drewN | apply Kd.R_drew)); exact Kd.R_mono HO418.out (fun _ hk => trivial)⟩, ⟨by (with_reducible repeat (first | apply Kd.R_alloc | apply Kd.R_drewN | apply Kd.R_drew)); exact Kd.R_mono HO421.out (fun _ hk => ⟨hk.1.2, hk.2⟩)⟩, ⟨by (with_reducible repeat (first | apply Kd.R_alloc | apply Kd.R_drewN | apply Kd.R_drew)); exact Kd.R_mono HO425.out (fun _ hk => ⟨hk.1.2, hk.2⟩)⟩, ⟨by repeat (first | (with_reducible first | exact HB.out | apply below_alloc | apply pw_below_drewN | apply below_drew1) | exact HB.out)⟩⟩
  replace c26 := Bool.eq_false_iff.mpr c26
  subst c26
  have H1 : (laws_FnExactStemMove.j0 k l0 l1 a2 a3 t412 t413 t416 t419 t422 t423 true) = some r := by rw [if_neg (show ¬ (false = true) by decide)] at H; exact H
  clear H
  have H := H1
  clear H1
  have H' := Aside0.mk H
  clear H
  obtain ⟨Ao29, co29, eo29⟩ := Kd.R_slice HO425.out
  subst eo29
  obtain ⟨Ao30, co30, eo30⟩ := Kd.R_slice HO415.out
  subst eo30
  go_wp2_with (first | ((with_reducible refine gate_callee (f := 31) rfl ?_); refine goesL_ (some 53) rfl rfl Tryd.func31 (by kernel_rfl) rfl #[.slice Ao29 t422.length co29, .slice Ao30 t412.length co30] rfl (by (try simp only [List.map_toArray, List.map_cons, List.map_nil]); first | done | rfl | (simp only [List.length_drop, List.length_take]; rfl)) ?_; (with_reducible refine (laws_eqIntS.calls k _ _ t422 _ _ t412 false _ ?side1 ?side2 ?side3 ?side4 A25.out).mono ?_); (case side1 => repeat (first | exact (Kd.R_reads' HO425.out).2.2 | (with_reducible refine Kd.C_alloc ?_ _) | (with_reducible refine Kd.C_drewN ?_ _) | (with_reducible refine Kd.C_drew ?_))); (case side2 => exact (Kd.R_reads' HO425.out).2.1); (case side3 => repeat (first | exact (Kd.R_reads' HO415.out).2.2 | (with_reducible refine Kd.C_alloc ?_ _) | (with_reducible refine Kd.C_drewN ?_ _) | (with_reducible refine Kd.C_drew ?_))); (case side4 => exact (Kd.R_reads' HO415.out).2.1); rintro e w' ⟨rfl, ⟨nd, rfl⟩⟩; refine ⟨_, rfl, ?_⟩))
  go_meet
  case rel => exact ⟨_, (true), (by first | rfl | (simp; done) | (simp [*]; done)), H', ⟨by first | omega | exact Nat.le_refl _⟩, ⟨by (with_reducible repeat (first | apply Kd.R_alloc | apply Kd.R_drewN | apply Kd.R_drew)); exact Kd.R_mono HO415.out (fun _ hk => ⟨hk.1.2, hk.2⟩)⟩, ⟨by (with_reducible repeat (first | apply Kd.R_alloc | apply Kd.R_drewN | apply Kd.R_drew)); exact Kd.R_mono HO418.out (fun _ hk => trivial)⟩, ⟨by (with_reducible repeat (first | apply Kd.R_alloc | apply Kd.R_drewN | apply Kd.R_drew)); exact Kd.R_mono HO421.out (fun _ hk => ⟨hk.1.2, hk.2⟩)⟩, ⟨by (with_reducible repeat (first | apply Kd.R_alloc | apply Kd.R_drewN | apply Kd.R_drew)); exact Kd.R_mono HO425.out (fun _ hk => ⟨hk.1.2, hk.2⟩)⟩, ⟨by repeat (first | (with_reducible first | exact HB.out | apply below_alloc | apply pw_below_drewN | apply below_drew1) | exact HB.out)⟩⟩
 case rest =>
  clear HC14
  try clear c1
  try clear c2
  try clear p2
  try clear c3
  try clear c4
  try clear c5
  try clear c5b0
  try clear c5b1
  try clear c7
  try clear c7b0
  try clear c11
  try clear c21
  try clear c23
  try clear c26
  try clear c29
  obtain ⟨kq, x59_13, rfl, HA, HJ13, HO_10, HO_12, HO_13, HO_14, HB⟩ := hcut
  cases kq with
  | zero => exact absurd HA.out (by simp [laws_FnExactStemMove.j0])
  | succ kj13 =>
   have H := HA.out
   clear HA
   simp only [laws_FnExactStemMove.j0] at H
   by_cases c31 : x59_13 = true
   ·subst c31
    have H1 : (some false) = some r := by rw [if_pos rfl] at H; exact H
    clear H
    have H := H1
    clear H1
    obtain rfl := Option.some.inj H
    go_wp2
    go_ret
    exact ⟨by first | rfl | (simp [errW_none, errW_some] <;> rfl) | (simp [*, errW_none, errW_some] <;> rfl), by repeat (first | (with_reducible first | exact HB.out | apply below_alloc | apply pw_below_drewN | apply below_drew1) | exact HB.out)⟩
   replace c31 := Bool.eq_false_iff.mpr c31
   subst c31
   have H1 : ((laws_toStringS.f kj13 l0).bind fun t427 => ((laws_eqStringS.f kj13 t416 t427).bind fun t430 => (if t430 = true then ((laws_toIntS.f kj13 l1).bind fun t431 => ((laws_eqIntS.f kj13 t419 t431).bind fun t434 => (if t434 = true then ((laws_markStringS.f kj13 t416 1).bind fun bt435 => ((laws_markIntS.f kj13 t419 bt435.1).bind fun bt437 => (if bt437.1 < 0 then (laws_FnExactStemMove.j1 kj13 l0 l1 a2 a3 t412 t413 t422 true) else ((laws_eqIntS.f kj13 t422 t412).bind fun t439 => (if t439 = true then (laws_FnExactStemMove.j1 kj13 l0 l1 a2 a3 t412 t413 t422 (t423 != t413)) else (laws_FnExactStemMove.j1 kj13 l0 l1 a2 a3 t412 t413 t422 true)))))) else (some false)))) else (some false)))) = some r := by rw [if_neg (show ¬ (false = true) by decide)] at H; exact H
   clear H
   have H := H1
   clear H1
   replace H := Option.bind_eq_some_iff.mp H
   obtain ⟨t427, A320, H⟩ := H
   replace H : ((laws_eqStringS.f kj13 t416 t427).bind fun t430 => (if t430 = true then ((laws_toIntS.f kj13 l1).bind fun t431 => ((laws_eqIntS.f kj13 t419 t431).bind fun t434 => (if t434 = true then ((laws_markStringS.f kj13 t416 1).bind fun bt435 => ((laws_markIntS.f kj13 t419 bt435.1).bind fun bt437 => (if bt437.1 < 0 then (laws_FnExactStemMove.j1 kj13 l0 l1 a2 a3 t412 t413 t422 true) else ((laws_eqIntS.f kj13 t422 t412).bind fun t439 => (if t439 = true then (laws_FnExactStemMove.j1 kj13 l0 l1 a2 a3 t412 t413 t422 (t423 != t413)) else (laws_FnExactStemMove.j1 kj13 l0 l1 a2 a3 t412 t413 t422 true)))))) else (some false)))) else (some false))) = some r := H
   have A32 := Aside0.mk A320
   clear A320
   replace H := Option.bind_eq_some_iff.mp H
   obtain ⟨t430, A330, H⟩ := H
   replace H : (if t430 = true then ((laws_toIntS.f kj13 l1).bind fun t431 => ((laws_eqIntS.f kj13 t419 t431).bind fun t434 => (if t434 = true then ((laws_markStringS.f kj13 t416 1).bind fun bt435 => ((laws_markIntS.f kj13 t419 bt435.1).bind fun bt437 => (if bt437.1 < 0 then (laws_FnExactStemMove.j1 kj13 l0 l1 a2 a3 t412 t413 t422 true) else ((laws_eqIntS.f kj13 t422 t412).bind fun t439 => (if t439 = true then (laws_FnExactStemMove.j1 kj13 l0 l1 a2 a3 t412 t413 t422 (t423 != t413)) else (laws_FnExactStemMove.j1 kj13 l0 l1 a2 a3 t412 t413 t422 true)))))) else (some false)))) else (some false)) = some r := H
   have A33 := Aside0.mk A330
   clear A330
   by_cases c34 : t430 = true
   rotate_left
   ·replace c34 := Bool.eq_false_iff.mpr c34
    subst c34
    have H1 : (some false) = some r := by rw [if_neg (show ¬ (false = true) by decide)] at H; exact H
    clear H
    have H := H1
    clear H1
    obtain rfl := Option.some.inj H
    go_wp2_with (first | ((with_reducible refine gate_callee (f := 23) rfl ?_); refine goesL_ (some 62) rfl rfl Tryd.func23 (by kernel_rfl) rfl #[.slice A0 l0.length c0] rfl (by (try simp only [List.map_toArray, List.map_cons, List.map_nil]); first | done | rfl | (simp only [List.length_drop, List.length_take]; rfl)) ?_; (with_reducible refine (laws_toStringS.calls kj13 _ _ l0 t427 _ ?side1 ?side2 A32.out).mono ?_); (case side1 => repeat (first | exact (Kd.C_below HR0.out HB.out) | (with_reducible refine Kd.C_alloc ?_ _) | (with_reducible refine Kd.C_drewN ?_ _) | (with_reducible refine Kd.C_drew ?_))); (case side2 => exact HC0.out); rintro e w88 ⟨v428, rfl, ho0, hb⟩; refine ⟨_, rfl, ?_⟩; have n0_ := Aside0.mk (Kd.R_below (by (with_reducible repeat (first | apply Kd.R_alloc | apply Kd.R_drewN | apply Kd.R_drew)); exact HO_10.out) hb); have n1_ := Aside0.mk (Kd.R_elder' (by (with_reducible repeat (first | apply Kd.R_alloc | apply Kd.R_drewN | apply Kd.R_drew)); exact HO_12.out) (Kd.R_base ho0) hb); have n2_ := Aside0.mk (Kd.R_below (by (with_reducible repeat (first | apply Kd.R_alloc | apply Kd.R_drewN | apply Kd.R_drew)); exact HO_13.out) hb); have n3_ := Aside0.mk (Kd.R_below (by (with_reducible repeat (first | apply Kd.R_alloc | apply Kd.R_drewN | apply Kd.R_drew)); exact HO_14.out) hb); have n4_ := Aside0.mk (Kd.R_lower (Kd.R_new' ho0 (Kd.R_lt (by (with_reducible repeat (first | apply Kd.R_alloc | apply Kd.R_drewN | apply Kd.R_drew)); exact HO_12.out))) (below_size (by repeat (first | (with_reducible first | exact HB.out | apply below_alloc | apply pw_below_drewN | apply below_drew1) | exact HB.out)))); have n5_ := Aside0.mk (below_step (by repeat (first | (with_reducible first | exact HB.out | apply below_alloc | apply pw_below_drewN | apply below_drew1) | exact HB.out)) hb); clear HO_10; clear HO_12; clear HO_13; clear HO_14; clear HB; have HO_10 := n0_; have HO_12 := n1_; have HO_13 := n2_; have HO_14 := n3_; have HO429 := n4_; have HB := n5_; clear n0_ n1_ n2_ n3_ n4_ n5_; (try clear hb); (try clear hb2); (try clear hk); (try clear hi); (try clear ho0); obtain ⟨Ao89, co89, eo89⟩ := Kd.R_slice HO429.out; subst eo89) | ((with_reducible refine gate_callee (f := 25) rfl ?_); refine goesL_ (some 63) rfl rfl Tryd.func25 (by kernel_rfl) rfl #[.slice Ao22 t416.length co22, .slice Ao89 t427.length co89] rfl (by (try simp only [List.map_toArray, List.map_cons, List.map_nil]); first | done | rfl | (simp only [List.length_drop, List.length_take]; rfl)) ?_; (with_reducible refine (laws_eqStringS.calls kj13 _ _ t416 _ _ t427 false _ ?side1 ?side2 ?side3 ?side4 A33.out).mono ?_); (case side1 => repeat (first | exact (Kd.R_reads' HO_12.out).2.2 | (with_reducible refine Kd.C_alloc ?_ _) | (with_reducible refine Kd.C_drewN ?_ _) | (with_reducible refine Kd.C_drew ?_))); (case side2 => exact (Kd.R_reads' HO_12.out).2.1); (case side3 => repeat (first | exact (Kd.R_reads' HO429.out).2.2 | (with_reducible refine Kd.C_alloc ?_ _) | (with_reducible refine Kd.C_drewN ?_ _) | (with_reducible refine Kd.C_drew ?_))); (case side4 => exact (Kd.R_reads' HO429.out).2.1); rintro e w' ⟨rfl, ⟨nd, rfl⟩⟩; refine ⟨_, rfl, ?_⟩))
    go_ret
    exact ⟨by first | rfl | (simp [errW_none, errW_some] <;> rfl) | (simp [*, errW_none, errW_some] <;> rfl), by repeat (first | (with_reducible first | exact HB.out | apply below_alloc | apply pw_below_drewN | apply below_drew1) | exact HB.out)⟩
   subst c34
   have H1 : ((laws_toIntS.f kj13 l1).bind fun t431 => ((laws_eqIntS.f kj13 t419 t431).bind fun t434 => (if t434 = true then ((laws_markStringS.f kj13 t416 1).bind fun bt435 => ((laws_markIntS.f kj13 t419 bt435.1).bind fun bt437 => (if bt437.1 < 0 then (laws_FnExactStemMove.j1 kj13 l0 l1 a2 a3 t412 t413 t422 true) else ((laws_eqIntS.f kj13 t422 t412).bind fun t439 => (if t439 = true then (laws_FnExactStemMove.j1 kj13 l0 l1 a2 a3 t412 t413 t422 (t423 != t413)) else (laws_FnExactStemMove.j1 kj13 l0 l1 a2 a3 t412 t413 t422 true)))))) else (some false)))) = some r := by rw [if_pos rfl] at H; exact H
   clear H
   have H := H1
   clear H1
   replace H := Option.bind_eq_some_iff.mp H
   obtain ⟨t431, A350, H⟩ := H
   replace H : ((laws_eqIntS.f kj13 t419 t431).bind fun t434 => (if t434 = true then ((laws_markStringS.f kj13 t416 1).bind fun bt435 => ((laws_markIntS.f kj13 t419 bt435.1).bind fun bt437 => (if bt437.1 < 0 then (laws_FnExactStemMove.j1 kj13 l0 l1 a2 a3 t412 t413 t422 true) else ((laws_eqIntS.f kj13 t422 t412).bind fun t439 => (if t439 = true then (laws_FnExactStemMove.j1 kj13 l0 l1 a2 a3 t412 t413 t422 (t423 != t413)) else (laws_FnExactStemMove.j1 kj13 l0 l1 a2 a3 t412 t413 t422 true)))))) else (some false))) = some r := H
   have A35 := Aside0.mk A350
   clear A350
   replace H := Option.bind_eq_some_iff.mp H
   obtain ⟨t434, A360, H⟩ := H
   replace H : (if t434 = true then ((laws_markStringS.f kj13 t416 1).bind fun bt435 => ((laws_markIntS.f kj13 t419 bt435.1).bind fun bt437 => (if bt437.1 < 0 then (laws_FnExactStemMove.j1 kj13 l0 l1 a2 a3 t412 t413 t422 true) else ((laws_eqIntS.f kj13 t422 t412).bind fun t439 => (if t439 = true then (laws_FnExactStemMove.j1 kj13 l0 l1 a2 a3 t412 t413 t422 (t423 != t413)) else (laws_FnExactStemMove.j1 kj13 l0 l1 a2 a3 t412 t413 t422 true)))))) else (some false)) = some r := H
   have A36 := Aside0.mk A360
   clear A360
   by_cases c37 : t434 = true
   rotate_left
   ·replace c37 := Bool.eq_false_iff.mpr c37
    subst c37
    have H1 : (some false) = some r := by rw [if_neg (show ¬ (false = true) by decide)] at H; exact H
    clear H
    have H := H1
    clear H1
    obtain rfl := Option.some.inj H
    go_wp2_with (first | ((with_reducible refine gate_callee (f := 23) rfl ?_); refine goesL_ (some 62) rfl rfl Tryd.func23 (by kernel_rfl) rfl #[.slice A0 l0.length c0] rfl (by (try simp only [List.map_toArray, List.map_cons, List.map_nil]); first | done | rfl | (simp only [List.length_drop, List.length_take]; rfl)) ?_; (with_reducible refine (laws_toStringS.calls kj13 _ _ l0 t427 _ ?side1 ?side2 A32.out).mono ?_); (case side1 => repeat (first | exact (Kd.C_below HR0.out HB.out) | (with_reducible refine Kd.C_alloc ?_ _) | (with_reducible refine Kd.C_drewN ?_ _) | (with_reducible refine Kd.C_drew ?_))); (case side2 => exact HC0.out); rintro e w84 ⟨v428, rfl, ho0, hb⟩; refine ⟨_, rfl, ?_⟩; have n0_ := Aside0.mk (Kd.R_below (by (with_reducible repeat (first | apply Kd.R_alloc | apply Kd.R_drewN | apply Kd.R_drew)); exact HO_10.out) hb); have n1_ := Aside0.mk (Kd.R_elder' (by (with_reducible repeat (first | apply Kd.R_alloc | apply Kd.R_drewN | apply Kd.R_drew)); exact HO_12.out) (Kd.R_base ho0) hb); have n2_ := Aside0.mk (Kd.R_below (by (with_reducible repeat (first | apply Kd.R_alloc | apply Kd.R_drewN | apply Kd.R_drew)); exact HO_13.out) hb); have n3_ := Aside0.mk (Kd.R_below (by (with_reducible repeat (first | apply Kd.R_alloc | apply Kd.R_drewN | apply Kd.R_drew)); exact HO_14.out) hb); have n4_ := Aside0.mk (Kd.R_lower (Kd.R_new' ho0 (Kd.R_lt (by (with_reducible repeat (first | apply Kd.R_alloc | apply Kd.R_drewN | apply Kd.R_drew)); exact HO_12.out))) (below_size (by repeat (first | (with_reducible first | exact HB.out | apply below_alloc | apply pw_below_drewN | apply below_drew1) | exact HB.out)))); have n5_ := Aside0.mk (below_step (by repeat (first | (with_reducible first | exact HB.out | apply below_alloc | apply pw_below_drewN | apply below_drew1) | exact HB.out)) hb); clear HO_10; clear HO_12; clear HO_13; clear HO_14; clear HB; have HO_10 := n0_; have HO_12 := n1_; have HO_13 := n2_; have HO_14 := n3_; have HO429 := n4_; have HB := n5_; clear n0_ n1_ n2_ n3_ n4_ n5_; (try clear hb); (try clear hb2); (try clear hk); (try clear hi); (try clear ho0); obtain ⟨Ao85, co85, eo85⟩ := Kd.R_slice HO429.out; subst eo85) | ((with_reducible refine gate_callee (f := 25) rfl ?_); refine goesL_ (some 63) rfl rfl Tryd.func25 (by kernel_rfl) rfl #[.slice Ao22 t416.length co22, .slice Ao85 t427.length co85] rfl (by (try simp only [List.map_toArray, List.map_cons, List.map_nil]); first | done | rfl | (simp only [List.length_drop, List.length_take]; rfl)) ?_; (with_reducible refine (laws_eqStringS.calls kj13 _ _ t416 _ _ t427 true _ ?side1 ?side2 ?side3 ?side4 A33.out).mono ?_); (case side1 => repeat (first | exact (Kd.R_reads' HO_12.out).2.2 | (with_reducible refine Kd.C_alloc ?_ _) | (with_reducible refine Kd.C_drewN ?_ _) | (with_reducible refine Kd.C_drew ?_))); (case side2 => exact (Kd.R_reads' HO_12.out).2.1); (case side3 => repeat (first | exact (Kd.R_reads' HO429.out).2.2 | (with_reducible refine Kd.C_alloc ?_ _) | (with_reducible refine Kd.C_drewN ?_ _) | (with_reducible refine Kd.C_drew ?_))); (case side4 => exact (Kd.R_reads' HO429.out).2.1); rintro e w' ⟨rfl, ⟨nd, rfl⟩⟩; refine ⟨_, rfl, ?_⟩) | ((with_reducible refine gate_callee (f := 29) rfl ?_); refine goesL_ (some 67) rfl rfl Tryd.func29 (by kernel_rfl) rfl #[.slice A1 l1.length c1] rfl (by (try simp only [List.map_toArray, List.map_cons, List.map_nil]); first | done | rfl | (simp only [List.length_drop, List.length_take]; rfl)) ?_; (with_reducible refine (laws_toIntS.calls kj13 _ _ l1 t431 _ ?side1 ?side2 A35.out).mono ?_); (case side1 => repeat (first | exact (Kd.C_below HR1.out (by repeat (first | (with_reducible first | exact HB.out | apply below_alloc | apply pw_below_drewN | apply below_drew1) | exact HB.out))) | (with_reducible refine Kd.C_alloc ?_ _) | (with_reducible refine Kd.C_drewN ?_ _) | (with_reducible refine Kd.C_drew ?_))); (case side2 => exact HC1.out); rintro e w86 ⟨v432, rfl, ho0, hb⟩; refine ⟨_, rfl, ?_⟩; have n0_ := Aside0.mk (Kd.R_elder' (by (with_reducible repeat (first | apply Kd.R_alloc | apply Kd.R_drewN | apply Kd.R_drew)); exact HO_10.out) (Kd.R_base ho0) hb); have n1_ := Aside0.mk (Kd.R_below (by (with_reducible repeat (first | apply Kd.R_alloc | apply Kd.R_drewN | apply Kd.R_drew)); exact HO_12.out) hb); have n2_ := Aside0.mk (Kd.R_elder' (by (with_reducible repeat (first | apply Kd.R_alloc | apply Kd.R_drewN | apply Kd.R_drew)); exact HO_13.out) (Kd.R_base ho0) hb); have n3_ := Aside0.mk (Kd.R_elder' (by (with_reducible repeat (first | apply Kd.R_alloc | apply Kd.R_drewN | apply Kd.R_drew)); exact HO_14.out) (Kd.R_base ho0) hb); have n4_ := Aside0.mk (Kd.R_below (by (with_reducible repeat (first | apply Kd.R_alloc | apply Kd.R_drewN | apply Kd.R_drew)); exact HO429.out) hb); have n5_ := Aside0.mk (Kd.R_lower (Kd.R_new' (Kd.R_new' (Kd.R_new' ho0 (Kd.R_lt (by (with_reducible repeat (first | apply Kd.R_alloc | apply Kd.R_drewN | apply Kd.R_drew)); exact HO_10.out))) (Kd.R_lt (by (with_reducible repeat (first | apply Kd.R_alloc | apply Kd.R_drewN | apply Kd.R_drew)); exact HO_13.out))) (Kd.R_lt (by (with_reducible repeat (first | apply Kd.R_alloc | apply Kd.R_drewN | apply Kd.R_drew)); exact HO_14.out))) (below_size (by repeat (first | (with_reducible first | exact HB.out | apply below_alloc | apply pw_below_drewN | apply below_drew1) | exact HB.out)))); have n6_ := Aside0.mk (below_step (by repeat (first | (with_reducible first | exact HB.out | apply below_alloc | apply pw_below_drewN | apply below_drew1) | exact HB.out)) hb); clear HO_10; clear HO_12; clear HO_13; clear HO_14; clear HO429; clear HB; have HO_10 := n0_; have HO_12 := n1_; have HO_13 := n2_; have HO_14 := n3_; have HO429 := n4_; have HO433 := n5_; have HB := n6_; clear n0_ n1_ n2_ n3_ n4_ n5_ n6_; (try clear hb); (try clear hb2); (try clear hk); (try clear hi); (try clear ho0); obtain ⟨Ao87, co87, eo87⟩ := Kd.R_slice HO433.out; subst eo87) | ((with_reducible refine gate_callee (f := 31) rfl ?_); refine goesL_ (some 68) rfl rfl Tryd.func31 (by kernel_rfl) rfl #[.slice Ao23 t419.length co23, .slice Ao87 t431.length co87] rfl (by (try simp only [List.map_toArray, List.map_cons, List.map_nil]); first | done | rfl | (simp only [List.length_drop, List.length_take]; rfl)) ?_; (with_reducible refine (laws_eqIntS.calls kj13 _ _ t419 _ _ t431 false _ ?side1 ?side2 ?side3 ?side4 A36.out).mono ?_); (case side1 => repeat (first | exact (Kd.R_reads' HO_13.out).2.2 | (with_reducible refine Kd.C_alloc ?_ _) | (with_reducible refine Kd.C_drewN ?_ _) | (with_reducible refine Kd.C_drew ?_))); (case side2 => exact (Kd.R_reads' HO_13.out).2.1); (case side3 => repeat (first | exact (Kd.R_reads' HO433.out).2.2 | (with_reducible refine Kd.C_alloc ?_ _) | (with_reducible refine Kd.C_drewN ?_ _) | (with_reducible refine Kd.C_drew ?_))); (case side4 => exact (Kd.R_reads' HO433.out).2.1); rintro e w' ⟨rfl, ⟨nd, rfl⟩⟩; refine ⟨_, rfl, ?_⟩))
    go_ret
    exact ⟨by first | rfl | (simp [errW_none, errW_some] <;> rfl) | (simp [*, errW_none, errW_some] <;> rfl), by repeat (first | (with_reducible first | exact HB.out | apply below_alloc | apply pw_below_drewN | apply below_drew1) | exact HB.out)⟩
   subst c37
   have H1 : ((laws_markStringS.f kj13 t416 1).bind fun bt435 => ((laws_markIntS.f kj13 t419 bt435.1).bind fun bt437 => (if bt437.1 < 0 then (laws_FnExactStemMove.j1 kj13 l0 l1 a2 a3 t412 t413 t422 true) else ((laws_eqIntS.f kj13 t422 t412).bind fun t439 => (if t439 = true then (laws_FnExactStemMove.j1 kj13 l0 l1 a2 a3 t412 t413 t422 (t423 != t413)) else (laws_FnExactStemMove.j1 kj13 l0 l1 a2 a3 t412 t413 t422 true)))))) = some r := by rw [if_pos rfl] at H; exact H
   clear H
   have H := H1
   clear H1
   replace H := Option.bind_eq_some_iff.mp H
   obtain ⟨⟨t435, t436⟩, A380, H⟩ := H
   replace H : ((laws_markIntS.f kj13 t419 t435).bind fun bt437 => (if bt437.1 < 0 then (laws_FnExactStemMove.j1 kj13 l0 l1 a2 a3 t412 t413 t422 true) else ((laws_eqIntS.f kj13 t422 t412).bind fun t439 => (if t439 = true then (laws_FnExactStemMove.j1 kj13 l0 l1 a2 a3 t412 t413 t422 (t423 != t413)) else (laws_FnExactStemMove.j1 kj13 l0 l1 a2 a3 t412 t413 t422 true))))) = some r := H
   have A38 := Aside0.mk A380
   clear A380
   replace H := Option.bind_eq_some_iff.mp H
   obtain ⟨⟨t437, t438⟩, A390, H⟩ := H
   replace H : (if t437 < 0 then (laws_FnExactStemMove.j1 kj13 l0 l1 a2 a3 t412 t413 t422 true) else ((laws_eqIntS.f kj13 t422 t412).bind fun t439 => (if t439 = true then (laws_FnExactStemMove.j1 kj13 l0 l1 a2 a3 t412 t413 t422 (t423 != t413)) else (laws_FnExactStemMove.j1 kj13 l0 l1 a2 a3 t412 t413 t422 true)))) = some r := H
   have A39 := Aside0.mk A390
   clear A390
   have HC40 := Aside0.mk H
   clear H
   go_upto_region 20 with (first | ((with_reducible refine gate_callee (f := 23) rfl ?_); refine goesL_ (some 62) rfl rfl Tryd.func23 (by kernel_rfl) rfl #[.slice A0 l0.length c0] rfl (by (try simp only [List.map_toArray, List.map_cons, List.map_nil]); first | done | rfl | (simp only [List.length_drop, List.length_take]; rfl)) ?_; (with_reducible refine (laws_toStringS.calls kj13 _ _ l0 t427 _ ?side1 ?side2 A32.out).mono ?_); (case side1 => repeat (first | exact (Kd.C_below HR0.out HB.out) | (with_reducible refine Kd.C_alloc ?_ _) | (with_reducible refine Kd.C_drewN ?_ _) | (with_reducible refine Kd.C_drew ?_))); (case side2 => exact HC0.out); rintro e w41 ⟨v428, rfl, ho0, hb⟩; refine ⟨_, rfl, ?_⟩; have n0_ := Aside0.mk (Kd.R_below (by (with_reducible repeat (first | apply Kd.R_alloc | apply Kd.R_drewN | apply Kd.R_drew)); exact HO_10.out) hb); have n1_ := Aside0.mk (Kd.R_elder' (by (with_reducible repeat (first | apply Kd.R_alloc | apply Kd.R_drewN | apply Kd.R_drew)); exact HO_12.out) (Kd.R_base ho0) hb); have n2_ := Aside0.mk (Kd.R_below (by (with_reducible repeat (first | apply Kd.R_alloc | apply Kd.R_drewN | apply Kd.R_drew)); exact HO_13.out) hb); have n3_ := Aside0.mk (Kd.R_below (by (with_reducible repeat (first | apply Kd.R_alloc | apply Kd.R_drewN | apply Kd.R_drew)); exact HO_14.out) hb); have n4_ := Aside0.mk (Kd.R_lower (Kd.R_new' ho0 (Kd.R_lt (by (with_reducible repeat (first | apply Kd.R_alloc | apply Kd.R_drewN | apply Kd.R_drew)); exact HO_12.out))) (below_size (by repeat (first | (with_reducible first | exact HB.out | apply below_alloc | apply pw_below_drewN | apply below_drew1) | exact HB.out)))); have n5_ := Aside0.mk (below_step (by repeat (first | (with_reducible first | exact HB.out | apply below_alloc | apply pw_below_drewN | apply below_drew1) | exact HB.out)) hb); clear HO_10; clear HO_12; clear HO_13; clear HO_14; clear HB; have HO_10 := n0_; have HO_12 := n1_; have HO_13 := n2_; have HO_14 := n3_; have HO429 := n4_; have HB := n5_; clear n0_ n1_ n2_ n3_ n4_ n5_; (try clear hb); (try clear hb2); (try clear hk); (try clear hi); (try clear ho0); obtain ⟨Ao42, co42, eo42⟩ := Kd.R_slice HO429.out; subst eo42) | ((with_reducible refine gate_callee (f := 25) rfl ?_); refine goesL_ (some 63) rfl rfl Tryd.func25 (by kernel_rfl) rfl #[.slice Ao22 t416.length co22, .slice Ao42 t427.length co42] rfl (by (try simp only [List.map_toArray, List.map_cons, List.map_nil]); first | done | rfl | (simp only [List.length_drop, List.length_take]; rfl)) ?_; (with_reducible refine (laws_eqStringS.calls kj13 _ _ t416 _ _ t427 true _ ?side1 ?side2 ?side3 ?side4 A33.out).mono ?_); (case side1 => repeat (first | exact (Kd.R_reads' HO_12.out).2.2 | (with_reducible refine Kd.C_alloc ?_ _) | (with_reducible refine Kd.C_drewN ?_ _) | (with_reducible refine Kd.C_drew ?_))); (case side2 => exact (Kd.R_reads' HO_12.out).2.1); (case side3 => repeat (first | exact (Kd.R_reads' HO429.out).2.2 | (with_reducible refine Kd.C_alloc ?_ _) | (with_reducible refine Kd.C_drewN ?_ _) | (with_reducible refine Kd.C_drew ?_))); (case side4 => exact (Kd.R_reads' HO429.out).2.1); rintro e w' ⟨rfl, ⟨nd, rfl⟩⟩; refine ⟨_, rfl, ?_⟩) | ((with_reducible refine gate_callee (f := 29) rfl ?_); refine goesL_ (some 67) rfl rfl Tryd.func29 (by kernel_rfl) rfl #[.slice A1 l1.length c1] rfl (by (try simp only [List.map_toArray, List.map_cons, List.map_nil]); first | done | rfl | (simp only [List.length_drop, List.length_take]; rfl)) ?_; (with_reducible refine (laws_toIntS.calls kj13 _ _ l1 t431 _ ?side1 ?side2 A35.out).mono ?_); (case side1 => repeat (first | exact (Kd.C_below HR1.out (by repeat (first | (with_reducible first | exact HB.out | apply below_alloc | apply pw_below_drewN | apply below_drew1) | exact HB.out))) | (with_reducible refine Kd.C_alloc ?_ _) | (with_reducible refine Kd.C_drewN ?_ _) | (with_reducible refine Kd.C_drew ?_))); (case side2 => exact HC1.out); rintro e w43 ⟨v432, rfl, ho0, hb⟩; refine ⟨_, rfl, ?_⟩; have n0_ := Aside0.mk (Kd.R_elder' (by (with_reducible repeat (first | apply Kd.R_alloc | apply Kd.R_drewN | apply Kd.R_drew)); exact HO_10.out) (Kd.R_base ho0) hb); have n1_ := Aside0.mk (Kd.R_below (by (with_reducible repeat (first | apply Kd.R_alloc | apply Kd.R_drewN | apply Kd.R_drew)); exact HO_12.out) hb); have n2_ := Aside0.mk (Kd.R_elder' (by (with_reducible repeat (first | apply Kd.R_alloc | apply Kd.R_drewN | apply Kd.R_drew)); exact HO_13.out) (Kd.R_base ho0) hb); have n3_ := Aside0.mk (Kd.R_elder' (by (with_reducible repeat (first | apply Kd.R_alloc | apply Kd.R_drewN | apply Kd.R_drew)); exact HO_14.out) (Kd.R_base ho0) hb); have n4_ := Aside0.mk (Kd.R_below (by (with_reducible repeat (first | apply Kd.R_alloc | apply Kd.R_drewN | apply Kd.R_drew)); exact HO429.out) hb); have n5_ := Aside0.mk (Kd.R_lower (Kd.R_new' (Kd.R_new' (Kd.R_new' ho0 (Kd.R_lt (by (with_reducible repeat (first | apply Kd.R_alloc | apply Kd.R_drewN | apply Kd.R_drew)); exact HO_10.out))) (Kd.R_lt (by (with_reducible repeat (first | apply Kd.R_alloc | apply Kd.R_drewN | apply Kd.R_drew)); exact HO_13.out))) (Kd.R_lt (by (with_reducible repeat (first | apply Kd.R_alloc | apply Kd.R_drewN | apply Kd.R_drew)); exact HO_14.out))) (below_size (by repeat (first | (with_reducible first | exact HB.out | apply below_alloc | apply pw_below_drewN | apply below_drew1) | exact HB.out)))); have n6_ := Aside0.mk (below_step (by repeat (first | (with_reducible first | exact HB.out | apply below_alloc | apply pw_below_drewN | apply below_drew1) | exact HB.out)) hb); clear HO_10; clear HO_12; clear HO_13; clear HO_14; clear HO429; clear HB; have HO_10 := n0_; have HO_12 := n1_; have HO_13 := n2_; have HO_14 := n3_; have HO429 := n4_; have HO433 := n5_; have HB := n6_; clear n0_ n1_ n2_ n3_ n4_ n5_ n6_; (try clear hb); (try clear hb2); (try clear hk); (try clear hi); (try clear ho0); obtain ⟨Ao44, co44, eo44⟩ := Kd.R_slice HO433.out; subst eo44) | ((with_reducible refine gate_callee (f := 31) rfl ?_); refine goesL_ (some 68) rfl rfl Tryd.func31 (by kernel_rfl) rfl #[.slice Ao23 t419.length co23, .slice Ao44 t431.length co44] rfl (by (try simp only [List.map_toArray, List.map_cons, List.map_nil]); first | done | rfl | (simp only [List.length_drop, List.length_take]; rfl)) ?_; (with_reducible refine (laws_eqIntS.calls kj13 _ _ t419 _ _ t431 true _ ?side1 ?side2 ?side3 ?side4 A36.out).mono ?_); (case side1 => repeat (first | exact (Kd.R_reads' HO_13.out).2.2 | (with_reducible refine Kd.C_alloc ?_ _) | (with_reducible refine Kd.C_drewN ?_ _) | (with_reducible refine Kd.C_drew ?_))); (case side2 => exact (Kd.R_reads' HO_13.out).2.1); (case side3 => repeat (first | exact (Kd.R_reads' HO433.out).2.2 | (with_reducible refine Kd.C_alloc ?_ _) | (with_reducible refine Kd.C_drewN ?_ _) | (with_reducible refine Kd.C_drew ?_))); (case side4 => exact (Kd.R_reads' HO433.out).2.1); rintro e w' ⟨rfl, ⟨nd, rfl⟩⟩; refine ⟨_, rfl, ?_⟩) | ((with_reducible refine gate_callee (f := 42) rfl ?_); refine goesL_ (some 72) rfl rfl Tryd.func42 (by kernel_rfl) rfl #[.slice Ao22 t416.length co22, .int .i64 1] rfl (by (try simp only [List.map_toArray, List.map_cons, List.map_nil]); first | done | rfl | (simp only [List.length_drop, List.length_take]; rfl)) ?_; (with_reducible refine (laws_markStringS.calls kj13 (fun k_ => some k_ = (.slice Ao22 t416.length co22 : Value).ownBlock) (.slice Ao22 t416.length co22) t416 1 t435 t436 w _ ?side1 ?side2 A38.out).mono ?_); (case side1 => repeat (first | (with_reducible first | exact HB.out | apply below_alloc | apply pw_below_drewN | apply below_drew1) | exact HB.out)); (case side2 => exact Kd.R_tight rfl HO_12.out); rintro e w45 ⟨rfl, hy0, hb, hkp⟩; refine ⟨_, rfl, ?_⟩; have n0_ := Aside0.mk (Kd.R_mono (ok' := fun k_ => some k_ ≠ (.slice Ao23 t419.length co23 : Value).ownBlock ∧ some k_ ≠ (v424 : Value).ownBlock ∧ some k_ ≠ (.slice Ao44 t431.length co44 : Value).ownBlock) (Kd.R_keptB ((Kd.R_apart' HO_10.out (Kd.R_typed HO_12.out) (by decide))) hkp (fun k_ hk_ hs_ => (hk_.2) hs_)) (fun k_ hk_ => ⟨hk_.1.1.1.1, hk_.1.1.1.2, hk_.1.1.2⟩)); have n1_ := Aside0.mk (Kd.R_reok rfl hy0 (fun k_ e_ => HO_12.out.1 k_ e_)); have n2_ := Aside0.mk (Kd.R_mono (ok' := fun k_ => some k_ ≠ (v414 : Value).ownBlock ∧ some k_ ≠ (v424 : Value).ownBlock ∧ some k_ ≠ (.slice Ao44 t431.length co44 : Value).ownBlock) (Kd.R_keptB ((Kd.R_apart' HO_13.out (Kd.R_typed HO_12.out) (by decide))) hkp (fun k_ hk_ hs_ => (hk_.2) hs_)) (fun k_ hk_ => ⟨hk_.1.1.1.1, hk_.1.1.1.2, hk_.1.1.2⟩)); have n3_ := Aside0.mk (Kd.R_mono (ok' := fun k_ => some k_ ≠ (v414 : Value).ownBlock ∧ some k_ ≠ (.slice Ao23 t419.length co23 : Value).ownBlock ∧ some k_ ≠ (.slice Ao44 t431.length co44 : Value).ownBlock) (Kd.R_keptB ((Kd.R_apart' HO_14.out (Kd.R_typed HO_12.out) (by decide))) hkp (fun k_ hk_ hs_ => (hk_.2) hs_)) (fun k_ hk_ => ⟨hk_.1.1.1.1, hk_.1.1.1.2, hk_.1.1.2⟩)); have n4_ := Aside0.mk (Kd.R_mono (ok' := fun k_ => some k_ ≠ (.slice Ao22 t416.length co22 : Value).ownBlock) (Kd.R_keptB (HO429.out) hkp (fun k_ hk_ hs_ => (hk_.2) hs_)) (fun k_ hk_ => hk_.1.2)); have n5_ := Aside0.mk (Kd.R_mono (ok' := fun k_ => some k_ ≠ (v414 : Value).ownBlock ∧ some k_ ≠ (.slice Ao23 t419.length co23 : Value).ownBlock ∧ some k_ ≠ (v424 : Value).ownBlock) (Kd.R_keptB ((Kd.R_apart' HO433.out (Kd.R_typed HO_12.out) (by decide))) hkp (fun k_ hk_ hs_ => (hk_.2) hs_)) (fun k_ hk_ => ⟨hk_.1.1.1.1.2, hk_.1.1.1.2, hk_.1.1.2⟩)); have n6_ := Aside0.mk (hb); clear HO_10; clear HO_12; clear HO_13; clear HO_14; clear HO429; clear HO433; clear HB; have HO_10 := n0_; have HO_12 := n1_; have HO_13 := n2_; have HO_14 := n3_; have HO429 := n4_; have HO433 := n5_; have HB := n6_; clear n0_ n1_ n2_ n3_ n4_ n5_ n6_; (try clear hb); (try clear hkp); (try clear hy0)) | ((with_reducible refine gate_callee (f := 43) rfl ?_); refine goesL_ (some 75) rfl rfl Tryd.func43 (by kernel_rfl) rfl #[.slice Ao23 t419.length co23, .int .i64 t435] rfl (by (try simp only [List.map_toArray, List.map_cons, List.map_nil]); first | done | rfl | (simp only [List.length_drop, List.length_take]; rfl)) ?_; (with_reducible refine (laws_markIntS.calls kj13 (fun k_ => some k_ = (.slice Ao23 t419.length co23 : Value).ownBlock) (.slice Ao23 t419.length co23) t419 t435 t437 t438 w _ ?side1 ?side2 A39.out).mono ?_); (case side1 => repeat (first | (with_reducible first | exact HB.out | apply below_alloc | apply pw_below_drewN | apply below_drew1) | exact HB.out)); (case side2 => exact Kd.R_tight rfl HO_13.out); rintro e w46 ⟨rfl, hy0, hb, hkp⟩; refine ⟨_, rfl, ?_⟩; have n0_ := Aside0.mk (Kd.R_mono (ok' := fun k_ => some k_ ≠ (.slice Ao23 t419.length co23 : Value).ownBlock ∧ some k_ ≠ (v424 : Value).ownBlock ∧ some k_ ≠ (.slice Ao44 t431.length co44 : Value).ownBlock) (Kd.R_keptB (HO_10.out) hkp (fun k_ hk_ hs_ => (hk_.1) hs_)) (fun k_ hk_ => ⟨hk_.1.1, hk_.1.2.1, hk_.1.2.2⟩)); have n1_ := Aside0.mk (Kd.R_mono (ok' := fun k_ => some k_ ≠ (.slice Ao42 t427.length co42 : Value).ownBlock) (Kd.R_keptB ((Kd.R_apart' HO_12.out (Kd.R_typed HO_13.out) (by decide))) hkp (fun k_ hk_ hs_ => (hk_.2) hs_)) (fun k_ hk_ => hk_.1.1.2)); have n2_ := Aside0.mk (Kd.R_reok rfl hy0 (fun k_ e_ => HO_13.out.1 k_ e_)); have n3_ := Aside0.mk (Kd.R_mono (ok' := fun k_ => some k_ ≠ (v414 : Value).ownBlock ∧ some k_ ≠ (.slice Ao23 t419.length co23 : Value).ownBlock ∧ some k_ ≠ (.slice Ao44 t431.length co44 : Value).ownBlock) (Kd.R_keptB (HO_14.out) hkp (fun k_ hk_ hs_ => (hk_.2.1) hs_)) (fun k_ hk_ => ⟨hk_.1.1, hk_.1.2.1, hk_.1.2.2⟩)); have n4_ := Aside0.mk (Kd.R_mono (ok' := fun k_ => some k_ ≠ (.slice Ao22 t416.length co22 : Value).ownBlock) (Kd.R_keptB ((Kd.R_apart' HO429.out (Kd.R_typed HO_13.out) (by decide))) hkp (fun k_ hk_ hs_ => (hk_.2) hs_)) (fun k_ hk_ => hk_.1.1)); have n5_ := Aside0.mk (Kd.R_mono (ok' := fun k_ => some k_ ≠ (v414 : Value).ownBlock ∧ some k_ ≠ (.slice Ao23 t419.length co23 : Value).ownBlock ∧ some k_ ≠ (v424 : Value).ownBlock) (Kd.R_keptB (HO433.out) hkp (fun k_ hk_ hs_ => (hk_.2.1) hs_)) (fun k_ hk_ => ⟨hk_.1.1, hk_.1.2.1, hk_.1.2.2⟩)); have n6_ := Aside0.mk (hb); clear HO_10; clear HO_12; clear HO_13; clear HO_14; clear HO429; clear HO433; clear HB; have HO_10 := n0_; have HO_12 := n1_; have HO_13 := n2_; have HO_14 := n3_; have HO429 := n4_; have HO433 := n5_; have HB := n6_; clear n0_ n1_ n2_ n3_ n4_ n5_ n6_; (try clear hb); (try clear hkp); (try clear hy0)))
   (try simp only [Act.put, List.setIfInBounds_toArray, List.set_cons_zero, List.set_cons_succ])
   go_cut [88] (fun v88 wc => ∃ (kq : Nat) (x88_39 : Bool), v88 = .bool x88_39 ∧ Aside0 (laws_FnExactStemMove.j1 kq l0 l1 a2 a3 t412 t413 t422 x88_39 = some r) ∧ Aside0 (kq ≤ kj13) ∧ Aside0 (Kd.R (Kd.int .i64) 3 wc w.heap.size (fun k_ => some k_ ≠ (v424 : Value).ownBlock) v414 t412) ∧ Aside0 (Kd.R (Kd.int .i64) 3 wc w.heap.size (fun k_ => some k_ ≠ (v414 : Value).ownBlock) v424 t422) ∧ Aside0 (Below w.heap.size w wc))
   case first =>
    have H := HC40.out
    clear HC40
    by_cases c47 : t437 < 0
    ·rw [if_pos c47] at H
     have c47b0 : decide (t437 < 0) = true := decide_eq_true c47
     clear c47
     (first | rw [c47b0] | (simp only [i64_w, i32_w]; rw [c47b0]) | skip)
     have H' := Aside0.mk H
     clear H
     go_wp2
     go_meet
     case rel => exact ⟨_, (true), (by first | rfl | (simp; done) | (simp [*]; done)), H', ⟨by have := HJ13.out; first | omega | exact Nat.le_refl _⟩, ⟨by (with_reducible repeat (first | apply Kd.R_alloc | apply Kd.R_drewN | apply Kd.R_drew)); exact Kd.R_mono HO_10.out (fun _ hk => hk.2.1)⟩, ⟨by (with_reducible repeat (first | apply Kd.R_alloc | apply Kd.R_drewN | apply Kd.R_drew)); exact Kd.R_mono HO_14.out (fun _ hk => hk.1)⟩, ⟨by repeat (first | (with_reducible first | exact HB.out | apply below_alloc | apply pw_below_drewN | apply below_drew1) | exact HB.out)⟩⟩
    rw [if_neg c47] at H
    have c47b0 : decide (t437 < 0) = false := decide_eq_false c47
    clear c47
    (first | rw [c47b0] | (simp only [i64_w, i32_w]; rw [c47b0]) | skip)
    replace H := Option.bind_eq_some_iff.mp H
    obtain ⟨t439, A480, H⟩ := H
    replace H : (if t439 = true then (laws_FnExactStemMove.j1 kj13 l0 l1 a2 a3 t412 t413 t422 (t423 != t413)) else (laws_FnExactStemMove.j1 kj13 l0 l1 a2 a3 t412 t413 t422 true)) = some r := H
    have A48 := Aside0.mk A480
    clear A480
    by_cases c49 : t439 = true
    ·subst c49
     have H1 : (laws_FnExactStemMove.j1 kj13 l0 l1 a2 a3 t412 t413 t422 (t423 != t413)) = some r := by rw [if_pos rfl] at H; exact H
     clear H
     have H := H1
     clear H1
     have H' := Aside0.mk H
     clear H
     obtain ⟨Ao50, co50, eo50⟩ := Kd.R_slice HO_14.out
     subst eo50
     obtain ⟨Ao51, co51, eo51⟩ := Kd.R_slice HO_10.out
     subst eo51
     go_wp2_with (first | (go_at_call 31; (with_reducible refine (laws_eqIntS.calls kj13 _ _ t422 _ _ t412 true _ ?side1 ?side2 ?side3 ?side4 A48.out).mono ?_); (case side1 => repeat (first | exact (Kd.R_reads' HO_14.out).2.2 | (with_reducible refine Kd.C_alloc ?_ _) | (with_reducible refine Kd.C_drewN ?_ _) | (with_reducible refine Kd.C_drew ?_))); (case side2 => exact (Kd.R_reads' HO_14.out).2.1); (case side3 => repeat (first | exact (Kd.R_reads' HO_10.out).2.2 | (with_reducible refine Kd.C_alloc ?_ _) | (with_reducible refine Kd.C_drewN ?_ _) | (with_reducible refine Kd.C_drew ?_))); (case side4 => exact (Kd.R_reads' HO_10.out).2.1); rintro e w' ⟨rfl, ⟨nd, rfl⟩⟩))
     go_meet
     case rel => exact ⟨_, ((t423 != t413)), (by first | rfl | (simp; done) | (simp [*]; done)), H', ⟨by have := HJ13.out; first | omega | exact Nat.le_refl _⟩, ⟨by (with_reducible repeat (first | apply Kd.R_alloc | apply Kd.R_drewN | apply Kd.R_drew)); exact Kd.R_mono HO_10.out (fun _ hk => hk.2.1)⟩, ⟨by (with_reducible repeat (first | apply Kd.R_alloc | apply Kd.R_drewN | apply Kd.R_drew)); exact Kd.R_mono HO_14.out (fun _ hk => hk.1)⟩, ⟨by repeat (first | (with_reducible first | exact HB.out | apply below_alloc | apply pw_below_drewN | apply below_drew1) | exact HB.out)⟩⟩
    replace c49 := Bool.eq_false_iff.mpr c49
    subst c49
    have H1 : (laws_FnExactStemMove.j1 kj13 l0 l1 a2 a3 t412 t413 t422 true) = some r := by rw [if_neg (show ¬ (false = true) by decide)] at H; exact H
    clear H
    have H := H1
    clear H1
    have H' := Aside0.mk H
    clear H
    obtain ⟨Ao52, co52, eo52⟩ := Kd.R_slice HO_14.out
    subst eo52
    obtain ⟨Ao53, co53, eo53⟩ := Kd.R_slice HO_10.out
    subst eo53
    go_wp2_with (first | (go_at_call 31; (with_reducible refine (laws_eqIntS.calls kj13 _ _ t422 _ _ t412 false _ ?side1 ?side2 ?side3 ?side4 A48.out).mono ?_); (case side1 => repeat (first | exact (Kd.R_reads' HO_14.out).2.2 | (with_reducible refine Kd.C_alloc ?_ _) | (with_reducible refine Kd.C_drewN ?_ _) | (with_reducible refine Kd.C_drew ?_))); (case side2 => exact (Kd.R_reads' HO_14.out).2.1); (case side3 => repeat (first | exact (Kd.R_reads' HO_10.out).2.2 | (with_reducible refine Kd.C_alloc ?_ _) | (with_reducible refine Kd.C_drewN ?_ _) | (with_reducible refine Kd.C_drew ?_))); (case side4 => exact (Kd.R_reads' HO_10.out).2.1); rintro e w' ⟨rfl, ⟨nd, rfl⟩⟩))
    go_meet
    case rel => exact ⟨_, (true), (by first | rfl | (simp; done) | (simp [*]; done)), H', ⟨by have := HJ13.out; first | omega | exact Nat.le_refl _⟩, ⟨by (with_reducible repeat (first | apply Kd.R_alloc | apply Kd.R_drewN | apply Kd.R_drew)); exact Kd.R_mono HO_10.out (fun _ hk => hk.2.1)⟩, ⟨by (with_reducible repeat (first | apply Kd.R_alloc | apply Kd.R_drewN | apply Kd.R_drew)); exact Kd.R_mono HO_14.out (fun _ hk => hk.1)⟩, ⟨by repeat (first | (with_reducible first | exact HB.out | apply below_alloc | apply pw_below_drewN | apply below_drew1) | exact HB.out)⟩⟩
   case rest =>
    clear HC40
    try clear c1
    try clear c2
    try clear p2
    try clear c3
    try clear c4
    try clear c5
    try clear c5b0
    try clear c5b1
    try clear c7
    try clear c7b0
    try clear c11
    try clear c21
    try clear c23
    try clear c25
    try clear c26
    try clear c29
    try clear c31
    try clear c34
    try clear c37
    try clear c40
    try clear c41
    try clear c42
    try clear c43
    try clear c47
    try clear c47b0
    try clear c49
    try clear p2
    obtain ⟨kq, x88_39, rfl, HA, HJ39, HO_10, HO_14, HB⟩ := hcut
    cases kq with
    | zero => exact absurd HA.out (by simp [laws_FnExactStemMove.j1])
    | succ kj39 =>
     have H := HA.out
     clear HA
     simp only [laws_FnExactStemMove.j1] at H
     by_cases c54 : x88_39 = true
     ·subst c54
      have H1 : (some false) = some r := by rw [if_pos rfl] at H; exact H
      clear H
      have H := H1
      clear H1
      obtain rfl := Option.some.inj H
      go_wp2
      go_ret
      exact ⟨by first | rfl | (simp [errW_none, errW_some] <;> rfl) | (simp [*, errW_none, errW_some] <;> rfl), by repeat (first | (with_reducible first | exact HB.out | apply below_alloc | apply pw_below_drewN | apply below_drew1) | exact HB.out)⟩
     replace c54 := Bool.eq_false_iff.mpr c54
     subst c54
     have H1 : ((laws_markIntS.f kj39 t422 1).bind fun bt440 => ((laws_heldIntS.f kj39 bt440.2 1).bind fun t442 => (if t442 < 0 then (some false) else (if t442 = bt440.1 then ((laws_toStringS.f kj39 l0).bind fun t443 => ((laws_toIntS.f kj39 l1).bind fun t446 => ((impl_StemMove.f kj39 t443 t446 a2 a3).bind fun bt449 => ((laws_eqIntS.f kj39 bt449.1 t412).bind fun t453 => (if t453 = true then (laws_FnExactStemMove.j2 kj39 bt440.2 bt440.1 (bt449.2 != t413)) else (laws_FnExactStemMove.j2 kj39 bt440.2 bt440.1 true)))))) else (some false))))) = some r := by rw [if_neg (show ¬ (false = true) by decide)] at H; exact H
     clear H
     have H := H1
     clear H1
     replace H := Option.bind_eq_some_iff.mp H
     obtain ⟨⟨t440, t441⟩, A550, H⟩ := H
     replace H : ((laws_heldIntS.f kj39 t441 1).bind fun t442 => (if t442 < 0 then (some false) else (if t442 = t440 then ((laws_toStringS.f kj39 l0).bind fun t443 => ((laws_toIntS.f kj39 l1).bind fun t446 => ((impl_StemMove.f kj39 t443 t446 a2 a3).bind fun bt449 => ((laws_eqIntS.f kj39 bt449.1 t412).bind fun t453 => (if t453 = true then (laws_FnExactStemMove.j2 kj39 t441 t440 (bt449.2 != t413)) else (laws_FnExactStemMove.j2 kj39 t441 t440 true)))))) else (some false)))) = some r := H
     have A55 := Aside0.mk A550
     clear A550
     replace H := Option.bind_eq_some_iff.mp H
     obtain ⟨t442, A560, H⟩ := H
     replace H : (if t442 < 0 then (some false) else (if t442 = t440 then ((laws_toStringS.f kj39 l0).bind fun t443 => ((laws_toIntS.f kj39 l1).bind fun t446 => ((impl_StemMove.f kj39 t443 t446 a2 a3).bind fun bt449 => ((laws_eqIntS.f kj39 bt449.1 t412).bind fun t453 => (if t453 = true then (laws_FnExactStemMove.j2 kj39 t441 t440 (bt449.2 != t413)) else (laws_FnExactStemMove.j2 kj39 t441 t440 true)))))) else (some false))) = some r := H
     have A56 := Aside0.mk A560
     clear A560
     by_cases c57 : t442 < 0
     ·rw [if_pos c57] at H
      have c57b0 : decide (t442 < 0) = true := decide_eq_true c57
      clear c57
      obtain rfl := Option.some.inj H
      obtain ⟨Ao58, co58, eo58⟩ := Kd.R_slice HO_14.out
      subst eo58
      go_wp2_with (first | ((with_reducible refine gate_callee (f := 43) rfl ?_); refine goesL_ (some 91) rfl rfl Tryd.func43 (by kernel_rfl) rfl #[.slice Ao58 t422.length co58, .int .i64 1] rfl (by (try simp only [List.map_toArray, List.map_cons, List.map_nil]); first | done | rfl | (simp only [List.length_drop, List.length_take]; rfl)) ?_; (with_reducible refine (laws_markIntS.calls kj39 (fun k_ => some k_ = (.slice Ao58 t422.length co58 : Value).ownBlock) (.slice Ao58 t422.length co58) t422 1 t440 t441 w _ ?side1 ?side2 A55.out).mono ?_); (case side1 => repeat (first | (with_reducible first | exact HB.out | apply below_alloc | apply pw_below_drewN | apply below_drew1) | exact HB.out)); (case side2 => exact Kd.R_tight rfl HO_14.out); rintro e w59 ⟨rfl, hy0, hb, hkp⟩; refine ⟨_, rfl, ?_⟩; have n0_ := Aside0.mk (Kd.R_mono (ok' := fun k_ => some k_ ≠ (.slice Ao58 t422.length co58 : Value).ownBlock) (Kd.R_keptB (HO_10.out) hkp (fun k_ hk_ hs_ => (hk_) hs_)) (fun k_ hk_ => hk_.1)); have n1_ := Aside0.mk (Kd.R_reok rfl hy0 (fun k_ e_ => HO_14.out.1 k_ e_)); have n2_ := Aside0.mk (hb); clear HO_10; clear HO_14; clear HB; have HO_10 := n0_; have HO_14 := n1_; have HB := n2_; clear n0_ n1_ n2_; (try clear hb); (try clear hkp); (try clear hy0)) | ((with_reducible refine gate_callee (f := 44) rfl ?_); refine goesL_ (some 94) rfl rfl Tryd.func44 (by kernel_rfl) rfl #[.slice Ao58 t441.length co58, .int .i64 1] rfl (by (try simp only [List.map_toArray, List.map_cons, List.map_nil]); first | done | (rw [show t441.length = t422.length from (Kd.R_reads' HO_14.out).1.symm] <;> rfl) | rfl | (simp only [List.length_drop, List.length_take]; rfl)) ?_; (with_reducible refine (laws_heldIntS.calls kj39 _ _ t441 1 t442 _ ?side1 ?side2 A56.out).mono ?_); (case side1 => repeat (first | exact (Kd.R_reads' HO_14.out).2.2 | (with_reducible refine Kd.C_alloc ?_ _) | (with_reducible refine Kd.C_drewN ?_ _) | (with_reducible refine Kd.C_drew ?_))); (case side2 => rw [show t441.length = t422.length from (Kd.R_reads' HO_14.out).1.symm]; exact (Kd.R_reads' HO_14.out).2.1); rintro e w' ⟨rfl, ⟨nd, rfl⟩⟩; refine ⟨_, rfl, ?_⟩))
      go_ret
      exact ⟨by first | rfl | (simp [errW_none, errW_some] <;> rfl) | (simp [*, errW_none, errW_some] <;> rfl), by repeat (first | (with_reducible first | exact HB.out | apply below_alloc | apply pw_below_drewN | apply below_drew1) | exact HB.out)⟩
     rw [if_neg c57] at H
     have c57b0 : decide (t442 < 0) = false := decide_eq_false c57
     clear c57
     by_cases c60 : t442 = t440
     rotate_left
     ·rw [if_neg c60] at H
      have c60b0 : (t442 == t440) = false := beq_eq_false_iff_ne.mpr c60
      have c60b1 : (t442 != t440) = true := bne_iff_ne.mpr c60
      obtain rfl := Option.some.inj H
      obtain ⟨Ao82, co82, eo82⟩ := Kd.R_slice HO_14.out
      subst eo82
      go_wp2_with (first | ((with_reducible refine gate_callee (f := 43) rfl ?_); refine goesL_ (some 91) rfl rfl Tryd.func43 (by kernel_rfl) rfl #[.slice Ao82 t422.length co82, .int .i64 1] rfl (by (try simp only [List.map_toArray, List.map_cons, List.map_nil]); first | done | rfl | (simp only [List.length_drop, List.length_take]; rfl)) ?_; (with_reducible refine (laws_markIntS.calls kj39 (fun k_ => some k_ = (.slice Ao82 t422.length co82 : Value).ownBlock) (.slice Ao82 t422.length co82) t422 1 t440 t441 w _ ?side1 ?side2 A55.out).mono ?_); (case side1 => repeat (first | (with_reducible first | exact HB.out | apply below_alloc | apply pw_below_drewN | apply below_drew1) | exact HB.out)); (case side2 => exact Kd.R_tight rfl HO_14.out); rintro e w83 ⟨rfl, hy0, hb, hkp⟩; refine ⟨_, rfl, ?_⟩; have n0_ := Aside0.mk (Kd.R_mono (ok' := fun k_ => some k_ ≠ (.slice Ao82 t422.length co82 : Value).ownBlock) (Kd.R_keptB (HO_10.out) hkp (fun k_ hk_ hs_ => (hk_) hs_)) (fun k_ hk_ => hk_.1)); have n1_ := Aside0.mk (Kd.R_reok rfl hy0 (fun k_ e_ => HO_14.out.1 k_ e_)); have n2_ := Aside0.mk (hb); clear HO_10; clear HO_14; clear HB; have HO_10 := n0_; have HO_14 := n1_; have HB := n2_; clear n0_ n1_ n2_; (try clear hb); (try clear hkp); (try clear hy0)) | ((with_reducible refine gate_callee (f := 44) rfl ?_); refine goesL_ (some 94) rfl rfl Tryd.func44 (by kernel_rfl) rfl #[.slice Ao82 t441.length co82, .int .i64 1] rfl (by (try simp only [List.map_toArray, List.map_cons, List.map_nil]); first | done | (rw [show t441.length = t422.length from (Kd.R_reads' HO_14.out).1.symm] <;> rfl) | rfl | (simp only [List.length_drop, List.length_take]; rfl)) ?_; (with_reducible refine (laws_heldIntS.calls kj39 _ _ t441 1 t442 _ ?side1 ?side2 A56.out).mono ?_); (case side1 => repeat (first | exact (Kd.R_reads' HO_14.out).2.2 | (with_reducible refine Kd.C_alloc ?_ _) | (with_reducible refine Kd.C_drewN ?_ _) | (with_reducible refine Kd.C_drew ?_))); (case side2 => rw [show t441.length = t422.length from (Kd.R_reads' HO_14.out).1.symm]; exact (Kd.R_reads' HO_14.out).2.1); rintro e w' ⟨rfl, ⟨nd, rfl⟩⟩; refine ⟨_, rfl, ?_⟩))
      go_ret
      exact ⟨by first | rfl | (simp [errW_none, errW_some] <;> rfl) | (simp [*, errW_none, errW_some] <;> rfl), by repeat (first | (with_reducible first | exact HB.out | apply below_alloc | apply pw_below_drewN | apply below_drew1) | exact HB.out)⟩
     rw [if_pos c60] at H
     have c60b0 : (t442 == t440) = true := beq_iff_eq.mpr c60
     have c60b1 : (t442 != t440) = false := bne_eq_false_iff_eq.mpr c60
     clear c60
     replace H := Option.bind_eq_some_iff.mp H
     obtain ⟨t443, A610, H⟩ := H
     replace H : ((laws_toIntS.f kj39 l1).bind fun t446 => ((impl_StemMove.f kj39 t443 t446 a2 a3).bind fun bt449 => ((laws_eqIntS.f kj39 bt449.1 t412).bind fun t453 => (if t453 = true then (laws_FnExactStemMove.j2 kj39 t441 t440 (bt449.2 != t413)) else (laws_FnExactStemMove.j2 kj39 t441 t440 true))))) = some r := H
     have A61 := Aside0.mk A610
     clear A610
     replace H := Option.bind_eq_some_iff.mp H
     obtain ⟨t446, A620, H⟩ := H
     replace H : ((impl_StemMove.f kj39 t443 t446 a2 a3).bind fun bt449 => ((laws_eqIntS.f kj39 bt449.1 t412).bind fun t453 => (if t453 = true then (laws_FnExactStemMove.j2 kj39 t441 t440 (bt449.2 != t413)) else (laws_FnExactStemMove.j2 kj39 t441 t440 true)))) = some r := H
     have A62 := Aside0.mk A620
     clear A620
     replace H := Option.bind_eq_some_iff.mp H
     obtain ⟨⟨t449, t450⟩, A630, H⟩ := H
     replace H : ((laws_eqIntS.f kj39 t449 t412).bind fun t453 => (if t453 = true then (laws_FnExactStemMove.j2 kj39 t441 t440 (t450 != t413)) else (laws_FnExactStemMove.j2 kj39 t441 t440 true))) = some r := H
     have A63 := Aside0.mk A630
     clear A630
     have HC64 := Aside0.mk H
     clear H
     obtain ⟨Ao65, co65, eo65⟩ := Kd.R_slice HO_14.out
     subst eo65
     go_upto_region 31 with (first | ((with_reducible refine gate_callee (f := 43) rfl ?_); refine goesL_ (some 91) rfl rfl Tryd.func43 (by kernel_rfl) rfl #[.slice Ao65 t422.length co65, .int .i64 1] rfl (by (try simp only [List.map_toArray, List.map_cons, List.map_nil]); first | done | rfl | (simp only [List.length_drop, List.length_take]; rfl)) ?_; (with_reducible refine (laws_markIntS.calls kj39 (fun k_ => some k_ = (.slice Ao65 t422.length co65 : Value).ownBlock) (.slice Ao65 t422.length co65) t422 1 t440 t441 w _ ?side1 ?side2 A55.out).mono ?_); (case side1 => repeat (first | (with_reducible first | exact HB.out | apply below_alloc | apply pw_below_drewN | apply below_drew1) | exact HB.out)); (case side2 => exact Kd.R_tight rfl HO_14.out); rintro e w66 ⟨rfl, hy0, hb, hkp⟩; refine ⟨_, rfl, ?_⟩; have n0_ := Aside0.mk (Kd.R_mono (ok' := fun k_ => some k_ ≠ (.slice Ao65 t422.length co65 : Value).ownBlock) (Kd.R_keptB (HO_10.out) hkp (fun k_ hk_ hs_ => (hk_) hs_)) (fun k_ hk_ => hk_.1)); have n1_ := Aside0.mk (Kd.R_reok rfl hy0 (fun k_ e_ => HO_14.out.1 k_ e_)); have n2_ := Aside0.mk (hb); clear HO_10; clear HO_14; clear HB; have HO_10 := n0_; have HO_14 := n1_; have HB := n2_; clear n0_ n1_ n2_; (try clear hb); (try clear hkp); (try clear hy0)) | ((with_reducible refine gate_callee (f := 44) rfl ?_); refine goesL_ (some 94) rfl rfl Tryd.func44 (by kernel_rfl) rfl #[.slice Ao65 t441.length co65, .int .i64 1] rfl (by (try simp only [List.map_toArray, List.map_cons, List.map_nil]); first | done | (rw [show t441.length = t422.length from (Kd.R_reads' HO_14.out).1.symm] <;> rfl) | rfl | (simp only [List.length_drop, List.length_take]; rfl)) ?_; (with_reducible refine (laws_heldIntS.calls kj39 _ _ t441 1 t442 _ ?side1 ?side2 A56.out).mono ?_); (case side1 => repeat (first | exact (Kd.R_reads' HO_14.out).2.2 | (with_reducible refine Kd.C_alloc ?_ _) | (with_reducible refine Kd.C_drewN ?_ _) | (with_reducible refine Kd.C_drew ?_))); (case side2 => rw [show t441.length = t422.length from (Kd.R_reads' HO_14.out).1.symm]; exact (Kd.R_reads' HO_14.out).2.1); rintro e w' ⟨rfl, ⟨nd, rfl⟩⟩; refine ⟨_, rfl, ?_⟩) | ((with_reducible refine gate_callee (f := 23) rfl ?_); refine goesL_ (some 102) rfl rfl Tryd.func23 (by kernel_rfl) rfl #[.slice A0 l0.length c0] rfl (by (try simp only [List.map_toArray, List.map_cons, List.map_nil]); first | done | rfl | (simp only [List.length_drop, List.length_take]; rfl)) ?_; (with_reducible refine (laws_toStringS.calls kj39 _ _ l0 t443 _ ?side1 ?side2 A61.out).mono ?_); (case side1 => repeat (first | exact (Kd.C_below HR0.out (by repeat (first | (with_reducible first | exact HB.out | apply below_alloc | apply pw_below_drewN | apply below_drew1) | exact HB.out))) | (with_reducible refine Kd.C_alloc ?_ _) | (with_reducible refine Kd.C_drewN ?_ _) | (with_reducible refine Kd.C_drew ?_))); (case side2 => exact HC0.out); rintro e w67 ⟨v444, rfl, ho0, hb⟩; refine ⟨_, rfl, ?_⟩; have n0_ := Aside0.mk (Kd.R_below (by (with_reducible repeat (first | apply Kd.R_alloc | apply Kd.R_drewN | apply Kd.R_drew)); exact HO_10.out) hb); have n1_ := Aside0.mk (Kd.R_below (by (with_reducible repeat (first | apply Kd.R_alloc | apply Kd.R_drewN | apply Kd.R_drew)); exact HO_14.out) hb); have n2_ := Aside0.mk (Kd.R_lower ho0 (below_size (by repeat (first | (with_reducible first | exact HB.out | apply below_alloc | apply pw_below_drewN | apply below_drew1) | exact HB.out)))); have n3_ := Aside0.mk (below_step (by repeat (first | (with_reducible first | exact HB.out | apply below_alloc | apply pw_below_drewN | apply below_drew1) | exact HB.out)) hb); clear HO_10; clear HO_14; clear HB; have HO_10 := n0_; have HO_14 := n1_; have HO445 := n2_; have HB := n3_; clear n0_ n1_ n2_ n3_; (try clear hb); (try clear hb2); (try clear hk); (try clear hi); (try clear ho0)) | ((with_reducible refine gate_callee (f := 29) rfl ?_); refine goesL_ (some 104) rfl rfl Tryd.func29 (by kernel_rfl) rfl #[.slice A1 l1.length c1] rfl (by (try simp only [List.map_toArray, List.map_cons, List.map_nil]); first | done | rfl | (simp only [List.length_drop, List.length_take]; rfl)) ?_; (with_reducible refine (laws_toIntS.calls kj39 _ _ l1 t446 _ ?side1 ?side2 A62.out).mono ?_); (case side1 => repeat (first | exact (Kd.C_below HR1.out HB.out) | (with_reducible refine Kd.C_alloc ?_ _) | (with_reducible refine Kd.C_drewN ?_ _) | (with_reducible refine Kd.C_drew ?_))); (case side2 => exact HC1.out); rintro e w68 ⟨v447, rfl, ho0, hb⟩; refine ⟨_, rfl, ?_⟩; have n0_ := Aside0.mk (Kd.R_elder' (by (with_reducible repeat (first | apply Kd.R_alloc | apply Kd.R_drewN | apply Kd.R_drew)); exact HO_10.out) (Kd.R_base ho0) hb); have n1_ := Aside0.mk (Kd.R_elder' (by (with_reducible repeat (first | apply Kd.R_alloc | apply Kd.R_drewN | apply Kd.R_drew)); exact HO_14.out) (Kd.R_base ho0) hb); have n2_ := Aside0.mk (Kd.R_below (by (with_reducible repeat (first | apply Kd.R_alloc | apply Kd.R_drewN | apply Kd.R_drew)); exact HO445.out) hb); have n3_ := Aside0.mk (Kd.R_lower (Kd.R_new' (Kd.R_new' ho0 (Kd.R_lt (by (with_reducible repeat (first | apply Kd.R_alloc | apply Kd.R_drewN | apply Kd.R_drew)); exact HO_10.out))) (Kd.R_lt (by (with_reducible repeat (first | apply Kd.R_alloc | apply Kd.R_drewN | apply Kd.R_drew)); exact HO_14.out))) (below_size (by repeat (first | (with_reducible first | exact HB.out | apply below_alloc | apply pw_below_drewN | apply below_drew1) | exact HB.out)))); have n4_ := Aside0.mk (below_step (by repeat (first | (with_reducible first | exact HB.out | apply below_alloc | apply pw_below_drewN | apply below_drew1) | exact HB.out)) hb); clear HO_10; clear HO_14; clear HO445; clear HB; have HO_10 := n0_; have HO_14 := n1_; have HO445 := n2_; have HO448 := n3_; have HB := n4_; clear n0_ n1_ n2_ n3_ n4_; (try clear hb); (try clear hb2); (try clear hk); (try clear hi); (try clear ho0); obtain ⟨Ao69, co69, eo69⟩ := Kd.R_slice HO445.out; subst eo69; obtain ⟨Ao70, co70, eo70⟩ := Kd.R_slice HO448.out; subst eo70) | ((with_reducible refine gate_callee (f := 41) rfl ?_); refine goesL_ (some 107) rfl rfl Tryd.func41 (by kernel_rfl) rfl #[.slice Ao69 t443.length co69, .slice Ao70 t446.length co70, .int .i64 a2, .int .i64 a3] rfl (by (try simp only [List.map_toArray, List.map_cons, List.map_nil]); first | done | rfl | (simp only [List.length_drop, List.length_take]; rfl)) ?_; (with_reducible refine (impl_StemMove.calls kj39 _ _ t443 _ _ t446 a2 a3 t449 t450 _ ?side1 ?side2 ?side3 ?side4 A63.out).mono ?_); (case side1 => repeat (first | exact (Kd.R_reads' HO445.out).2.2 | (with_reducible refine Kd.C_alloc ?_ _) | (with_reducible refine Kd.C_drewN ?_ _) | (with_reducible refine Kd.C_drew ?_))); (case side2 => exact (Kd.R_reads' HO445.out).2.1); (case side3 => repeat (first | exact (Kd.R_reads' HO448.out).2.2 | (with_reducible refine Kd.C_alloc ?_ _) | (with_reducible refine Kd.C_drewN ?_ _) | (with_reducible refine Kd.C_drew ?_))); (case side4 => exact (Kd.R_reads' HO448.out).2.1); rintro e w71 ⟨v451, rfl, ho0, hb⟩; refine ⟨_, rfl, ?_⟩; have n0_ := Aside0.mk (Kd.R_elder' (by (with_reducible repeat (first | apply Kd.R_alloc | apply Kd.R_drewN | apply Kd.R_drew)); exact HO_10.out) (Kd.R_base ho0) hb); have n1_ := Aside0.mk (Kd.R_elder' (by (with_reducible repeat (first | apply Kd.R_alloc | apply Kd.R_drewN | apply Kd.R_drew)); exact HO_14.out) (Kd.R_base ho0) hb); have n2_ := Aside0.mk (Kd.R_below (by (with_reducible repeat (first | apply Kd.R_alloc | apply Kd.R_drewN | apply Kd.R_drew)); exact HO445.out) hb); have n3_ := Aside0.mk (Kd.R_elder' (by (with_reducible repeat (first | apply Kd.R_alloc | apply Kd.R_drewN | apply Kd.R_drew)); exact HO448.out) (Kd.R_base ho0) hb); have n4_ := Aside0.mk (Kd.R_lower (Kd.R_new' (Kd.R_new' (Kd.R_new' ho0 (Kd.R_lt (by (with_reducible repeat (first | apply Kd.R_alloc | apply Kd.R_drewN | apply Kd.R_drew)); exact HO_10.out))) (Kd.R_lt (by (with_reducible repeat (first | apply Kd.R_alloc | apply Kd.R_drewN | apply Kd.R_drew)); exact HO_14.out))) (Kd.R_lt (by (with_reducible repeat (first | apply Kd.R_alloc | apply Kd.R_drewN | apply Kd.R_drew)); exact HO448.out))) (below_size (by repeat (first | (with_reducible first | exact HB.out | apply below_alloc | apply pw_below_drewN | apply below_drew1) | exact HB.out)))); have n5_ := Aside0.mk (below_step (by repeat (first | (with_reducible first | exact HB.out | apply below_alloc | apply pw_below_drewN | apply below_drew1) | exact HB.out)) hb); clear HO_10; clear HO_14; clear HO445; clear HO448; clear HB; have HO_10 := n0_; have HO_14 := n1_; have HO445 := n2_; have HO448 := n3_; have HO452 := n4_; have HB := n5_; clear n0_ n1_ n2_ n3_ n4_ n5_; (try clear hb); (try clear hb2); (try clear hk); (try clear hi); (try clear ho0)))
     (try simp only [Act.put, List.setIfInBounds_toArray, List.set_cons_zero, List.set_cons_succ])
     go_cut [118] (fun v118 wc => ∃ (kq : Nat) (x118_63 : Bool), v118 = .bool x118_63 ∧ Aside0 (laws_FnExactStemMove.j2 kq t441 t440 x118_63 = some r) ∧ Aside0 (kq ≤ kj39) ∧ Aside0 (Kd.R (Kd.int .i64) 3 wc w.heap.size (fun _ => True) (.slice Ao65 t422.length co65) t441) ∧ Aside0 (Below w.heap.size w wc))
     case first =>
      have H := HC64.out
      clear HC64
      replace H := Option.bind_eq_some_iff.mp H
      obtain ⟨t453, A720, H⟩ := H
      replace H : (if t453 = true then (laws_FnExactStemMove.j2 kj39 t441 t440 (t450 != t413)) else (laws_FnExactStemMove.j2 kj39 t441 t440 true)) = some r := H
      have A72 := Aside0.mk A720
      clear A720
      by_cases c73 : t453 = true
      ·subst c73
       have H1 : (laws_FnExactStemMove.j2 kj39 t441 t440 (t450 != t413)) = some r := by rw [if_pos rfl] at H; exact H
       clear H
       have H := H1
       clear H1
       have H' := Aside0.mk H
       clear H
       obtain ⟨Ao74, co74, eo74⟩ := Kd.R_slice HO452.out
       subst eo74
       obtain ⟨Ao75, co75, eo75⟩ := Kd.R_slice HO_10.out
       subst eo75
       go_wp2_with (first | ((with_reducible refine gate_callee (f := 31) rfl ?_); refine goesL_ (some 112) rfl rfl Tryd.func31 (by kernel_rfl) rfl #[.slice Ao74 t449.length co74, .slice Ao75 t412.length co75] rfl (by (try simp only [List.map_toArray, List.map_cons, List.map_nil]); first | done | rfl | (simp only [List.length_drop, List.length_take]; rfl)) ?_; (with_reducible refine (laws_eqIntS.calls kj39 _ _ t449 _ _ t412 true _ ?side1 ?side2 ?side3 ?side4 A72.out).mono ?_); (case side1 => repeat (first | exact (Kd.R_reads' HO452.out).2.2 | (with_reducible refine Kd.C_alloc ?_ _) | (with_reducible refine Kd.C_drewN ?_ _) | (with_reducible refine Kd.C_drew ?_))); (case side2 => exact (Kd.R_reads' HO452.out).2.1); (case side3 => repeat (first | exact (Kd.R_reads' HO_10.out).2.2 | (with_reducible refine Kd.C_alloc ?_ _) | (with_reducible refine Kd.C_drewN ?_ _) | (with_reducible refine Kd.C_drew ?_))); (case side4 => exact (Kd.R_reads' HO_10.out).2.1); rintro e w' ⟨rfl, ⟨nd, rfl⟩⟩; refine ⟨_, rfl, ?_⟩))
       go_meet
       case rel => exact ⟨_, ((t450 != t413)), (by first | rfl | (simp; done) | (simp [*]; done)), H', ⟨by have := HJ13.out; have := HJ39.out; first | omega | exact Nat.le_refl _⟩, ⟨by (with_reducible repeat (first | apply Kd.R_alloc | apply Kd.R_drewN | apply Kd.R_drew)); exact Kd.R_mono HO_14.out (fun _ hk => trivial)⟩, ⟨by repeat (first | (with_reducible first | exact HB.out | apply below_alloc | apply pw_below_drewN | apply below_drew1) | exact HB.out)⟩⟩
      replace c73 := Bool.eq_false_iff.mpr c73
      subst c73
      have H1 : (laws_FnExactStemMove.j2 kj39 t441 t440 true) = some r := by rw [if_neg (show ¬ (false = true) by decide)] at H; exact H
      clear H
      have H := H1
      clear H1
      have H' := Aside0.mk H
      clear H
      obtain ⟨Ao76, co76, eo76⟩ := Kd.R_slice HO452.out
      subst eo76
      obtain ⟨Ao77, co77, eo77⟩ := Kd.R_slice HO_10.out
      subst eo77
      go_wp2_with (first | ((with_reducible refine gate_callee (f := 31) rfl ?_); refine goesL_ (some 112) rfl rfl Tryd.func31 (by kernel_rfl) rfl #[.slice Ao76 t449.length co76, .slice Ao77 t412.length co77] rfl (by (try simp only [List.map_toArray, List.map_cons, List.map_nil]); first | done | rfl | (simp only [List.length_drop, List.length_take]; rfl)) ?_; (with_reducible refine (laws_eqIntS.calls kj39 _ _ t449 _ _ t412 false _ ?side1 ?side2 ?side3 ?side4 A72.out).mono ?_); (case side1 => repeat (first | exact (Kd.R_reads' HO452.out).2.2 | (with_reducible refine Kd.C_alloc ?_ _) | (with_reducible refine Kd.C_drewN ?_ _) | (with_reducible refine Kd.C_drew ?_))); (case side2 => exact (Kd.R_reads' HO452.out).2.1); (case side3 => repeat (first | exact (Kd.R_reads' HO_10.out).2.2 | (with_reducible refine Kd.C_alloc ?_ _) | (with_reducible refine Kd.C_drewN ?_ _) | (with_reducible refine Kd.C_drew ?_))); (case side4 => exact (Kd.R_reads' HO_10.out).2.1); rintro e w' ⟨rfl, ⟨nd, rfl⟩⟩; refine ⟨_, rfl, ?_⟩))
      go_meet
      case rel => exact ⟨_, (true), (by first | rfl | (simp; done) | (simp [*]; done)), H', ⟨by have := HJ13.out; have := HJ39.out; first | omega | exact Nat.le_refl _⟩, ⟨by (with_reducible repeat (first | apply Kd.R_alloc | apply Kd.R_drewN | apply Kd.R_drew)); exact Kd.R_mono HO_14.out (fun _ hk => trivial)⟩, ⟨by repeat (first | (with_reducible first | exact HB.out | apply below_alloc | apply pw_below_drewN | apply below_drew1) | exact HB.out)⟩⟩
     case rest =>
      clear HC64
      try clear c1
      try clear c2
      try clear p2
      try clear c3
      try clear c4
      try clear c5
      try clear c5b0
      try clear c5b1
      try clear c6
      try clear c7
      try clear c7b0
      try clear c11
      try clear c21
      try clear c23
      try clear c25
      try clear c26
      try clear c29
      try clear c31
      try clear c34
      try clear c37
      try clear c40
      try clear c41
      try clear c42
      try clear c43
      try clear c44
      try clear c47
      try clear c47b0
      try clear c49
      try clear c54
      try clear c57
      try clear c57b0
      try clear c60
      try clear c60b0
      try clear c60b1
      try clear c73
      try clear p2
      obtain ⟨kq, x118_63, rfl, HA, HJ63, HO_14, HB⟩ := hcut
      have hl14_63 := (Kd.R_reads' HO_14.out).1
      rw [hl14_63] at HO_14
      (try simp only [hl14_63])
      cases kq with
      | zero => exact absurd HA.out (by simp [laws_FnExactStemMove.j2])
      | succ kj63 =>
       have H := HA.out
       clear HA
       simp only [laws_FnExactStemMove.j2] at H
       by_cases c78 : x118_63 = true
       ·subst c78
        have H1 : (some false) = some r := by rw [if_pos rfl] at H; exact H
        clear H
        have H := H1
        clear H1
        obtain rfl := Option.some.inj H
        go_wp2
        go_ret
        exact ⟨by first | rfl | (simp [errW_none, errW_some] <;> rfl) | (simp [*, errW_none, errW_some] <;> rfl), by repeat (first | (with_reducible first | exact HB.out | apply below_alloc | apply pw_below_drewN | apply below_drew1) | exact HB.out)⟩
       replace c78 := Bool.eq_false_iff.mpr c78
       subst c78
       have H1 : ((laws_heldIntS.f kj63 t441 1).bind fun t454 => (if t454 < 0 then (some false) else (if t454 = t440 then (some true) else (some false)))) = some r := by rw [if_neg (show ¬ (false = true) by decide)] at H; exact H
       clear H
       have H := H1
       clear H1
       replace H := Option.bind_eq_some_iff.mp H
       obtain ⟨t454, A790, H⟩ := H
       replace H : (if t454 < 0 then (some false) else (if t454 = t440 then (some true) else (some false))) = some r := H
       have A79 := Aside0.mk A790
       clear A790
       by_cases c80 : t454 < 0
       ·rw [if_pos c80] at H
        have c80b0 : decide (t454 < 0) = true := decide_eq_true c80
        clear c80
        obtain rfl := Option.some.inj H
        go_wp2_with (first | ((with_reducible refine gate_callee (f := 44) rfl ?_); refine goesL_ (some 121) rfl rfl Tryd.func44 (by kernel_rfl) rfl #[.slice Ao65 t441.length co65, .int .i64 1] rfl (by (try simp only [List.map_toArray, List.map_cons, List.map_nil]); first | done | rfl | (simp only [List.length_drop, List.length_take]; rfl)) ?_; (with_reducible refine (laws_heldIntS.calls kj63 _ _ t441 1 t454 _ ?side1 ?side2 A79.out).mono ?_); (case side1 => repeat (first | exact (Kd.R_reads' HO_14.out).2.2 | (with_reducible refine Kd.C_alloc ?_ _) | (with_reducible refine Kd.C_drewN ?_ _) | (with_reducible refine Kd.C_drew ?_))); (case side2 => exact (Kd.R_reads' HO_14.out).2.1); rintro e w' ⟨rfl, ⟨nd, rfl⟩⟩; refine ⟨_, rfl, ?_⟩))
        go_ret
        exact ⟨by first | rfl | (simp [errW_none, errW_some] <;> rfl) | (simp [*, errW_none, errW_some] <;> rfl), by repeat (first | (with_reducible first | exact HB.out | apply below_alloc | apply pw_below_drewN | apply below_drew1) | exact HB.out)⟩
       rw [if_neg c80] at H
       have c80b0 : decide (t454 < 0) = false := decide_eq_false c80
       clear c80
       by_cases c81 : t454 = t440
       rotate_left
       ·rw [if_neg c81] at H
        have c81b0 : (t454 == t440) = false := beq_eq_false_iff_ne.mpr c81
        have c81b1 : (t454 != t440) = true := bne_iff_ne.mpr c81
        obtain rfl := Option.some.inj H
        go_wp2_with (first | ((with_reducible refine gate_callee (f := 44) rfl ?_); refine goesL_ (some 121) rfl rfl Tryd.func44 (by kernel_rfl) rfl #[.slice Ao65 t441.length co65, .int .i64 1] rfl (by (try simp only [List.map_toArray, List.map_cons, List.map_nil]); first | done | rfl | (simp only [List.length_drop, List.length_take]; rfl)) ?_; (with_reducible refine (laws_heldIntS.calls kj63 _ _ t441 1 t454 _ ?side1 ?side2 A79.out).mono ?_); (case side1 => repeat (first | exact (Kd.R_reads' HO_14.out).2.2 | (with_reducible refine Kd.C_alloc ?_ _) | (with_reducible refine Kd.C_drewN ?_ _) | (with_reducible refine Kd.C_drew ?_))); (case side2 => exact (Kd.R_reads' HO_14.out).2.1); rintro e w' ⟨rfl, ⟨nd, rfl⟩⟩; refine ⟨_, rfl, ?_⟩))
        go_ret
        exact ⟨by first | rfl | (simp [errW_none, errW_some] <;> rfl) | (simp [*, errW_none, errW_some] <;> rfl), by repeat (first | (with_reducible first | exact HB.out | apply below_alloc | apply pw_below_drewN | apply below_drew1) | exact HB.out)⟩
       rw [if_pos c81] at H
       have c81b0 : (t454 == t440) = true := beq_iff_eq.mpr c81
       have c81b1 : (t454 != t440) = false := bne_eq_false_iff_eq.mpr c81
       clear c81
       obtain rfl := Option.some.inj H
       go_wp2_with (first | ((with_reducible refine gate_callee (f := 44) rfl ?_); refine goesL_ (some 121) rfl rfl Tryd.func44 (by kernel_rfl) rfl #[.slice Ao65 t441.length co65, .int .i64 1] rfl (by (try simp only [List.map_toArray, List.map_cons, List.map_nil]); first | done | rfl | (simp only [List.length_drop, List.length_take]; rfl)) ?_; (with_reducible refine (laws_heldIntS.calls kj63 _ _ t441 1 t454 _ ?side1 ?side2 A79.out).mono ?_); (case side1 => repeat (first | exact (Kd.R_reads' HO_14.out).2.2 | (with_reducible refine Kd.C_alloc ?_ _) | (with_reducible refine Kd.C_drewN ?_ _) | (with_reducible refine Kd.C_drew ?_))); (case side2 => exact (Kd.R_reads' HO_14.out).2.1); rintro e w' ⟨rfl, ⟨nd, rfl⟩⟩; refine ⟨_, rfl, ?_⟩))
       go_ret
       exact ⟨by first | rfl | (simp [errW_none, errW_some] <;> rfl) | (simp [*, errW_none, errW_some] <;> rfl), by repeat (first | (with_reducible first | exact HB.out | apply below_alloc | apply pw_below_drewN | apply below_drew1) | exact HB.out)⟩
end Go.Proofs.YtejoneninbdjbaaDoor.E
end
section
namespace Go.Proofs.YtejoneninbdjbaaDoor.Pur
open Go.RowKit Go.Proofs.YtejoneninbdjbaaDoorW.PrintWords
def EvP {α : Type} (g : Nat → Option α) (P : α → Prop) : Prop := ∃ r, Ev g r ∧ P r
section
variable {α β : Type}
theorem EvP.bind {g : Nat → Option α} {f : Nat → α → Option β} {P : α → Prop} {Q : β → Prop} (h : EvP g P) (k : ∀ a, P a → EvP (fun n => f n a) Q) : EvP (fun n => (g n).bind (f n)) Q := by
  obtain ⟨a, ha, hp⟩ := h
  obtain ⟨b, hb, hq⟩ := k a hp
  exact ⟨b, Ev.bind ha hb, hq⟩
theorem EvP.ret {P : α → Prop} {r : α} (h : P r) : EvP (fun _ => some r) P := ⟨r, Ev.now r, h⟩
theorem EvP.con {o : Option α} {P : α → Prop} {r : α} (h : o = some r) (hp : P r) : EvP (fun _ => o) P := by subst h; exact .ret hp
theorem EvP.ite {c : Prop} [Decidable c] {f g : Nat → Option α} {P : α → Prop} (h : c → EvP f P) (k : ¬ c → EvP g P) : EvP (fun n => if c then f n else g n) P := by
  by_cases hc : c
  · obtain ⟨r, hr, hp⟩ := h hc
    exact ⟨r, Ev.congr (fun n => if_pos hc) hr, hp⟩
  · obtain ⟨r, hr, hp⟩ := k hc
    exact ⟨r, Ev.congr (fun n => if_neg hc) hr, hp⟩
theorem EvP.yes {c : Prop} [Decidable c] {f g : Nat → Option α} {P : α → Prop} (hc : c) (h : EvP f P) : EvP (fun n => if c then f n else g n) P := .ite (fun _ => h) (fun k => absurd hc k)
theorem EvP.no {c : Prop} [Decidable c] {f g : Nat → Option α} {P : α → Prop} (hc : ¬ c) (h : EvP g P) : EvP (fun n => if c then f n else g n) P := .ite (fun k => absurd k hc) (fun _ => h)
theorem EvP.step {g f : Nat → Option α} {P : α → Prop} (h : ∀ k, g (k + 1) = f k) (k : EvP f P) : EvP g P := by
  obtain ⟨r, hr, hp⟩ := k
  exact ⟨r, Ev.step h hr, hp⟩
theorem EvP.succ {g : Nat → Option α} {P : α → Prop} (k : EvP (fun n => g (n + 1)) P) : EvP g P := EvP.step (fun _ => rfl) k
theorem EvP.mono {g : Nat → Option α} {P Q : α → Prop} (h : EvP g P) (k : ∀ r, P r → Q r) : EvP g Q := by
  obtain ⟨r, hr, hp⟩ := h
  exact ⟨r, hr, k r hp⟩
theorem EvP.rounds {g : Nat → Option α} {r : α} (h : EvP g (· = r)) : ∃ k, g k = some r := by
  obtain ⟨_, hr, rfl⟩ := h
  exact hr.rounds
end
structure Hd (p : Prop) : Prop where mk :: (out : p)
theorem w64 {i : Int} (h0 : -9223372036854775808 ≤ i) (h1 : i ≤ 9223372036854775807) : wrap64 i = i := by unfold wrap64; omega
theorem tdiv_pos {a : Int} (b : Int) (h : 0 ≤ a) : Int.tdiv a b = a / b := Int.tdiv_eq_ediv_of_nonneg h
theorem toNat_nat (n : Nat) : ((n : Int)).toNat = n := rfl
end Go.Proofs.YtejoneninbdjbaaDoor.Pur
end
section
namespace Go.Proofs.YtejoneninbdjbaaDoor.E
open Go.RowKit Go.Proofs.YtejoneninbdjbaaDoorW.PrintWords Go.Proofs.YtejoneninbdjbaaDoorW.PrintLast Go.Proofs.YtejoneninbdjbaaDoorW.PrintMore
attribute [local go_sem] max2_int min2_int max_two min_two max_three min_three max_four min_four
set_option linter.unusedVariables false
set_option linter.unusedSimpArgs false
attribute [local go_sem] str_leq_ str_gtr_ str_geq_
def impl_BooksValid.f (k : Nat) (l0 : List ByteArray) : Option (Bool) := (impl_lostOf.f k l0).bind fun bt125 => (if bt125.2 = true then (some (bt125.1 == 0)) else (some false))
end Go.Proofs.YtejoneninbdjbaaDoor.E
end
section
namespace Go.Proofs.YtejoneninbdjbaaDoor.E
open Go.RowKit Go.Proofs.YtejoneninbdjbaaDoorW.PrintWords Go.Proofs.YtejoneninbdjbaaDoorW.PrintLast Go.Proofs.YtejoneninbdjbaaDoorW.PrintMore
attribute [local go_sem] max2_int min2_int max_two min_two max_three min_three max_four min_four
set_option linter.unusedVariables false
set_option linter.unusedSimpArgs false
attribute [local go_sem] str_leq_ str_gtr_ str_geq_
def spec_BooksValid.f (k : Nat) (l0 : List ByteArray) : Option (Bool) := (spec_l7Books.f k l0).bind fun bt113 => (if bt113.2 = true then (some (bt113.1 == 0)) else (some false))
end Go.Proofs.YtejoneninbdjbaaDoor.E
end
section
namespace Go.Proofs.YtejoneninbdjbaaDoor.Pur
open Go.RowKit Go.Proofs.YtejoneninbdjbaaDoorW.PrintWords Go.Proofs.YtejoneninbdjbaaDoorW.PrintMore Go.Proofs.YtejoneninbdjbaaDoor.E
def lostB (t : ByteArray) : Bool := t.data.toList.all (fun b => b == 63)
def readB (t : ByteArray) : Bool := t.data.toList.all (fun b => decide (97 ≤ b.toNat) && decide (b.toNat ≤ 100))
theorem bt_at (t : ByteArray) (i : Nat) (h : i < t.size) : bt t (i : Int) = ((t.data.toList[i]'(by rw [Array.length_toList]; exact h)).toNat : Int) := by
  unfold bt
  rw [toNat_nat, dif_pos h, Array.getElem_toList]
  rfl
theorem list_len (t : ByteArray) : t.data.toList.length = t.size := Array.length_toList
theorem rd_at {l : List ByteArray} {i : Nat} (h : i < l.length) : rdOf ByteArray.empty l (i : Int) = l[i] := by
  unfold rdOf
  rw [toNat_nat, List.getD_eq_getElem?_getD, List.getElem?_eq_getElem h]
  rfl
theorem u8_eq {b : UInt8} {n : Nat} (hn : n < 256) : (b == UInt8.ofNat n) = decide (b.toNat = n) := by
  by_cases h : b.toNat = n
  · rw [decide_eq_true h, beq_iff_eq, ← UInt8.toNat_inj, h, UInt8.toNat_ofNat_of_lt' hn]
  · rw [decide_eq_false h, beq_eq_false_iff_ne]
    intro e
    rw [e, UInt8.toNat_ofNat_of_lt' hn] at h
    exact h rfl
theorem lost_loop (t : ByteArray) (ht : t.size ≤ 9223372036854775806) : ∀ d i : Nat, i + d = t.size → EvP (fun k => spec_l7Lost.l0 k t (i : Int)) (· = (t.data.toList.drop i).all (fun b => b == 63)) := by
  intro d
  induction d with
  | zero =>
    intro i hi
    refine EvP.succ ?_
    simp only [spec_l7Lost.l0]
    exact EvP.no (by omega) (EvP.ret (by rw [List.drop_of_length_le (by rw [list_len]; omega)]; rfl))
  | succ d ih =>
    intro i hi
    have hlt : i < t.size := by omega
    have hl : i < t.data.toList.length := by rw [list_len]; exact hlt
    have e2 : Hd (wrap64 ((i : Int) + 1) = ((i + 1 : Nat) : Int)) := ⟨w64 (by omega) (by omega)⟩
    refine EvP.succ ?_
    simp only [spec_l7Lost.l0]
    refine EvP.yes (by omega) (EvP.yes (by omega) ?_)
    rw [bt_at t i hlt, e2.out, List.drop_eq_getElem_cons hl, List.all_cons, show (63 : UInt8) = UInt8.ofNat 63 from rfl, u8_eq (by omega)]
    refine EvP.ite (fun h => ?_) (fun h => EvP.ret ?_)
    · rw [decide_eq_true (by omega), Bool.true_and]
      exact ih (i + 1) (by omega)
    · rw [decide_eq_false (by omega), Bool.false_and]
theorem spec_lost (t : ByteArray) (ht : t.size ≤ 9223372036854775806) : EvP (fun k => spec_l7Lost.f k t) (· = lostB t) := by
  unfold spec_l7Lost.f
  exact lost_loop t ht t.size 0 (by omega)
theorem read_loop (t : ByteArray) (ht : t.size ≤ 9223372036854775806) : ∀ d i : Nat, i + d = t.size → EvP (fun k => spec_l7Reading.l0 k t (i : Int)) (· = (t.data.toList.drop i).all (fun b => decide (97 ≤ b.toNat) && decide (b.toNat ≤ 100))) := by
  intro d
  induction d with
  | zero =>
    intro i hi
    refine EvP.succ ?_
    simp only [spec_l7Reading.l0]
    exact EvP.no (by omega) (EvP.ret (by rw [List.drop_of_length_le (by rw [list_len]; omega)]; rfl))
  | succ d ih =>
    intro i hi
    have hlt : i < t.size := by omega
    have hl : i < t.data.toList.length := by rw [list_len]; exact hlt
    have e2 : Hd (wrap64 ((i : Int) + 1) = ((i + 1 : Nat) : Int)) := ⟨w64 (by omega) (by omega)⟩
    refine EvP.succ ?_
    simp only [spec_l7Reading.l0]
    refine EvP.yes (by omega) (EvP.yes (by omega) ?_)
    rw [bt_at t i hlt, e2.out, List.drop_eq_getElem_cons hl, List.all_cons]
    refine EvP.ite (fun h => EvP.ret ?_) (fun h => EvP.ite (fun h' => EvP.ret ?_) (fun h' => ?_))
    · rw [decide_eq_false (by omega), Bool.false_and, Bool.false_and]
    · rw [decide_eq_false (p := _ ≤ 100) (by omega), Bool.and_false, Bool.false_and]
    · rw [decide_eq_true (by omega), decide_eq_true (by omega), Bool.true_and, Bool.true_and]
      exact ih (i + 1) (by omega)
theorem spec_read (t : ByteArray) (ht : t.size ≤ 9223372036854775806) : EvP (fun k => spec_l7Reading.f k t) (· = readB t) := by
  unfold spec_l7Reading.f
  exact read_loop t ht t.size 0 (by omega)
theorem dropWhile_nil {α : Type} (p : α → Bool) : ∀ l : List α, l.dropWhile p = [] ↔ l.all p = true
  | [] => by simp
  | a :: l => by
    by_cases h : p a = true
    · rw [List.dropWhile_cons_of_pos h, dropWhile_nil p l, List.all_cons, h, Bool.true_and]
    · rw [List.dropWhile_cons_of_neg h, List.all_cons, Bool.eq_false_iff.mpr h, Bool.false_and]; simp
theorem dropWhile_head {α : Type} (p : α → Bool) : ∀ l : List α, l.dropWhile p = [] ∨ ∃ a l', l.dropWhile p = a :: l' ∧ p a = false
  | [] => .inl rfl
  | a :: l => by
    by_cases h : p a = true
    · rw [List.dropWhile_cons_of_pos h]; exact dropWhile_head p l
    · rw [List.dropWhile_cons_of_neg h]; exact .inr ⟨a, l, rfl, Bool.eq_false_iff.mpr h⟩
theorem trim_nil (l cs : List UInt8) : Lib.trimS l cs = [] ↔ l.all (cs.contains ·) = true := by
  unfold Lib.trimS Lib.trimLeftS Lib.trimRightS
  rw [dropWhile_nil, List.all_reverse]
  refine ⟨fun h => ?_, fun h => ?_⟩
  · rcases dropWhile_head (cs.contains ·) l.reverse with e | ⟨a, l', e, ha⟩
    · rw [dropWhile_nil, List.all_reverse] at e; exact e
    · rw [e, List.all_cons, ha, Bool.false_and] at h; exact absurd h (by decide)
  · have : l.reverse.dropWhile (cs.contains ·) = [] := (dropWhile_nil _ _).mpr (by rw [List.all_reverse]; exact h)
    rw [this]; rfl
theorem trim_some (t c : ByteArray) (ht : t.size ≤ 9223372036854775806) (hc : c.size < 4294967281) (ha : c.data.toList.all (fun b => decide (b.toNat < 128)) = true) : strings_Trim.f t c = some ⟨(Lib.trimS t.data.toList c.data.toList).toArray⟩ := by
  unfold strings_Trim.f
  rw [if_pos (by omega), if_pos hc, if_pos ha]
theorem impl_lost (t : ByteArray) (ht : t.size ≤ 9223372036854775806) (h0 : t.size ≠ 0) : impl_isLost.f t = some (lostB t) := by
  unfold impl_isLost.f
  have hne : ¬ t.toList = ([] : List UInt8) := by
    rw [ByteArray.toList_eq]
    intro e
    have := congrArg List.length e
    rw [list_len] at this
    exact h0 this
  rw [if_neg hne, trim_some t _ ht (by decide) (by decide)]
  simp only [Option.bind_some]
  rw [ByteArray.toList_eq]
  congr 1
  show (Lib.trimS t.data.toList [63] == []) = lostB t
  have h := trim_nil t.data.toList [63]
  have e : (t.data.toList.all (fun b => [63].contains b)) = lostB t := by
    unfold lostB
    congr 1
    funext b
    rw [List.contains_cons]
    simp
  rw [e] at h
  by_cases hl : lostB t = true
  · rw [hl, beq_iff_eq]; exact h.mpr hl
  · rw [Bool.eq_false_iff.mpr hl, beq_eq_false_iff_ne]; exact fun e => hl (h.mp e)
theorem trim_read (t : ByteArray) (ht : t.size ≤ 9223372036854775806) : ∃ r, strings_Trim.f t (⟨#[97, 98, 99, 100]⟩ : ByteArray) = some r ∧ (r.toList = ([] : List UInt8) ↔ readB t = true) := by
  refine ⟨_, trim_some t _ ht (by decide) (by decide), ?_⟩
  rw [ByteArray.toList_eq]
  show Lib.trimS t.data.toList [97, 98, 99, 100] = [] ↔ _
  rw [trim_nil]
  have e : (t.data.toList.all (fun b => [97, 98, 99, 100].contains b)) = readB t := by
    unfold readB
    congr 1
    funext b
    have h : ∀ n : Nat, n < 256 → (b == UInt8.ofNat n) = decide (b.toNat = n) := fun n hn => u8_eq hn
    simp only [List.contains, List.elem]
    rw [show (97 : UInt8) = UInt8.ofNat 97 from rfl, show (98 : UInt8) = UInt8.ofNat 98 from rfl, show (99 : UInt8) = UInt8.ofNat 99 from rfl, show (100 : UInt8) = UInt8.ofNat 100 from rfl, h 97 (by omega), h 98 (by omega), h 99 (by omega), h 100 (by omega)]
    rcases Nat.lt_or_ge b.toNat 97 with g | g
    · rw [decide_eq_false (p := b.toNat = 97) (by omega), decide_eq_false (p := b.toNat = 98) (by omega), decide_eq_false (p := b.toNat = 99) (by omega), decide_eq_false (p := b.toNat = 100) (by omega), decide_eq_false (p := 97 ≤ b.toNat) (by omega)]; rfl
    · rcases Nat.lt_or_ge 100 b.toNat with g' | g'
      · rw [decide_eq_false (p := b.toNat = 97) (by omega), decide_eq_false (p := b.toNat = 98) (by omega), decide_eq_false (p := b.toNat = 99) (by omega), decide_eq_false (p := b.toNat = 100) (by omega), decide_eq_false (p := b.toNat ≤ 100) (by omega), Bool.and_false]
      · rw [decide_eq_true (p := 97 ≤ b.toNat) g, decide_eq_true (p := b.toNat ≤ 100) g', Bool.and_true]
        have : b.toNat = 97 ∨ b.toNat = 98 ∨ b.toNat = 99 ∨ b.toNat = 100 := by omega
        rcases this with e | e | e | e <;> rw [e] <;> rfl
  rw [e]
def goB (n : Nat) : List ByteArray → Int → Int × Bool
  | [], c => (c, true)
  | t :: ts, c => if t.size = n ∧ (readB t = true ∨ lostB t = true) then goB n ts (if lostB t = true then c + 1 else c) else (0, false)
def booksOf (l : List ByteArray) : Int × Bool := if 1 ≤ l.length ∧ l.length ≤ 6 ∧ 1 ≤ (l.getD 0 ByteArray.empty).size ∧ (l.getD 0 ByteArray.empty).size ≤ 8 then goB (l.getD 0 ByteArray.empty).size l 0 else (0, false)
theorem rd0 (l : List ByteArray) : rdOf ByteArray.empty l 0 = l.getD 0 ByteArray.empty := rfl
section
variable (l : List ByteArray) (hl : 1 ≤ l.length ∧ l.length ≤ 6) (hs : ∀ t ∈ l, t.size ≤ 9223372036854775806)
include hl hs
theorem spec_books_loop (_ : 1 ≤ (l.getD 0 ByteArray.empty).size ∧ (l.getD 0 ByteArray.empty).size ≤ 8) : ∀ (d i : Nat) (c : Int), i + d = l.length → 0 ≤ c → c ≤ i → EvP (fun k => spec_l7Books.l0 k l c (i : Int)) (· = goB (l.getD 0 ByteArray.empty).size (l.drop i) c) := by
  intro d
  induction d with
  | zero =>
    intro i c hi hc0 hc1
    refine EvP.succ ?_
    simp only [spec_l7Books.l0]
    exact EvP.no (by omega) (EvP.ret (by rw [List.drop_of_length_le (by omega)]; rfl))
  | succ d ih =>
    intro i c hi hc0 hc1
    have hlt : i < l.length := by omega
    have hsz := hs l[i] (List.getElem_mem hlt)
    have e1 : Hd (wrap64 (c + 1) = c + 1) := ⟨w64 (by omega) (by omega)⟩
    have e2 : Hd (wrap64 ((i : Int) + 1) = ((i + 1 : Nat) : Int)) := ⟨w64 (by omega) (by omega)⟩
    rw [List.drop_eq_getElem_cons hlt, goB]
    have J : ∀ B : Bool, (B = false ↔ (l[i].size = (l.getD 0 ByteArray.empty).size ∧ (readB l[i] = true ∨ lostB l[i] = true))) → EvP (fun k => spec_l7Books.j2 k l c (i : Int) B) (· = if l[i].size = (l.getD 0 ByteArray.empty).size ∧ (readB l[i] = true ∨ lostB l[i] = true) then goB (l.getD 0 ByteArray.empty).size (l.drop (i + 1)) (if lostB l[i] = true then c + 1 else c) else (0, false)) := by
      intro B hB
      refine EvP.succ ?_
      simp only [spec_l7Books.j2]
      refine EvP.ite (fun hb => EvP.ret ?_) (fun hb => ?_)
      · rw [if_neg (fun h => by rw [hB.mpr h] at hb; exact Bool.noConfusion hb)]
      · rw [if_pos (hB.mp (Bool.eq_false_iff.mpr hb))]
        refine EvP.yes (by omega) (EvP.yes (by omega) ?_)
        rw [rd_at hlt, e1.out, e2.out]
        refine EvP.bind (spec_lost _ hsz) (fun _ e => ?_)
        subst e
        refine EvP.ite (fun h => ?_) (fun h => ?_)
        · rw [if_pos h]; exact ih (i + 1) (c + 1) (by omega) (by omega) (by omega)
        · rw [if_neg h]; exact ih (i + 1) c (by omega) hc0 (by omega)
    refine EvP.succ ?_
    simp only [spec_l7Books.l0]
    refine EvP.yes (by omega) (EvP.yes (by omega) (EvP.yes (by omega) ?_))
    rw [rd_at hlt, rd0]
    refine EvP.ite (fun hz => ?_) (fun hz => J true ⟨fun h => Bool.noConfusion h, fun h => absurd (by rw [h.1]) hz⟩)
    have hz : l[i].size = (l.getD 0 ByteArray.empty).size := by omega
    refine EvP.bind (spec_read _ hsz) (fun _ e => ?_)
    subst e
    refine EvP.ite (fun h => J false ⟨fun _ => ⟨hz, .inl h⟩, fun _ => rfl⟩) (fun h => ?_)
    refine EvP.bind (spec_lost _ hsz) (fun _ e => ?_)
    subst e
    refine J _ ⟨fun h' => ⟨hz, .inr (by simpa using h')⟩, fun h' => ?_⟩
    rcases h'.2 with h' | h'
    · exact absurd h' h
    · rw [h']; rfl
theorem impl_books_loop : ∀ (d i : Nat) (c : Int), i + d = l.length → 0 ≤ c → c ≤ i → (i = 0 → 0 < d) → EvP (fun k => impl_lostOf.l0 k l c l (l.length : Int) (i : Int)) (· = if 1 ≤ (l.getD 0 ByteArray.empty).size ∧ (l.getD 0 ByteArray.empty).size ≤ 8 ∨ d = 0 then goB (l.getD 0 ByteArray.empty).size (l.drop i) c else (0, false)) := by
  intro d
  induction d with
  | zero =>
    intro i c hi hc0 hc1 _
    refine EvP.succ ?_
    simp only [impl_lostOf.l0]
    exact EvP.no (by omega) (EvP.ret (by rw [List.drop_of_length_le (by omega), if_pos (.inr trivial)]; rfl))
  | succ d ih =>
    intro i c hi hc0 hc1 _
    have hlt : i < l.length := by omega
    have hsz := hs l[i] (List.getElem_mem hlt)
    have e1 : Hd (wrap64 (c + 1) = c + 1) := ⟨w64 (by omega) (by omega)⟩
    have e2 : Hd (wrap64 ((i : Int) + 1) = ((i + 1 : Nat) : Int)) := ⟨w64 (by omega) (by omega)⟩
    rw [List.drop_eq_getElem_cons hlt, goB]
    have bad : ∀ v, v = ((0, false) : Int × Bool) → EvP (fun k => impl_lostOf.j2 k l c l[i] l (l.length : Int) (i : Int) true) (· = v) := by
      intro v hv
      refine EvP.succ ?_
      simp only [impl_lostOf.j2]
      exact EvP.yes trivial (EvP.ret hv.symm)
    refine EvP.succ ?_
    simp only [impl_lostOf.l0]
    refine EvP.yes (by omega) (EvP.yes (by omega) (EvP.yes (by omega) (EvP.yes (by omega) ?_)))
    rw [rd_at hlt, rd0]
    refine EvP.ite (fun hz => ?_) (fun hz => bad _ ?_)
    · have hz : l[i].size = (l.getD 0 ByteArray.empty).size := by omega
      refine EvP.ite (fun he => bad _ ?_) (fun he => ?_)
      · have : l[i].size = 0 := by
          rw [ByteArray.toList_eq] at he
          rw [← list_len, he]; rfl
        rw [if_neg (by omega)]
      · have hpos : l[i].size ≠ 0 := by
          intro h
          apply he
          rw [ByteArray.toList_eq]
          exact List.eq_nil_of_length_eq_zero (by rw [list_len]; exact h)
        by_cases h8 : (l[i].size : Int) > 8
        · rw [decide_eq_true h8]
          exact bad _ (by rw [if_neg (by omega)])
        · rw [decide_eq_false h8]
          rw [if_pos (.inl (by omega))]
          refine EvP.succ ?_
          simp only [impl_lostOf.j2]
          refine EvP.no (by decide) ?_
          rw [impl_lost _ hsz hpos, e1.out, e2.out]
          refine EvP.bind (P := (· = lostB l[i])) (EvP.ret rfl) (fun _ e => ?_)
          subst e
          refine EvP.ite (fun h => ?_) (fun h => ?_)
          · rw [if_pos ⟨hz, .inr h⟩, if_pos h]
            have := ih (i + 1) (c + 1) (by omega) (by omega) (by omega) (by omega)
            rw [if_pos (.inl (by omega))] at this
            exact this
          · obtain ⟨r, hr, hn⟩ := trim_read _ hsz
            rw [hr]
            refine EvP.bind (P := (· = r)) (EvP.ret rfl) (fun _ e => ?_)
            subst e
            refine EvP.ite (fun h' => ?_) (fun h' => EvP.ret ?_)
            · rw [if_pos ⟨hz, .inl (hn.mp h')⟩, if_neg h]
              have := ih (i + 1) c (by omega) hc0 (by omega) (by omega)
              rw [if_pos (.inl (by omega))] at this
              exact this
            · rw [if_neg (fun hh => hh.2.elim (fun a => h' (hn.mpr a)) (fun a => h a))]
    · rw [if_neg (fun h : l[i].size = _ ∧ _ => hz (by rw [h.1]))]
      split <;> rfl
end
theorem spec_books (l : List ByteArray) (hs : ∀ t ∈ l, t.size ≤ 9223372036854775806) : EvP (fun k => spec_l7Books.f k l) (· = booksOf l) := by
  unfold spec_l7Books.f spec_l6In.f
  have bad : ∀ v, v = ((0, false) : Int × Bool) → EvP (fun k => spec_l7Books.j0 k l 0 true) (· = v) := by
    intro v hv
    refine EvP.succ ?_
    simp only [spec_l7Books.j0]
    exact EvP.yes trivial (EvP.ret hv.symm)
  refine EvP.bind (P := (· = (decide (1 ≤ l.length ∧ l.length ≤ 6)))) ?_ (fun _ e => ?_)
  · refine EvP.ite (fun h => EvP.ret ?_) (fun h => EvP.ret ?_)
    · exact decide_eq_decide.mpr (by omega)
    · rw [decide_eq_false (by omega)]
  subst e
  refine EvP.ite (fun h => ?_) (fun h => bad _ ?_)
  · have hl := of_decide_eq_true h
    refine EvP.yes (by omega) ?_
    rw [rd0 l]
    refine EvP.bind (P := (· = (decide (1 ≤ (l.getD 0 ByteArray.empty).size ∧ (l.getD 0 ByteArray.empty).size ≤ 8)))) ?_ (fun _ e => ?_)
    · refine EvP.ite (fun h => EvP.ret ?_) (fun h => EvP.ret ?_)
      · exact decide_eq_decide.mpr (by omega)
      · rw [decide_eq_false (by omega)]
    subst e
    by_cases h8 : 1 ≤ (l.getD 0 ByteArray.empty).size ∧ (l.getD 0 ByteArray.empty).size ≤ 8
    · rw [decide_eq_true h8]
      refine EvP.succ ?_
      simp only [spec_l7Books.j0]
      refine EvP.no (by decide) ?_
      unfold booksOf
      rw [if_pos ⟨hl.1, hl.2, h8.1, h8.2⟩]
      exact spec_books_loop l hl hs h8 l.length 0 0 (by omega) (by omega) (by omega)
    · rw [decide_eq_false h8]
      refine bad _ ?_
      unfold booksOf
      rw [if_neg (fun hh => h8 ⟨hh.2.2.1, hh.2.2.2⟩)]
  · unfold booksOf
    rw [if_neg (fun hh => h (decide_eq_true ⟨hh.1, hh.2.1⟩))]
theorem impl_books (l : List ByteArray) (hs : ∀ t ∈ l, t.size ≤ 9223372036854775806) : EvP (fun k => impl_lostOf.f k l) (· = booksOf l) := by
  unfold impl_lostOf.f
  have bad : ∀ v, v = ((0, false) : Int × Bool) → EvP (fun k => impl_lostOf.j0 k l true) (· = v) := by
    intro v hv
    refine EvP.succ ?_
    simp only [impl_lostOf.j0]
    exact EvP.yes trivial (EvP.ret hv.symm)
  refine EvP.ite (fun h => bad _ ?_) (fun h => ?_)
  · unfold booksOf; rw [if_neg (fun hh => by omega)]
  by_cases h6 : (l.length : Int) > 6
  · rw [decide_eq_true h6]
    exact bad _ (by unfold booksOf; rw [if_neg (fun hh => by omega)])
  rw [decide_eq_false h6]
  have hl : 1 ≤ l.length ∧ l.length ≤ 6 := by omega
  refine EvP.succ ?_
  simp only [impl_lostOf.j0]
  refine EvP.no (by decide) ?_
  have := impl_books_loop l hl hs l.length 0 0 (by omega) (by omega) (by omega) (by omega)
  refine this.mono (fun r e => ?_)
  rw [e]
  unfold booksOf
  by_cases h8 : 1 ≤ (l.getD 0 ByteArray.empty).size ∧ (l.getD 0 ByteArray.empty).size ≤ 8
  · rw [if_pos (.inl h8), if_pos ⟨hl.1, hl.2, h8.1, h8.2⟩]; rfl
  · rw [if_neg (fun hh => hh.elim h8 (by omega)), if_neg (fun hh => h8 ⟨hh.2.2.1, hh.2.2.2⟩)]
def okBooks (l : List ByteArray) : Bool := (booksOf l).2 && ((booksOf l).1 == 0)
end Go.Proofs.YtejoneninbdjbaaDoor.Pur
end
section
namespace Go.Proofs.YtejoneninbdjbaaDoor.Pur
open Go.RowKit Go.Proofs.YtejoneninbdjbaaDoorW.PrintWords Go.Proofs.YtejoneninbdjbaaDoorW.PrintMore Go.Proofs.YtejoneninbdjbaaDoor.E
theorem rdS_at {l : List ByteArray} {i : Nat} (h : i < l.length) : rdOf ByteArray.empty l (i : Int) = l[i] := by
  unfold rdOf
  rw [toNat_nat, List.getD_eq_getElem?_getD, List.getElem?_eq_getElem h]
  rfl
theorem sz_strs_loop (l : List ByteArray) (hl : l.length ≤ 1048576) (hs : ∀ t ∈ l, t.size ≤ 9223372036854775807) : ∀ (d i : Nat) (n : Int), i + d = l.length → 0 ≤ n → n ≤ 1048576 → (∀ j (h : j < l.length), j < i → l[j].size ≤ 1048576) →
    EvP (fun k => laws_szStringS.l0 k l n (i : Int)) (fun r => r < 0 ∨ 0 ≤ r ∧ r ≤ n ∧ ∀ t ∈ l, t.size ≤ 1048576) := by
  intro d
  induction d with
  | zero =>
    intro i n hi h0 h1 hj
    refine EvP.succ ?_
    simp only [laws_szStringS.l0]
    refine EvP.no (by omega) (EvP.ret (.inr ⟨h0, Int.le_refl _, fun t ht => ?_⟩))
    obtain ⟨j, hjl, rfl⟩ := List.getElem_of_mem ht
    exact hj j hjl (by omega)
  | succ d ih =>
    intro i n hi h0 h1 hj
    have hlt : i < l.length := by omega
    have hsz := hs l[i] (List.getElem_mem hlt)
    have e1 : Hd (wrap64 (n - (l[i].size : Int)) = n - (l[i].size : Int)) := ⟨w64 (by omega) (by omega)⟩
    have e2 : Hd (wrap64 ((i : Int) + 1) = ((i + 1 : Nat) : Int)) := ⟨w64 (by omega) (by omega)⟩
    refine EvP.succ ?_
    simp only [laws_szStringS.l0]
    refine EvP.yes (by omega) (EvP.yes (by omega) ?_)
    rw [rdS_at hlt, e1.out, e2.out]
    refine EvP.ite (fun _ => EvP.ret (.inl (by omega))) (fun h => ?_)
    refine (ih (i + 1) _ (by omega) (by omega) (by omega) (fun j h' hji => ?_)).mono (fun r h' => h'.imp id (fun h' => ⟨h'.1, by omega, h'.2.2⟩))
    by_cases e : j = i
    · subst e; omega
    · exact hj j h' (by omega)
theorem sz_strs (l : List ByteArray) (hl : (l.length : Int) ≤ 9223372036854775807) (hs : ∀ t ∈ l, t.size ≤ 9223372036854775807) (n : Int) (h0 : 0 ≤ n) (h1 : n ≤ 1048576) :
    EvP (fun k => laws_szStringS.f k l n) (fun r => r < 0 ∨ 0 ≤ r ∧ r ≤ n ∧ l.length ≤ 1048576 ∧ ∀ t ∈ l, t.size ≤ 1048576) := by
  unfold laws_szStringS.f
  rw [w64 (by omega) (by omega)]
  refine EvP.ite (fun _ => EvP.ret (.inl (by omega))) (fun h => ?_)
  refine (sz_strs_loop l (by omega) hs l.length 0 _ (by omega) (by omega) (by omega) (fun j _ hj => by omega)).mono (fun r h' => h'.imp id (fun h' => ⟨h'.1, by omega, by omega, h'.2.2⟩))
theorem to_strs_loop (l : List ByteArray) (hl : l.length ≤ 1048576) : ∀ (d i : Nat) (xs : List ByteArray), i + d = l.length → xs.length = l.length → xs.take i = l.take i → EvP (fun k => laws_toStringS.l0 k l xs (i : Int)) (· = l) := by
  intro d
  induction d with
  | zero =>
    intro i xs hi hx ht
    refine EvP.succ ?_
    simp only [laws_toStringS.l0]
    refine EvP.no (by omega) (EvP.ret ?_)
    rw [List.take_of_length_le (by omega), List.take_of_length_le (by omega)] at ht
    exact ht
  | succ d ih =>
    intro i xs hi hx ht
    have hlt : i < l.length := by omega
    have e2 : Hd (wrap64 ((i : Int) + 1) = ((i + 1 : Nat) : Int)) := ⟨w64 (by omega) (by omega)⟩
    refine EvP.succ ?_
    simp only [laws_toStringS.l0]
    refine EvP.yes (by omega) (EvP.yes (by omega) (EvP.yes (by omega) ?_))
    rw [rdS_at hlt, e2.out, toNat_nat]
    refine ih (i + 1) _ (by omega) (by simpa using hx) ?_
    rw [List.take_succ_eq_append_getElem (by simp; omega), List.take_succ_eq_append_getElem hlt, List.take_set_of_le (Nat.le_refl _), ht]
    simp
theorem to_strs (l : List ByteArray) (hl : l.length ≤ 1048576) : EvP (fun k => laws_toStringS.f k l) (· = l) := by
  unfold laws_toStringS.f
  refine EvP.yes (by omega) (EvP.yes (by rw [toNat_nat]; omega) ?_)
  exact to_strs_loop l hl l.length 0 _ (by omega) (by rw [List.length_replicate, toNat_nat]) rfl
theorem eq_strs_loop (l : List ByteArray) (hl : l.length ≤ 1048576) : ∀ d i : Nat, i + d = l.length → EvP (fun k => laws_eqStringS.l0 k l l (i : Int)) (· = true) := by
  intro d
  induction d with
  | zero =>
    intro i hi
    refine EvP.succ ?_
    simp only [laws_eqStringS.l0]
    exact EvP.no (by omega) (EvP.ret rfl)
  | succ d ih =>
    intro i hi
    have e2 : Hd (wrap64 ((i : Int) + 1) = ((i + 1 : Nat) : Int)) := ⟨w64 (by omega) (by omega)⟩
    refine EvP.succ ?_
    simp only [laws_eqStringS.l0]
    refine EvP.yes (by omega) (EvP.yes (by omega) (EvP.yes (by omega) (EvP.yes trivial ?_)))
    rw [e2.out]
    exact ih (i + 1) (by omega)
theorem eq_strs (l : List ByteArray) (hl : l.length ≤ 1048576) : EvP (fun k => laws_eqStringS.f k l l) (· = true) := by
  unfold laws_eqStringS.f
  exact EvP.yes rfl (eq_strs_loop l hl l.length 0 (by omega))
end Go.Proofs.YtejoneninbdjbaaDoor.Pur
end
section
namespace Go.Proofs.YtejoneninbdjbaaDoor.E
open Go.RowKit Go.Proofs.YtejoneninbdjbaaDoorW.PrintWords Go.Proofs.YtejoneninbdjbaaDoorW.PrintLast Go.Proofs.YtejoneninbdjbaaDoorW.PrintMore
attribute [local go_sem] max2_int min2_int max_two min_two max_three min_three max_four min_four
set_option linter.unusedVariables false
set_option linter.unusedSimpArgs false
attribute [local go_sem] str_leq_ str_gtr_ str_geq_
def spec_l7Far.l0 : Nat → ByteArray → ByteArray → Int → Int → Option (Int)
 | 0, _, _, _, _ => none
 | k + 1, x0, x1, x5, x6 => if x6 < (x0.size : Int) then (if 0 ≤ x6 then (if x6 < (x1.size : Int) then (if (bt x0 x6) = (bt x1 x6) then (spec_l7Far.l0 k x0 x1 x5 (wrap64 (x6 + 1))) else (spec_l7Far.l0 k x0 x1 (wrap64 (x5 + 1)) (wrap64 (x6 + 1)))) else (none)) else (none)) else (some x5)
def spec_l7Far.f (k : Nat) (a0 : ByteArray) (a1 : ByteArray) : Option (Int) := spec_l7Far.l0 k a0 a1 0 0
end Go.Proofs.YtejoneninbdjbaaDoor.E
end
section
namespace Go.Proofs.YtejoneninbdjbaaDoor.E
open Go.RowKit Go.Proofs.YtejoneninbdjbaaDoorW.PrintWords Go.Proofs.YtejoneninbdjbaaDoorW.PrintLast Go.Proofs.YtejoneninbdjbaaDoorW.PrintMore
attribute [local go_sem] max2_int min2_int max_two min_two max_three min_three max_four min_four
set_option linter.unusedVariables false
set_option linter.unusedSimpArgs false
attribute [local go_sem] str_leq_ str_gtr_ str_geq_
def spec_BooksFar.f (k : Nat) (l0 : List ByteArray) (a1 : Int) (a2 : Int) : Option (Int) := (spec_BooksValid.f k l0).bind fun t142 => (if t142 = true then ((spec_l6In.f a1 0 (wrap64 ((l0.length : Int) - 1))).bind fun t143 => (if t143 = true then ((spec_l6In.f a2 0 (wrap64 ((l0.length : Int) - 1))).bind fun t144 => (if t144 = true then (if 0 ≤ a1 then (if a1 < (l0.length : Int) then (if 0 ≤ a2 then (if a2 < (l0.length : Int) then ((spec_l7Far.f k (rdOf ByteArray.empty l0 a1) (rdOf ByteArray.empty l0 a2)).bind fun t147 => (some t147)) else (none)) else (none)) else (none)) else (none)) else (some (-1)))) else (some (-1)))) else (some (-1)))
end Go.Proofs.YtejoneninbdjbaaDoor.E
end
section
namespace Go.Proofs.YtejoneninbdjbaaDoor.E
open Go.RowKit Go.Proofs.YtejoneninbdjbaaDoorW.PrintWords Go.Proofs.YtejoneninbdjbaaDoorW.PrintLast Go.Proofs.YtejoneninbdjbaaDoorW.PrintMore
attribute [local go_sem] max2_int min2_int max_two min_two max_three min_three max_four min_four
set_option linter.unusedVariables false
set_option linter.unusedSimpArgs false
attribute [local go_sem] str_leq_ str_gtr_ str_geq_
def impl_farBetween.l0 : Nat → ByteArray → ByteArray → Int → Int → Int → Option (Int)
 | 0, _, _, _, _, _ => none
 | k + 1, x0, x1, x5, x8, x9 => if x9 < x8 then (if 0 ≤ x9 then (if x9 < (x0.size : Int) then (if x9 < (x1.size : Int) then (if (bt x0 x9) = (bt x1 x9) then (impl_farBetween.l0 k x0 x1 x5 x8 (wrap64 (x9 + 1))) else (impl_farBetween.l0 k x0 x1 (wrap64 (x5 + 1)) x8 (wrap64 (x9 + 1)))) else (none)) else (none)) else (none)) else (some x5)
def impl_farBetween.f (k : Nat) (a0 : ByteArray) (a1 : ByteArray) : Option (Int) := impl_farBetween.l0 k a0 a1 0 (a0.size : Int) 0
end Go.Proofs.YtejoneninbdjbaaDoor.E
end
section
namespace Go.Proofs.YtejoneninbdjbaaDoor.E
open Go.RowKit Go.Proofs.YtejoneninbdjbaaDoorW.PrintWords Go.Proofs.YtejoneninbdjbaaDoorW.PrintLast Go.Proofs.YtejoneninbdjbaaDoorW.PrintMore
attribute [local go_sem] max2_int min2_int max_two min_two max_three min_three max_four min_four
set_option linter.unusedVariables false
set_option linter.unusedSimpArgs false
attribute [local go_sem] str_leq_ str_gtr_ str_geq_
def impl_BooksFar.f (k : Nat) (l0 : List ByteArray) (a1 : Int) (a2 : Int) : Option (Int) := (impl_BooksValid.f k l0).bind fun t148 => (if t148 = true then (if (mn a1 a2) < 0 then (some (-1)) else (if (mx a1 a2) ≥ (l0.length : Int) then (some (-1)) else (if 0 ≤ a1 then (if a1 < (l0.length : Int) then (if 0 ≤ a2 then (if a2 < (l0.length : Int) then ((impl_farBetween.f k (rdOf ByteArray.empty l0 a1) (rdOf ByteArray.empty l0 a2)).bind fun t151 => (some t151)) else (none)) else (none)) else (none)) else (none)))) else (some (-1)))
end Go.Proofs.YtejoneninbdjbaaDoor.E
end
section
namespace Go.Proofs.YtejoneninbdjbaaDoor.E
open Go.RowKit Go.Proofs.YtejoneninbdjbaaDoorW.PrintWords Go.Proofs.YtejoneninbdjbaaDoorW.PrintLast Go.Proofs.YtejoneninbdjbaaDoorW.PrintMore
attribute [local go_sem] max2_int min2_int max_two min_two max_three min_three max_four min_four
set_option linter.unusedVariables false
set_option linter.unusedSimpArgs false
attribute [local go_sem] str_leq_ str_gtr_ str_geq_
def laws_FnExactBooksFar.f (k : Nat) (l0 : List ByteArray) (a1 : Int) (a2 : Int) : Option (Bool) := (laws_szStringS.f k l0 1048576).bind fun t152 => (if t152 < 0 then (some true) else ((laws_toStringS.f k l0).bind fun t153 => ((spec_BooksFar.f k t153 a1 a2).bind fun t156 => ((laws_toStringS.f k l0).bind fun t157 => ((impl_BooksFar.f k t157 a1 a2).bind fun t160 => (if t160 = t156 then ((laws_toStringS.f k l0).bind fun t161 => ((laws_eqStringS.f k t157 t161).bind fun t164 => (if t164 = true then (some true) else (some false)))) else (some false)))))))
end Go.Proofs.YtejoneninbdjbaaDoor.E
end
section
namespace Go.Proofs.YtejoneninbdjbaaDoor.Pur
open Go.RowKit Go.Proofs.YtejoneninbdjbaaDoorW.PrintWords Go.Proofs.YtejoneninbdjbaaDoorW.PrintMore Go.Proofs.YtejoneninbdjbaaDoor.E
def diffs : List UInt8 → List UInt8 → Nat
  | a :: x, b :: y => (if a = b then 0 else 1) + diffs x y
  | _, _ => 0
def farT (s t : ByteArray) : Int := (diffs s.data.toList t.data.toList : Nat)
theorem goB_ok (n : Nat) : ∀ (l : List ByteArray) (c : Int), (goB n l c).2 = true → ∀ t ∈ l, t.size = n ∧ (readB t = true ∨ lostB t = true)
  | [], _, _, _, h => by cases h
  | t :: ts, c, h, x, hx => by
    rw [goB] at h
    by_cases g : t.size = n ∧ (readB t = true ∨ lostB t = true)
    · rw [if_pos g] at h
      rcases List.mem_cons.mp hx with rfl | hx
      · exact g
      · exact goB_ok n ts _ h x hx
    · rw [if_neg g] at h
      exact absurd h (by decide)
theorem books_ok {l : List ByteArray} (h : (booksOf l).2 = true) : 1 ≤ l.length ∧ l.length ≤ 6 ∧ ∃ n : Nat, 1 ≤ n ∧ n ≤ 8 ∧ ∀ t ∈ l, t.size = n ∧ (readB t = true ∨ lostB t = true) := by
  unfold booksOf at h
  by_cases g : 1 ≤ l.length ∧ l.length ≤ 6 ∧ 1 ≤ (l.getD 0 ByteArray.empty).size ∧ (l.getD 0 ByteArray.empty).size ≤ 8
  · rw [if_pos g] at h
    exact ⟨g.1, g.2.1, _, g.2.2.1, g.2.2.2, goB_ok _ l 0 h⟩
  · rw [if_neg g] at h
    exact absurd h (by decide)
def farOf (l : List ByteArray) (i k : Int) : Int := if okBooks l = true ∧ 0 ≤ i ∧ i < l.length ∧ 0 ≤ k ∧ k < l.length then farT (rdOf ByteArray.empty l i) (rdOf ByteArray.empty l k) else -1
end Go.Proofs.YtejoneninbdjbaaDoor.Pur
end
section
namespace Go.Proofs.YtejoneninbdjbaaDoor.Pur
open Go.RowKit Go.Proofs.YtejoneninbdjbaaDoorW.PrintWords Go.Proofs.YtejoneninbdjbaaDoorW.PrintMore Go.Proofs.YtejoneninbdjbaaDoor.E
theorem rdI_at {l : List Int} {i : Nat} (h : i < l.length) : rd l (i : Int) = l[i] := by
  unfold rd
  rw [toNat_nat, List.getD_eq_getElem?_getD, List.getElem?_eq_getElem h]
  rfl
theorem to_ints_loop (l : List Int) (hl : l.length ≤ 1048576) : ∀ (d i : Nat) (xs : List Int), i + d = l.length → xs.length = l.length → xs.take i = l.take i → EvP (fun k => laws_toIntS.l0 k l xs (i : Int)) (· = l) := by
  intro d
  induction d with
  | zero =>
    intro i xs hi hx ht
    refine EvP.succ ?_
    simp only [laws_toIntS.l0]
    refine EvP.no (by omega) (EvP.ret ?_)
    rw [List.take_of_length_le (by omega), List.take_of_length_le (by omega)] at ht
    exact ht
  | succ d ih =>
    intro i xs hi hx ht
    have hlt : i < l.length := by omega
    have e2 : Hd (wrap64 ((i : Int) + 1) = ((i + 1 : Nat) : Int)) := ⟨w64 (by omega) (by omega)⟩
    refine EvP.succ ?_
    simp only [laws_toIntS.l0]
    refine EvP.yes (by omega) (EvP.yes (by omega) (EvP.yes (by omega) ?_))
    rw [rdI_at hlt, e2.out, toNat_nat]
    refine ih (i + 1) _ (by omega) (by simpa using hx) ?_
    rw [List.take_succ_eq_append_getElem (by simp; omega), List.take_succ_eq_append_getElem hlt, List.take_set_of_le (Nat.le_refl _), ht]
    simp
theorem to_ints (l : List Int) (hl : l.length ≤ 1048576) : EvP (fun k => laws_toIntS.f k l) (· = l) := by
  unfold laws_toIntS.f
  refine EvP.yes (by omega) (EvP.yes (by rw [toNat_nat]; omega) ?_)
  exact to_ints_loop l hl l.length 0 _ (by omega) (by rw [List.length_replicate, toNat_nat]) rfl
theorem eq_ints_loop (l : List Int) (hl : l.length ≤ 1048576) : ∀ d i : Nat, i + d = l.length → EvP (fun k => laws_eqIntS.l0 k l l (i : Int)) (· = true) := by
  intro d
  induction d with
  | zero =>
    intro i hi
    refine EvP.succ ?_
    simp only [laws_eqIntS.l0]
    exact EvP.no (by omega) (EvP.ret rfl)
  | succ d ih =>
    intro i hi
    have e2 : Hd (wrap64 ((i : Int) + 1) = ((i + 1 : Nat) : Int)) := ⟨w64 (by omega) (by omega)⟩
    refine EvP.succ ?_
    simp only [laws_eqIntS.l0]
    refine EvP.yes (by omega) (EvP.yes (by omega) (EvP.yes (by omega) (EvP.yes trivial ?_)))
    rw [e2.out]
    exact ih (i + 1) (by omega)
theorem eq_ints (l : List Int) (hl : l.length ≤ 1048576) : EvP (fun k => laws_eqIntS.f k l l) (· = true) := by
  unfold laws_eqIntS.f
  exact EvP.yes rfl (eq_ints_loop l hl l.length 0 (by omega))
theorem mark_ints_loop (m : Nat) (hm : m ≤ 1048576) (n : Int) (hn : 0 ≤ n ∧ n ≤ 2000000) : ∀ (d i : Nat) (x : List Int), i + d = m → x.length = m → (∀ j, j < i → x[j]? = some (n + j)) →
    EvP (fun k => laws_markIntS.l0 k x (n + i) (i : Int)) (fun r => r.1 = n + m ∧ r.2.length = m ∧ ∀ j, j < m → r.2[j]? = some (n + j)) := by
  intro d
  induction d with
  | zero =>
    intro i x hi hx ht
    refine EvP.succ ?_
    simp only [laws_markIntS.l0]
    refine EvP.no (by omega) (EvP.ret ⟨by dsimp only; omega, hx, fun j hj => ht j (by omega)⟩)
  | succ d ih =>
    intro i x hi hx ht
    have e1 : Hd (wrap64 (n + i + 1) = n + ((i + 1 : Nat) : Int)) := ⟨by rw [w64 (by omega) (by omega)]; omega⟩
    have e2 : Hd (wrap64 ((i : Int) + 1) = ((i + 1 : Nat) : Int)) := ⟨w64 (by omega) (by omega)⟩
    refine EvP.succ ?_
    simp only [laws_markIntS.l0]
    refine EvP.yes (by omega) (EvP.yes (by omega) ?_)
    rw [e1.out, e2.out, toNat_nat]
    refine ih (i + 1) _ (by omega) (by simpa using hx) (fun j hj => ?_)
    rw [List.getElem?_set]
    by_cases h : i = j
    · subst h; rw [if_pos rfl, if_pos (by omega)]
    · rw [if_neg h]; exact ht j (by omega)
theorem mark_ints (l : List Int) (hl : l.length ≤ 1048576) : EvP (fun k => laws_markIntS.f k l 1) (fun r => r.1 = 1 + l.length ∧ r.2.length = l.length ∧ ∀ j, j < l.length → r.2[j]? = some (1 + (j : Int))) := by
  unfold laws_markIntS.f
  exact mark_ints_loop l.length hl 1 (by omega) l.length 0 l (by omega) rfl (fun j hj => by omega)
theorem held_ints_loop (x : List Int) (m : Nat) (hm : m ≤ 1048576) (hx : x.length = m) (ht : ∀ j, j < m → x[j]? = some (1 + (j : Int))) : ∀ (d i : Nat), i + d = m → EvP (fun k => laws_heldIntS.l0 k x (1 + i) (i : Int)) (· = 1 + (m : Int)) := by
  intro d
  induction d with
  | zero =>
    intro i hi
    refine EvP.succ ?_
    simp only [laws_heldIntS.l0]
    exact EvP.no (by omega) (EvP.ret (by omega))
  | succ d ih =>
    intro i hi
    have hlt : i < x.length := by omega
    have e1 : Hd (wrap64 (1 + (i : Int) + 1) = 1 + ((i + 1 : Nat) : Int)) := ⟨by rw [w64 (by omega) (by omega)]; omega⟩
    have e2 : Hd (wrap64 ((i : Int) + 1) = ((i + 1 : Nat) : Int)) := ⟨w64 (by omega) (by omega)⟩
    have := ht i (by omega)
    rw [List.getElem?_eq_getElem hlt] at this
    refine EvP.succ ?_
    simp only [laws_heldIntS.l0]
    refine EvP.yes (by omega) (EvP.yes (by omega) (EvP.yes (by rw [rdI_at hlt]; exact Option.some.inj this) ?_))
    rw [e1.out, e2.out]
    exact ih (i + 1) (by omega)
theorem held_ints (x : List Int) (m : Nat) (hm : m ≤ 1048576) (hx : x.length = m) (ht : ∀ j, j < m → x[j]? = some (1 + (j : Int))) : EvP (fun k => laws_heldIntS.f k x 1) (· = 1 + (m : Int)) := by
  unfold laws_heldIntS.f
  exact held_ints_loop x m hm hx ht m 0 (by omega)
end Go.Proofs.YtejoneninbdjbaaDoor.Pur
end
section
namespace Go.Proofs.YtejoneninbdjbaaDoor.Pur
open Go.RowKit Go.Proofs.YtejoneninbdjbaaDoorW.PrintWords Go.Proofs.YtejoneninbdjbaaDoorW.PrintMore Go.Proofs.YtejoneninbdjbaaDoor.E
def VS (l : List ByteArray) (st : List Int) : Prop := (booksOf l).2 = true ∧ (booksOf l).1 ≠ l.length ∧ st.length = l.length ∧ rd st 0 = -1 ∧ ∀ j : Nat, 1 ≤ j → j < st.length → 0 ≤ rd st (j : Int) ∧ rd st (j : Int) < j
theorem spec_stem_loop (st : List Int) (hl : st.length ≤ 1048576) : ∀ (d i : Nat), 1 ≤ i → i + d = st.length → EvP (fun k => spec_StemValid.l0 k st (i : Int)) (fun r => r = true ↔ ∀ j : Nat, i ≤ j → j < st.length → 0 ≤ rd st (j : Int) ∧ rd st (j : Int) < j) := by
  intro d
  induction d with
  | zero =>
    intro i h1 hi
    refine EvP.succ ?_
    simp only [spec_StemValid.l0]
    exact EvP.no (by omega) (EvP.ret ⟨fun _ j h h' => by omega, fun _ => rfl⟩)
  | succ d ih =>
    intro i h1 hi
    have e1 : Hd (wrap64 ((i : Int) - 1) = (i : Int) - 1) := ⟨w64 (by omega) (by omega)⟩
    have e2 : Hd (wrap64 ((i : Int) + 1) = ((i + 1 : Nat) : Int)) := ⟨w64 (by omega) (by omega)⟩
    refine EvP.succ ?_
    simp only [spec_StemValid.l0]
    refine EvP.yes (by omega) (EvP.yes (by omega) ?_)
    rw [e1.out, e2.out]
    refine EvP.bind (P := (· = decide (0 ≤ rd st (i : Int) ∧ rd st (i : Int) < i))) ?_ (fun _ e => ?_)
    · unfold spec_l6In.f
      by_cases h : rd st (i : Int) ≥ 0
      · rw [if_pos h]; exact EvP.ret (decide_eq_decide.mpr (by omega))
      · rw [if_neg h]; exact EvP.ret (decide_eq_false (by omega)).symm
    subst e
    refine EvP.ite (fun h => ?_) (fun h => EvP.ret ⟨fun h' => Bool.noConfusion h', fun h' => absurd (decide_eq_true (h' i (Nat.le_refl _) (by omega))) h⟩)
    have h := of_decide_eq_true h
    refine (ih (i + 1) (by omega) (by omega)).mono (fun r hr => hr.trans ⟨fun g j hj hj' => ?_, fun g j hj hj' => g j (by omega) hj'⟩)
    by_cases e : j = i
    · subst e; exact h
    · exact g j (by omega) hj'
theorem impl_stem_loop (st : List Int) (hl : st.length ≤ 1048576) : ∀ (d i : Nat), i + d = (st.drop 1).length → EvP (fun k => impl_StemValid.l0 k (st.drop 1) ((st.drop 1).length : Int) (i : Int)) (fun r => r = true ↔ ∀ j : Nat, i + 1 ≤ j → j < st.length → 0 ≤ rd st (j : Int) ∧ rd st (j : Int) < j) := by
  have ld : (st.drop 1).length = st.length - 1 := List.length_drop
  intro d
  induction d with
  | zero =>
    intro i hi
    refine EvP.succ ?_
    simp only [impl_StemValid.l0]
    exact EvP.no (by omega) (EvP.ret ⟨fun _ j h h' => by omega, fun _ => rfl⟩)
  | succ d ih =>
    intro i hi
    have e2 : Hd (wrap64 ((i : Int) + 1) = ((i + 1 : Nat) : Int)) := ⟨w64 (by omega) (by omega)⟩
    have er : rd (st.drop 1) (i : Int) = rd st ((i + 1 : Nat) : Int) := by
      unfold rd
      rw [toNat_nat, toNat_nat, List.getD_eq_getElem?_getD, List.getD_eq_getElem?_getD, List.getElem?_drop, Nat.add_comm]
    refine EvP.succ ?_
    simp only [impl_StemValid.l0]
    refine EvP.yes (by omega) (EvP.yes (by omega) (EvP.yes (by omega) ?_))
    rw [er, e2.out]
    refine EvP.ite (fun h => EvP.ret ⟨fun h' => Bool.noConfusion h', fun h' => by have := h' (i + 1) (Nat.le_refl _) (by omega); omega⟩) (fun h => ?_)
    refine EvP.ite (fun h' => EvP.ret ⟨fun h' => Bool.noConfusion h', fun h' => by have := h' (i + 1) (Nat.le_refl _) (by omega); omega⟩) (fun h' => ?_)
    refine (ih (i + 1) (by omega)).mono (fun r hr => hr.trans ⟨fun g j hj hj' => ?_, fun g j hj hj' => g j (by omega) hj'⟩)
    by_cases e : j = i + 1
    · subst e; omega
    · exact g j (by omega) hj'
theorem bne_iff {a b : Int} : (a != b) = true ↔ a ≠ b := by simp
theorem spec_stem (l : List ByteArray) (st : List Int) (hs : ∀ t ∈ l, t.size ≤ 9223372036854775806) (hl : st.length ≤ 1048576) : EvP (fun k => spec_StemValid.f k l st) (fun r => r = true ↔ VS l st) := by
  unfold spec_StemValid.f
  have bad : ¬ VS l st → EvP (fun k => spec_StemValid.j0 k st true) (fun r => r = true ↔ VS l st) := by
    intro h
    refine EvP.succ ?_
    simp only [spec_StemValid.j0]
    exact EvP.yes trivial (EvP.ret ⟨fun h' => Bool.noConfusion h', fun h' => absurd h' h⟩)
  refine EvP.bind (spec_books l hs) (fun _ e => ?_)
  subst e
  refine EvP.ite (fun h1 => EvP.ite (fun h2 => bad (fun h => h.2.1 h2)) (fun h2 => EvP.ite (fun h3 => ?_) (fun h3 => bad (fun h => h3 (by rw [h.2.2.1]))))) (fun h1 => bad (fun h => h1 h.1))
  have hb := books_ok h1
  refine EvP.yes (by omega) ?_
  by_cases h4 : rd st 0 = -1
  · rw [show (rd st 0 != -1) = false by rw [h4]; rfl]
    refine EvP.succ ?_
    simp only [spec_StemValid.j0]
    refine EvP.no (by decide) ?_
    refine (spec_stem_loop st hl (st.length - 1) 1 (by omega) (by omega)).mono (fun r hr => hr.trans ⟨fun g => ⟨h1, h2, by omega, h4, g⟩, fun g => g.2.2.2.2⟩)
  · rw [show (rd st 0 != -1) = true from bne_iff.mpr h4]
    exact bad (fun h => h4 h.2.2.2.1)
theorem impl_stem (l : List ByteArray) (st : List Int) (hs : ∀ t ∈ l, t.size ≤ 9223372036854775806) (hl : st.length ≤ 1048576) : EvP (fun k => impl_StemValid.f k l st) (fun r => r = true ↔ VS l st) := by
  unfold impl_StemValid.f
  have bad : ¬ VS l st → EvP (fun k => impl_StemValid.j0 k st true) (fun r => r = true ↔ VS l st) := by
    intro h
    refine EvP.succ ?_
    simp only [impl_StemValid.j0]
    exact EvP.yes trivial (EvP.ret ⟨fun h' => Bool.noConfusion h', fun h' => absurd h' h⟩)
  refine EvP.bind (impl_books l hs) (fun _ e => ?_)
  subst e
  refine EvP.ite (fun h1 => EvP.ite (fun h2 => bad (fun h => h.2.1 h2)) (fun h2 => EvP.ite (fun h3 => ?_) (fun h3 => bad (fun h => h3 (by rw [h.2.2.1]))))) (fun h1 => bad (fun h => h1 h.1))
  have hb := books_ok h1
  refine EvP.yes (by omega) ?_
  by_cases h4 : rd st 0 = -1
  · rw [show (rd st 0 != -1) = false by rw [h4]; rfl]
    refine EvP.succ ?_
    simp only [impl_StemValid.j0]
    refine EvP.no (by decide) (EvP.yes (by omega) ?_)
    refine (impl_stem_loop st hl (st.drop 1).length 0 (by omega)).mono (fun r hr => hr.trans ⟨fun g => ⟨h1, h2, by omega, h4, g⟩, fun g => g.2.2.2.2⟩)
  · rw [show (rd st 0 != -1) = true from bne_iff.mpr h4]
    exact bad (fun h => h4 h.2.2.2.1)
end Go.Proofs.YtejoneninbdjbaaDoor.Pur
end
section
namespace Go.Proofs.YtejoneninbdjbaaDoor.Pur
open Go.RowKit Go.Proofs.YtejoneninbdjbaaDoorW.PrintWords Go.Proofs.YtejoneninbdjbaaDoorW.PrintMore Go.Proofs.YtejoneninbdjbaaDoor.E
theorem mark_text_loop : ∀ (d : Nat) (n : Int) (t : ByteArray), 0 ≤ n → n < 10 ^ d → d ≤ 18 → t.size + d ≤ 1000 → EvP (fun k => laws_markText.l0 k n t) (fun r => r.size ≤ 1001) := by
  intro d
  induction d with
  | zero =>
    intro n t h0 h1 _ ht
    refine EvP.succ ?_
    simp only [laws_markText.l0]
    have hn : n = 0 := by rw [Int.pow_zero] at h1; omega
    subst hn
    exact EvP.no (by decide) (EvP.yes (by omega) (EvP.ret (by rw [ByteArray.size_append]; show 1 + t.size ≤ 1001; omega)))
  | succ d ih =>
    intro n t h0 h1 hd ht
    refine EvP.succ ?_
    simp only [laws_markText.l0]
    refine EvP.ite (fun hp => ?_) (fun hp => EvP.yes (by omega) (EvP.ret (by rw [ByteArray.size_append]; show 1 + t.size ≤ 1001; omega)))
    refine EvP.bind (P := fun y => y.length = 1) (EvP.con rfl rfl) (fun y hy => ?_)
    have hs : (strOfNums y).size = 1 := by rw [strOfNums_size]; exact hy
    refine EvP.yes (by omega) ?_
    have hq : Int.tdiv n 10 = n / 10 := tdiv_pos 10 h0
    have hb : n / 10 < 10 ^ d := by
      rw [Int.pow_succ] at h1
      omega
    have hb2 : n / 10 ≤ n := Int.ediv_le_self 10 h0
    have h18 : (10 : Int) ^ d ≤ 10 ^ 18 := by
      have : (10 : Nat) ^ d ≤ 10 ^ 18 := Nat.pow_le_pow_right (by omega) (by omega)
      exact_mod_cast this
    rw [hq, w64 (by omega) (by omega)]
    exact ih (n / 10) _ (Int.ediv_nonneg h0 (by omega)) hb (by omega) (by rw [ByteArray.size_append]; omega)
theorem mark_text (n : Int) (h0 : 0 ≤ n) (h1 : n ≤ 2000000) : EvP (fun k => laws_markText.f k n) (fun r => r.size ≤ 1001) := by
  unfold laws_markText.f
  refine EvP.ite (fun _ => EvP.ret (by show 2 ≤ 1001; omega)) (fun _ => ?_)
  exact mark_text_loop 18 n ⟨#[]⟩ h0 (by omega) (Nat.le_refl _) (by show 0 + 18 ≤ 1000; omega)
theorem mark_strs_loop (m : Nat) (hm : m ≤ 1048576) : ∀ (d i : Nat) (x : List ByteArray), i + d = m → x.length = m → EvP (fun k => laws_markStringS.l0 k x (1 + i) (i : Int)) (fun r => r.1 = 1 + (m : Int)) := by
  intro d
  induction d with
  | zero =>
    intro i x hi hx
    refine EvP.succ ?_
    simp only [laws_markStringS.l0]
    exact EvP.no (by omega) (EvP.ret (by dsimp only; omega))
  | succ d ih =>
    intro i x hi hx
    have e1 : Hd (wrap64 (1 + (i : Int) + 1) = 1 + ((i + 1 : Nat) : Int)) := ⟨by rw [w64 (by omega) (by omega)]; omega⟩
    have e2 : Hd (wrap64 ((i : Int) + 1) = ((i + 1 : Nat) : Int)) := ⟨w64 (by omega) (by omega)⟩
    refine EvP.succ ?_
    simp only [laws_markStringS.l0]
    refine EvP.yes (by omega) ?_
    refine EvP.bind (mark_text _ (by omega) (by omega)) (fun t _ => ?_)
    refine EvP.yes (by omega) ?_
    rw [e1.out, e2.out]
    exact ih (i + 1) _ (by omega) (by simpa using hx)
theorem mark_strs (l : List ByteArray) (hl : l.length ≤ 1048576) : EvP (fun k => laws_markStringS.f k l 1) (fun r => r.1 = 1 + (l.length : Int)) := by
  unfold laws_markStringS.f
  exact mark_strs_loop l.length hl l.length 0 l (by omega) rfl
end Go.Proofs.YtejoneninbdjbaaDoor.Pur
end
section
namespace Go.Proofs.YtejoneninbdjbaaDoor.Pur
open Go.RowKit Go.Proofs.YtejoneninbdjbaaDoorW.PrintWords Go.Proofs.YtejoneninbdjbaaDoorW.PrintMore Go.Proofs.YtejoneninbdjbaaDoor.E
def MvOk (l : List ByteArray) (st : List Int) (i tt : Int) : Prop := VS l st ∧ 1 ≤ i ∧ i < st.length ∧ 0 ≤ tt ∧ tt < i
def Mv (l : List ByteArray) (st : List Int) (i tt : Int) (r : List Int × Bool) : Prop := (MvOk l st i tt → r = (st.set i.toNat tt, true)) ∧ (¬ MvOk l st i tt → r = ([], false))
theorem Mv.same {l : List ByteArray} {st : List Int} {i tt : Int} {a b : List Int × Bool} (h : Mv l st i tt a) (k : Mv l st i tt b) : a = b := by
  by_cases hc : MvOk l st i tt
  · rw [h.1 hc, k.1 hc]
  · rw [h.2 hc, k.2 hc]
theorem Mv.len {l : List ByteArray} {st : List Int} {i tt : Int} {a : List Int × Bool} (h : Mv l st i tt a) : a.1.length ≤ st.length := by
  by_cases hc : MvOk l st i tt
  · rw [h.1 hc]; simp
  · rw [h.2 hc]; simp
theorem in_at (a b c : Int) : EvP (fun _ : Nat => spec_l6In.f a b c) (· = decide (b ≤ a ∧ a ≤ c)) := by
  unfold spec_l6In.f
  by_cases h : a ≥ b
  · rw [if_pos h]; exact EvP.ret (decide_eq_decide.mpr (by omega))
  · rw [if_neg h]; exact EvP.ret (decide_eq_false (by omega)).symm
theorem spec_move (l : List ByteArray) (st : List Int) (i tt : Int) (hs : ∀ t ∈ l, t.size ≤ 9223372036854775806) (hl : st.length ≤ 1048576) : EvP (fun k => spec_StemMove.f k l st i tt) (Mv l st i tt) := by
  unfold spec_StemMove.f
  refine EvP.bind (spec_stem l st hs hl) (fun a ha => ?_)
  refine EvP.ite (fun h1 => ?_) (fun h1 => EvP.ret ⟨fun h => absurd (ha.mpr h.1) h1, fun _ => rfl⟩)
  have V := ha.mp h1
  have e1 : Hd (wrap64 ((st.length : Int) - 1) = (st.length : Int) - 1) := ⟨w64 (by omega) (by omega)⟩
  rw [e1.out]
  refine EvP.bind (in_at _ _ _) (fun b hb => ?_)
  refine EvP.ite (fun h2 => ?_) (fun h2 => EvP.ret ⟨fun h => absurd (hb.trans (decide_eq_true (by have := h.2; omega))) h2, fun _ => rfl⟩)
  have h2 := of_decide_eq_true (hb.symm.trans h2)
  have e2 : Hd (wrap64 (i - 1) = i - 1) := ⟨w64 (by omega) (by omega)⟩
  rw [e2.out]
  refine EvP.bind (in_at _ _ _) (fun c hc => ?_)
  refine EvP.ite (fun h3 => ?_) (fun h3 => EvP.ret ⟨fun h => absurd (hc.trans (decide_eq_true (by have := h.2; omega))) h3, fun _ => rfl⟩)
  have h3 := of_decide_eq_true (hc.symm.trans h3)
  refine EvP.bind (P := (· = [])) (EvP.con rfl rfl) (fun y hy => ?_)
  subst hy
  refine EvP.yes (by simp only [List.length_nil]; omega) ?_
  refine EvP.bind (P := (· = st)) (EvP.con (by rw [List.nil_append]) rfl) (fun y hy => ?_)
  subst hy
  exact EvP.yes (by omega) (EvP.yes (by omega) (EvP.ret ⟨fun _ => rfl, fun h => absurd ⟨V, by omega, by omega, by omega, by omega⟩ h⟩))
theorem impl_move (l : List ByteArray) (st : List Int) (i tt : Int) (hs : ∀ t ∈ l, t.size ≤ 9223372036854775806) (hl : st.length ≤ 1048576) : EvP (fun k => impl_StemMove.f k l st i tt) (Mv l st i tt) := by
  unfold impl_StemMove.f
  refine EvP.bind (impl_stem l st hs hl) (fun a ha => ?_)
  refine EvP.ite (fun h1 => ?_) (fun h1 => EvP.ret ⟨fun h => absurd (ha.mpr h.1) h1, fun _ => rfl⟩)
  have V := ha.mp h1
  refine EvP.ite (fun h2 => EvP.ret ⟨fun h => absurd h.2 (by omega), fun _ => rfl⟩) (fun h2 => ?_)
  refine EvP.ite (fun h3 => EvP.ret ⟨fun h => absurd h.2 (by omega), fun _ => rfl⟩) (fun h3 => ?_)
  refine EvP.ite (fun h4 => EvP.ret ⟨fun h => absurd h.2 (by omega), fun _ => rfl⟩) (fun h4 => ?_)
  refine EvP.ite (fun h5 => EvP.ret ⟨fun h => absurd h.2 (by omega), fun _ => rfl⟩) (fun h5 => ?_)
  refine EvP.bind (P := (· = st)) ?_ (fun y hy => ?_)
  · unfold impl_copiedNumbers.f
    exact EvP.yes (by omega) (EvP.ret rfl)
  subst hy
  exact EvP.yes (by omega) (EvP.yes (by omega) (EvP.ret ⟨fun _ => rfl, fun h => absurd ⟨V, by omega, by omega, by omega, by omega⟩ h⟩))
theorem mark_ints_at (l : List Int) (n : Int) (hn : 0 ≤ n ∧ n ≤ 2000000) (hl : l.length ≤ 1048576) : EvP (fun k => laws_markIntS.f k l n) (fun r => r.1 = n + l.length) := by
  unfold laws_markIntS.f
  have := (mark_ints_loop l.length hl n hn l.length 0 l (by omega) rfl (fun j hj => by omega)).mono (fun r h => h.1)
  simpa using this
theorem exact_move (l : List ByteArray) (st : List Int) (i tt : Int) (hm : (l.length : Int) ≤ 9223372036854775807) (hx : ∀ t ∈ l, t.size ≤ 9223372036854775807) (_ : (st.length : Int) ≤ 9223372036854775807) (_ : ∀ x ∈ st, (Lit.int .i64 x).wf = true) (_ : (Lit.int .i64 i).wf = true) (_ : (Lit.int .i64 tt).wf = true) : ∃ k, laws_FnExactStemMove.f k l st i tt = some true := by
  refine EvP.rounds (?_ : EvP (fun k => laws_FnExactStemMove.f k l st i tt) (· = true))
  unfold laws_FnExactStemMove.f
  refine EvP.ite (fun _ => EvP.ret rfl) (fun hst => ?_)
  have hst : st.length ≤ 1048576 := by omega
  refine EvP.bind (sz_strs l hm hx 1048576 (by omega) (by omega)) (fun r hr => ?_)
  refine EvP.ite (fun _ => EvP.ret rfl) (fun hn => ?_)
  obtain ⟨_, _, hl, hs⟩ := hr.resolve_left hn
  have hs' : ∀ t ∈ l, t.size ≤ 9223372036854775806 := fun t ht => Nat.le_trans (hs t ht) (by omega)
  refine EvP.bind (to_strs l hl) (fun _ e => ?_)
  subst e
  refine EvP.bind (to_ints st hst) (fun _ e => ?_)
  subst e
  refine EvP.bind (spec_move _ _ i tt hs' hst) (fun a ha => ?_)
  refine EvP.bind (to_strs _ hl) (fun _ e => ?_)
  subst e
  refine EvP.bind (to_ints _ hst) (fun _ e => ?_)
  subst e
  refine EvP.bind (impl_move _ _ i tt hs' hst) (fun b hb => ?_)
  obtain rfl := hb.same ha
  have hbl : b.1.length ≤ 1048576 := Nat.le_trans hb.len hst
  refine EvP.bind (eq_ints _ hbl) (fun _ e => ?_)
  subst e
  refine EvP.yes rfl ?_
  rw [bne_self_eq_false]
  refine EvP.succ ?_
  simp only [laws_FnExactStemMove.j0]
  refine EvP.no (by decide) ?_
  refine EvP.bind (to_strs _ hl) (fun _ e => ?_)
  subst e
  refine EvP.bind (eq_strs _ hl) (fun _ e => ?_)
  subst e
  refine EvP.yes rfl ?_
  refine EvP.bind (to_ints _ hst) (fun _ e => ?_)
  subst e
  refine EvP.bind (eq_ints _ hst) (fun _ e => ?_)
  subst e
  refine EvP.yes rfl ?_
  refine EvP.bind (mark_strs _ hl) (fun q hq => ?_)
  refine EvP.bind (mark_ints_at _ _ (by omega) hst) (fun q2 hq2 => ?_)
  refine EvP.no (by omega) ?_
  refine EvP.bind (eq_ints _ hbl) (fun _ e => ?_)
  subst e
  refine EvP.yes rfl ?_
  rw [bne_self_eq_false]
  refine EvP.succ ?_
  simp only [laws_FnExactStemMove.j1]
  refine EvP.no (by decide) ?_
  refine EvP.bind (mark_ints _ hbl) (fun m hmk => ?_)
  refine EvP.bind (held_ints m.2 _ hbl hmk.2.1 hmk.2.2) (fun _ e => ?_)
  subst e
  refine EvP.no (by omega) (EvP.yes hmk.1.symm ?_)
  refine EvP.bind (to_strs _ hl) (fun _ e => ?_)
  subst e
  refine EvP.bind (to_ints _ hst) (fun _ e => ?_)
  subst e
  refine EvP.bind (impl_move _ _ i tt hs' hst) (fun c hc => ?_)
  obtain rfl := hc.same ha
  refine EvP.bind (eq_ints _ hbl) (fun _ e => ?_)
  subst e
  refine EvP.yes rfl ?_
  rw [bne_self_eq_false]
  refine EvP.succ ?_
  simp only [laws_FnExactStemMove.j2]
  refine EvP.no (by decide) ?_
  refine EvP.bind (held_ints m.2 _ hbl hmk.2.1 hmk.2.2) (fun _ e => ?_)
  subst e
  exact EvP.no (by omega) (EvP.yes hmk.1.symm (EvP.ret rfl))
end Go.Proofs.YtejoneninbdjbaaDoor.Pur
end
section
namespace Go.Proofs.YtejoneninbdjbaaDoor.Head
set_option maxRecDepth 100000
theorem and_t {a b : Bool} (h : a = true) (k : b = true) : (a && b) = true := by rw [h, k]; rfl
theorem mayEnter_of {P : Program} {l : List String} {W rest : List (List Char)} (h : behindMainWord (wordsSigns P.initOrder.toList) = W) (hc : ∃ c r, W = c :: r ∧ (c == "gc".toList || c == "spec".toList) = false ∧ (c == "carried".toList) = false) (hs : stripLifts liftWords W = (l, "cut".toList :: rest))
    (hl : (l.contains "finals" || !P.laysLater) = true) (hb : (l.contains "reflectrows" || !P.bearsReflect) = true) (hr : (l.contains "reflectrows" || !l.contains "leanrows") = true) (hd : P.doorFits l = true) : P.mayEnter = true := by
  obtain ⟨c, r, rfl, h1, h2⟩ := hc
  unfold Program.mayEnter
  rw [h]
  dsimp only
  rw [hs, hl, hb, hr, hd, h1, h2]
  simp
theorem headLifts_of {P : Program} {l : List String} {W rest : List (List Char)} (h : behindMainWord (wordsSigns P.initOrder.toList) = W) (hs : stripLifts liftWords W = (l, "cut".toList :: rest)) : P.headLifts = l := by
  unfold Program.headLifts
  rw [h]
  dsimp only
  rw [hs]
  simp
theorem liftsFinal_of {P : Program} {l : List String} {W rest : List (List Char)} (h : behindMainWord (wordsSigns P.initOrder.toList) = W) (hc : ∃ c r, W = c :: r ∧ (c == "gc".toList || c == "spec".toList) = false ∧ (c == "carried".toList) = false) (hs : stripLifts liftWords W = (l, "cut".toList :: rest)) : P.liftsFinal = l.contains "finals" := by
  unfold Program.liftsFinal
  rw [headLifts_of h hs, h]
  obtain ⟨c, r, rfl, h1, h2⟩ := hc
  have h3 : ((c :: r).head? == some "carried".toList) = false := by
    rw [beq_eq_false_iff_ne] at h2 ⊢
    exact fun e => h2 (Option.some.inj e)
  dsimp only
  rw [h3, Bool.false_and, Bool.false_or]
theorem make_of {P : Program} {rest : List (List Char)} (h : behindMainWord (wordsSigns P.initOrder.toList) = "cut".toList :: rest) : P.make = some .cut := by
  unfold Program.make
  rw [h]
  dsimp only
  rw [if_neg (by decide), if_pos (by simp)]
theorem mainIs_of {P : Program} {s : List Char} {rest : List (List Char)} (h : wordsSigns P.initOrder.toList = "harness".toList :: s :: rest) (hs : isSumSigns s = true) : P.mainIs = some (true, s) := by
  unfold Program.mainIs
  rw [h]
  dsimp only
  rw [hs]
  simp
def io : List Nat := [104, 97, 114, 110, 101, 115, 115, 32, 97, 49, 55, 53, 100, 55, 49, 55, 50, 99, 49, 55, 51, 50, 52, 49, 97, 52, 51, 56, 99, 53, 50, 99, 97, 100, 56, 102, 50, 99, 98, 98, 56, 52, 101, 54, 98, 50, 52, 101, 51, 97, 99, 54, 56, 49, 102, 49, 99, 55, 51, 51, 99, 98, 98, 57, 52, 51, 98, 49, 102, 48, 55, 99, 32, 99, 117, 116, 32, 97, 116, 32, 108, 111, 111, 112, 46, 101, 120, 97, 109, 112, 108, 101, 47, 110, 101, 117, 109, 101, 115, 47, 108, 97, 119, 115, 46, 70, 110, 69, 120, 97, 99, 116, 66, 111, 111, 107, 115, 86, 97, 108, 105, 100, 32, 108, 111, 111, 112, 46, 101, 120, 97, 109, 112, 108, 101, 47, 110, 101, 117, 109, 101, 115, 47, 108, 97, 119, 115, 46, 70, 110, 69, 120, 97, 99, 116, 66, 111, 111, 107, 115, 70, 97, 114, 32, 108, 111, 111, 112, 46, 101, 120, 97, 109, 112, 108, 101, 47, 110, 101, 117, 109, 101, 115, 47, 108, 97, 119, 115, 46, 70, 110, 69, 120, 97, 99, 116, 83, 116, 101, 109, 86, 97, 108, 105, 100, 32, 108, 111, 111, 112, 46, 101, 120, 97, 109, 112, 108, 101, 47, 110, 101, 117, 109, 101, 115, 47, 108, 97, 119, 115, 46, 70, 110, 69, 120, 97, 99, 116, 66, 111, 111, 107, 115, 67, 111, 109, 109, 111, 110, 32, 108, 111, 111, 112, 46, 101, 120, 97, 109, 112, 108, 101, 47, 110, 101, 117, 109, 101, 115, 47, 108, 97, 119, 115, 46, 70, 110, 66, 111, 111, 107, 115, 70, 97, 114, 32, 108, 111, 111, 112, 46, 101, 120, 97, 109, 112, 108, 101, 47, 110, 101, 117, 109, 101, 115, 47, 108, 97, 119, 115, 46, 70, 110, 69, 120, 97, 99, 116, 83, 116, 101, 109, 68, 101, 112, 116, 104, 32, 108, 111, 111, 112, 46, 101, 120, 97, 109, 112, 108, 101, 47, 110, 101, 117, 109, 101, 115, 47, 108, 97, 119, 115, 46, 70, 110, 66, 111, 111, 107, 115, 67, 111, 109, 109, 111, 110, 32, 108, 111, 111, 112, 46, 101, 120, 97, 109, 112, 108, 101, 47, 110, 101, 117, 109, 101, 115, 47, 108, 97, 119, 115, 46, 70, 110, 69, 120, 97, 99, 116, 83, 116, 101, 109, 67, 104, 97, 110, 103, 101, 115, 32, 108, 111, 111, 112, 46, 101, 120, 97, 109, 112, 108, 101, 47, 110, 101, 117, 109, 101, 115, 47, 108, 97, 119, 115, 46, 70, 110, 69, 120, 97, 99, 116, 83, 116, 101, 109, 77, 111, 118, 101, 32, 108, 111, 111, 112, 46, 101, 120, 97, 109, 112, 108, 101, 47, 110, 101, 117, 109, 101, 115, 47, 108, 97, 119, 115, 46, 70, 110, 69, 120, 97, 99, 116, 83, 116, 101, 109, 66, 101, 115, 116, 32, 108, 111, 111, 112, 46, 101, 120, 97, 109, 112, 108, 101, 47, 110, 101, 117, 109, 101, 115, 47, 108, 97, 119, 115, 46, 70, 110, 83, 116, 101, 109, 68, 101, 112, 116, 104, 32, 108, 111, 111, 112, 46, 101, 120, 97, 109, 112, 108, 101, 47, 110, 101, 117, 109, 101, 115, 47, 108, 97, 119, 115, 46, 70, 110, 83, 116, 101, 109, 66, 101, 115, 116, 32, 108, 111, 111, 112, 46, 101, 120, 97, 109, 112, 108, 101, 47, 110, 101, 117, 109, 101, 115, 47, 108, 97, 119, 115, 46, 70, 110, 69, 120, 97, 99, 116, 83, 116, 101, 109, 70, 101, 119, 101, 115, 116, 32, 108, 111, 111, 112, 46, 101, 120, 97, 109, 112, 108, 101, 47, 110, 101, 117, 109, 101, 115, 47, 108, 97, 119, 115, 46, 70, 110, 83, 116, 101, 109, 70, 101, 119, 101, 115, 116, 32, 108, 111, 111, 112, 46, 101, 120, 97, 109, 112, 108, 101, 47, 110, 101, 117, 109, 101, 115, 47, 108, 97, 119, 115, 46, 70, 110, 69, 120, 97, 99, 116, 83, 116, 101, 109, 70, 105, 108, 108, 32, 108, 111, 111, 112, 46, 101, 120, 97, 109, 112, 108, 101, 47, 110, 101, 117, 109, 101, 115, 47, 108, 97, 119, 115, 46, 70, 110, 83, 116, 101, 109, 77, 111, 118, 101, 32, 108, 111, 111, 112, 46, 101, 120, 97, 109, 112, 108, 101, 47, 110, 101, 117, 109, 101, 115, 47, 108, 97, 119, 115, 46, 70, 110, 83, 116, 101, 109, 76, 111, 115, 116, 32, 108, 111, 111, 112, 46, 101, 120, 97, 109, 112, 108, 101, 47, 110, 101, 117, 109, 101, 115, 47, 108, 97, 119, 115, 46, 70, 110, 83, 116, 101, 109, 67, 104, 97, 110, 103, 101, 115]
def ws : List (List Nat) := [[104, 97, 114, 110, 101, 115, 115], [97, 49, 55, 53, 100, 55, 49, 55, 50, 99, 49, 55, 51, 50, 52, 49, 97, 52, 51, 56, 99, 53, 50, 99, 97, 100, 56, 102, 50, 99, 98, 98, 56, 52, 101, 54, 98, 50, 52, 101, 51, 97, 99, 54, 56, 49, 102, 49, 99, 55, 51, 51, 99, 98, 98, 57, 52, 51, 98, 49, 102, 48, 55, 99], [99, 117, 116], [97, 116], [108, 111, 111, 112, 46, 101, 120, 97, 109, 112, 108, 101, 47, 110, 101, 117, 109, 101, 115, 47, 108, 97, 119, 115, 46, 70, 110, 69, 120, 97, 99, 116, 66, 111, 111, 107, 115, 86, 97, 108, 105, 100], [108, 111, 111, 112, 46, 101, 120, 97, 109, 112, 108, 101, 47, 110, 101, 117, 109, 101, 115, 47, 108, 97, 119, 115, 46, 70, 110, 69, 120, 97, 99, 116, 66, 111, 111, 107, 115, 70, 97, 114], [108, 111, 111, 112, 46, 101, 120, 97, 109, 112, 108, 101, 47, 110, 101, 117, 109, 101, 115, 47, 108, 97, 119, 115, 46, 70, 110, 69, 120, 97, 99, 116, 83, 116, 101, 109, 86, 97, 108, 105, 100], [108, 111, 111, 112, 46, 101, 120, 97, 109, 112, 108, 101, 47, 110, 101, 117, 109, 101, 115, 47, 108, 97, 119, 115, 46, 70, 110, 69, 120, 97, 99, 116, 66, 111, 111, 107, 115, 67, 111, 109, 109, 111, 110], [108, 111, 111, 112, 46, 101, 120, 97, 109, 112, 108, 101, 47, 110, 101, 117, 109, 101, 115, 47, 108, 97, 119, 115, 46, 70, 110, 66, 111, 111, 107, 115, 70, 97, 114], [108, 111, 111, 112, 46, 101, 120, 97, 109, 112, 108, 101, 47, 110, 101, 117, 109, 101, 115, 47, 108, 97, 119, 115, 46, 70, 110, 69, 120, 97, 99, 116, 83, 116, 101, 109, 68, 101, 112, 116, 104], [108, 111, 111, 112, 46, 101, 120, 97, 109, 112, 108, 101, 47, 110, 101, 117, 109, 101, 115, 47, 108, 97, 119, 115, 46, 70, 110, 66, 111, 111, 107, 115, 67, 111, 109, 109, 111, 110], [108, 111, 111, 112, 46, 101, 120, 97, 109, 112, 108, 101, 47, 110, 101, 117, 109, 101, 115, 47, 108, 97, 119, 115, 46, 70, 110, 69, 120, 97, 99, 116, 83, 116, 101, 109, 67, 104, 97, 110, 103, 101, 115], [108, 111, 111, 112, 46, 101, 120, 97, 109, 112, 108, 101, 47, 110, 101, 117, 109, 101, 115, 47, 108, 97, 119, 115, 46, 70, 110, 69, 120, 97, 99, 116, 83, 116, 101, 109, 77, 111, 118, 101], [108, 111, 111, 112, 46, 101, 120, 97, 109, 112, 108, 101, 47, 110, 101, 117, 109, 101, 115, 47, 108, 97, 119, 115, 46, 70, 110, 69, 120, 97, 99, 116, 83, 116, 101, 109, 66, 101, 115, 116], [108, 111, 111, 112, 46, 101, 120, 97, 109, 112, 108, 101, 47, 110, 101, 117, 109, 101, 115, 47, 108, 97, 119, 115, 46, 70, 110, 83, 116, 101, 109, 68, 101, 112, 116, 104], [108, 111, 111, 112, 46, 101, 120, 97, 109, 112, 108, 101, 47, 110, 101, 117, 109, 101, 115, 47, 108, 97, 119, 115, 46, 70, 110, 83, 116, 101, 109, 66, 101, 115, 116], [108, 111, 111, 112, 46, 101, 120, 97, 109, 112, 108, 101, 47, 110, 101, 117, 109, 101, 115, 47, 108, 97, 119, 115, 46, 70, 110, 69, 120, 97, 99, 116, 83, 116, 101, 109, 70, 101, 119, 101, 115, 116], [108, 111, 111, 112, 46, 101, 120, 97, 109, 112, 108, 101, 47, 110, 101, 117, 109, 101, 115, 47, 108, 97, 119, 115, 46, 70, 110, 83, 116, 101, 109, 70, 101, 119, 101, 115, 116], [108, 111, 111, 112, 46, 101, 120, 97, 109, 112, 108, 101, 47, 110, 101, 117, 109, 101, 115, 47, 108, 97, 119, 115, 46, 70, 110, 69, 120, 97, 99, 116, 83, 116, 101, 109, 70, 105, 108, 108], [108, 111, 111, 112, 46, 101, 120, 97, 109, 112, 108, 101, 47, 110, 101, 117, 109, 101, 115, 47, 108, 97, 119, 115, 46, 70, 110, 83, 116, 101, 109, 77, 111, 118, 101], [108, 111, 111, 112, 46, 101, 120, 97, 109, 112, 108, 101, 47, 110, 101, 117, 109, 101, 115, 47, 108, 97, 119, 115, 46, 70, 110, 83, 116, 101, 109, 76, 111, 115, 116], [108, 111, 111, 112, 46, 101, 120, 97, 109, 112, 108, 101, 47, 110, 101, 117, 109, 101, 115, 47, 108, 97, 119, 115, 46, 70, 110, 83, 116, 101, 109, 67, 104, 97, 110, 103, 101, 115]]
def ch (w : List Nat) : List Char := w.map Char.ofNat
theorem io_is : Tryd.prog.initOrder = String.ofList (ch io) := by kernel_rfl
theorem io_ws : wordsSigns (ch io) = ws.map ch := by kernel_rfl
theorem io_all : wordsSigns Tryd.prog.initOrder.toList = ws.map ch := by rw [io_is, String.toList_ofList, io_ws]
theorem be : behindMainWord (ws.map ch) = (ws.drop 2).map ch := by kernel_rfl
theorem io_be : behindMainWord (wordsSigns Tryd.prog.initOrder.toList) = (ws.drop 2).map ch := by rw [io_all, be]
theorem first : ∃ c r, (ws.drop 2).map ch = c :: r ∧ (c == "gc".toList || c == "spec".toList) = false ∧ (c == "carried".toList) = false := ⟨ch (ws.getD 2 []), (ws.drop 3).map ch, by kernel_rfl, by kernel_rfl, by kernel_rfl⟩
theorem st : stripLifts liftWords ((ws.drop 2).map ch) = ([], "cut".toList :: ((ws.drop 3).map ch)) := by kernel_rfl
theorem ll : ([].contains "finals" || !Tryd.prog.laysLater) = true := by kernel_rfl
theorem br : ([].contains "reflectrows" || !Tryd.prog.bearsReflect) = true := by kernel_rfl
theorem rr : ([].contains "reflectrows" || ![].contains "leanrows") = true := by kernel_rfl
theorem df : Tryd.prog.doorFits [] = true := by kernel_rfl
theorem mayE : Tryd.prog.mayEnter = true := mayEnter_of io_be first st ll br rr df
theorem finE : Tryd.prog.liftsFinal = [].contains "finals" := liftsFinal_of io_be first st
theorem mainE : Tryd.prog.mainIs = some (true, ch [97, 49, 55, 53, 100, 55, 49, 55, 50, 99, 49, 55, 51, 50, 52, 49, 97, 52, 51, 56, 99, 53, 50, 99, 97, 100, 56, 102, 50, 99, 98, 98, 56, 52, 101, 54, 98, 50, 52, 101, 51, 97, 99, 54, 56, 49, 102, 49, 99, 55, 51, 51, 99, 98, 98, 57, 52, 51, 98, 49, 102, 48, 55, 99]) := mainIs_of (rest := (ws.drop 2).map ch) (io_all.trans (by kernel_rfl)) (by kernel_rfl)
theorem makeE : Tryd.prog.make = some .cut := make_of (io_be.trans (by kernel_rfl : (ws.drop 2).map ch = "cut".toList :: ((ws.drop 3).map ch)))
end Go.Proofs.YtejoneninbdjbaaDoor.Head
end
section
namespace Go.Proofs.YtejoneninbdjbaaDoor.Pur
open Go.RowKit Go.ChangeShapes Go.Deep Go.Proofs.YtejoneninbdjbaaDoorW.PrintWords Go.Proofs.YtejoneninbdjbaaDoor.E
theorem open_rowP {P : Program} {H : Type} {enc : TypeId × Value → H} {W : World} {α : Type} [Inhabited α] {d : Kd α} {p : α → Prop} {t e : TypeId} {fuel : Nat} {cs : List Value} {x : DataW H × List MemPlace} (ht : P.underlying t = some (.slice e)) (hc : P.cellsOf e = d.sz)
    (o : ∀ (fuel : Nat) (cs : List Value) (x : DataW H × List MemPlace), DataW.trod enc P W 0 (fun _ => true) true fuel e cs = some x → ∃ y, d.K W y cs ∧ p y)
    (h : DataW.trod enc P W 0 (fun _ => true) true fuel t cs = some x) : ∃ (A : Option Addr) (c : Nat) (l : List α), cs = [.slice A l.length c] ∧ l.length ≤ c ∧ (l.length : Int) ≤ 9223372036854775807 ∧ d.C W A l.length l ∧ ∀ y ∈ l, p y := by
  rcases open_slice ht h with ⟨rfl, _⟩ | ⟨a, len, cap, m, n, D, Pl, rfl, _, hl, hm, hmm, _, hx⟩
  · exact ⟨none, 0, [], rfl, Nat.le_refl _, by simp, ⟨rfl, by simp, fun h => absurd h (by simp)⟩, fun y hy => by cases hy⟩
  · have hlm : len ≤ m := by rw [hmm]; simp; omega
    unfold maxLen at hm
    obtain ⟨Y, hY⟩ := choose_lt (α := α) (n := len) (p := fun i y => ∃ cs', W.cells? 0 (a.add (i * P.cellsOf e)) (P.cellsOf e) = some cs' ∧ d.K W y cs' ∧ p y) (fun i hi => by
      obtain ⟨cs', h1, h2⟩ := hx i (by omega)
      obtain ⟨y, hy, hp⟩ := o _ _ _ h2
      exact ⟨y, cs', h1, hy, hp⟩)
    have hlen : ((List.range len).map Y).length = len := by simp
    refine ⟨some a, cap, (List.range len).map Y, by rw [hlen], by rw [hlen]; exact hl, by rw [hlen]; omega, ⟨rfl, by rw [hlen]; omega, fun _ => ⟨a, rfl, fun j q hj => ?_⟩⟩, fun y hy => ?_⟩
    · obtain ⟨hj1, hj2⟩ := List.getElem?_eq_some_iff.1 hj
      rw [hlen] at hj1
      simp only [List.getElem_map, List.getElem_range] at hj2
      subst hj2
      obtain ⟨cs', h1, h2, _⟩ := hY j hj1
      obtain ⟨_, g1, g2⟩ := World.cells?_some h1
      refine ⟨cs', by rw [g1, hc], h2, fun i u hu => ?_⟩
      have := g2 i (by rw [← g1]; exact (List.getElem?_eq_some_iff.1 hu).1)
      rw [Go.Deep.add_add, hc, hu] at this
      exact this
    · obtain ⟨j, hj, rfl⟩ := List.mem_map.mp hy
      obtain ⟨_, _, _, hp⟩ := hY j (List.mem_range.mp hj)
      exact hp
theorem open_strsR {P : Program} {H : Type} {enc : TypeId × Value → H} {W : World} {t e : TypeId} {fuel : Nat} {cs : List Value} {x : DataW H × List MemPlace} (ht : P.underlying t = some (.slice e)) (he : P.underlying e = some .string) (hc : P.cellsOf e = 1) (h : DataW.trod enc P W 0 (fun _ => true) true fuel t cs = some x) :
    ∃ (A : Option Addr) (c : Nat) (l : List ByteArray), cs = [.slice A l.length c] ∧ l.length ≤ c ∧ (l.length : Int) ≤ 9223372036854775807 ∧ Kd.string.C W A l.length l ∧ ∀ y ∈ l, y.size ≤ 9223372036854775807 :=
  haveI : Inhabited ByteArray := ⟨ByteArray.empty⟩
  open_rowP ht hc (fun fuel cs x h => by
    obtain ⟨s, rfl, _, hs⟩ := DataW.trod_string he h
    exact ⟨s, rfl, by unfold maxLen at hs; omega⟩) h
theorem open_intsR {P : Program} {H : Type} {enc : TypeId × Value → H} {W : World} {k : IntKind} {t e : TypeId} {fuel : Nat} {cs : List Value} {x : DataW H × List MemPlace} (ht : P.underlying t = some (.slice e)) (he : P.underlying e = some (.int k)) (hc : P.cellsOf e = 1) (h : DataW.trod enc P W 0 (fun _ => true) true fuel t cs = some x) :
    ∃ (A : Option Addr) (c : Nat) (l : List Int), cs = [.slice A l.length c] ∧ l.length ≤ c ∧ (l.length : Int) ≤ 9223372036854775807 ∧ (Kd.int k).C W A l.length l ∧ ∀ y ∈ l, (Lit.int k y).wf = true :=
  open_rowP ht hc (fun fuel cs x h => by
    obtain ⟨s, rfl, _, hs⟩ := DataW.trod_int he h
    exact ⟨s, rfl, hs⟩) h
end Go.Proofs.YtejoneninbdjbaaDoor.Pur
end
section
namespace Go.Proofs.YtejoneninbdjbaaDoor.fnExactStemMove
open Go.ChangeShapes Go.WideShapes Go.ChangeAt Go.RowKit
open Go.ChangeMaps (open_string shut_string)
set_option linter.unusedVariables false
theorem own : ownKnob Tryd.prog.godebug = none := by kernel_rfl
theorem laidOut : laidOutB Tryd.prog = true := by kernel_rfl
set_option maxRecDepth 100000 in
theorem lifted (os : Os) (started : os.Started) (H : Type) (enc : TypeId × Value → H) :
    ReturnsInHanded {} Tryd.checked os 11 .any (fun w args => (Rows.fnExactStemMoveSpec.pre enc Tryd.prog Tryd.f11 Rows.fnExactStemMoveRow.domain false w args ∧ laidMetH Tryd.prog Rows.fnExactStemMoveRow.laid w) ∧ sizedMet enc Tryd.prog Tryd.f11 (OpenSpec.ofChange Rows.fnExactStemMoveSpec) false w args) (Rows.fnExactStemMoveSpec.post enc Tryd.prog Tryd.f11 false true false false) := by
  refine returnsInHanded_of_change_and (C := Tryd.checked) (X := fun w _ => laidMetH Tryd.prog Rows.fnExactStemMoveRow.laid w) (fun _ _ _ hh h => h.of_heap hh) own started (by kernel_rfl) Tryd.func11
    (ChangeSpec.witness_shaped (enc := enc) (C := Tryd.checked) (os := os) (X := fun w _ => laidMetH Tryd.prog Rows.fnExactStemMoveRow.laid w) false (World.laidAll Tryd.prog os Rows.fnExactStemMoveRow.laid) #[.slice none 0 0, .slice none 0 0, .int .i64 0, .int .i64 0] 8 (World.laidAll_os _ _ _) (World.shaped_of_ZipB (by kernel_rfl) (by kernel_rfl)) (by kernel_rfl) (by kernel_rfl) (by kernel_rfl) (by rw [MakeChecks.laidMetH_plain _ _ _ (by kernel_rfl)]; exact laidMet_laidAll _ (by kernel_rfl) (by kernel_rfl))) ?_
  intro W base args ds gs before hval0 hW hcnd hsz0 hL _
  have hsz : (DataW.weightsEach Tryd.prog (Tryd.f11.params.toList ++ Rows.fnExactStemMoveSpec.plain.varTypes Tryd.prog) (ds ++ gs)).all (· ≤ reachBytes) = true := hsz0
  have hval : ∀ (j : Nat) t v, Tryd.f11.params[j]? = some t → args[j]? = some v → Value.okWide Tryd.prog W .any base t v := hval0
  have hW' := hW
  obtain ⟨p, q, hA0, hV, rfl, hfz, hnd⟩ := hW
  have hA : DataW.TrodAll enc Tryd.prog W 0 (fun _ => true) true Tryd.f11.params.toList args.toList ds p := hA0
  rw [Tryd.params11] at hA hval hsz
  obtain ⟨v0, vs0, d0, ds0, p0, q0, hargs, rfl, rfl, h0, r0⟩ := trodAll_cons hA
  obtain ⟨v1, vs1, d1, ds1, p1, q1, rfl, rfl, rfl, h1, r1⟩ := trodAll_cons r0
  obtain ⟨v2, vs2, d2, ds2, p2, q2, rfl, rfl, rfl, h2, r2⟩ := trodAll_cons r1
  obtain ⟨v3, vs3, d3, ds3, p3, q3, rfl, rfl, rfl, h3, r3⟩ := trodAll_cons r2
  obtain ⟨rfl, rfl, rfl⟩ := trodAll_nil r3
  obtain rfl : args = #[v0, v1, v2, v3] := by cases args; simp_all
  obtain ⟨rfl, rfl⟩ := trodVars_none hV
  have k0 := h0
  have lt0 : ∀ x ∈ p0, x.block < W.heap.size := by obtain ⟨m, hm⟩ := k0; exact DataW.trod_lt m _ _ _ hm
  obtain ⟨a0, len0, cap0, rfl⟩ := okWide_slice Tryd.underlying22 (hval 0 22 v0 rfl rfl)
  obtain ⟨fuel0, hf0⟩ := h0
  obtain ⟨A0, c0, l0, hcs0, hle0, hm0, hC0, hx0⟩ := Pur.open_strsR Tryd.underlying22 Tryd.underlying9 (by kernel_rfl) hf0
  simp [Value.cells] at hcs0
  obtain ⟨rfl, rfl, rfl⟩ := hcs0
  have k1 := h1
  have lt1 : ∀ x ∈ p1, x.block < W.heap.size := by obtain ⟨m, hm⟩ := k1; exact DataW.trod_lt m _ _ _ hm
  obtain ⟨a1, len1, cap1, rfl⟩ := okWide_slice Tryd.underlying29 (hval 1 29 v1 rfl rfl)
  obtain ⟨fuel1, hf1⟩ := h1
  obtain ⟨A1, c1, l1, hcs1, hle1, hm1, hC1, hx1⟩ := Pur.open_intsR Tryd.underlying29 Tryd.underlying3 (by kernel_rfl) hf1
  simp [Value.cells] at hcs1
  obtain ⟨rfl, rfl, rfl⟩ := hcs1
  have k2 := h2
  have lt2 : ∀ x ∈ p2, x.block < W.heap.size := by obtain ⟨m, hm⟩ := k2; exact DataW.trod_lt m _ _ _ hm
  obtain ⟨a2, rfl, rfl, rfl, w2⟩ := open_int Tryd.underlying3 (hval 2 3 v2 rfl rfl) h2
  have k3 := h3
  have lt3 : ∀ x ∈ p3, x.block < W.heap.size := by obtain ⟨m, hm⟩ := k3; exact DataW.trod_lt m _ _ _ hm
  obtain ⟨a3, rfl, rfl, rfl, w3⟩ := open_int Tryd.underlying3 (hval 3 3 v3 rfl rfl) h3
  clear hA0 hval0 hsz0 hsz
  obtain ⟨k, hk⟩ := Pur.exact_move l0 l1 a2 a3 hm0 hx0 hm1 hx1 w2 w3
  refine (E.laws_FnExactStemMove.calls k _ _ l0 _ _ l1 a2 a3 true W hC0 hle0 hC1 hle1 hk).mono fun e W' ⟨he, bel⟩ => ?_
  subst he
  exact ⟨_, rfl, _, _, _, [], _, [], hW', trodAll_mk1 (shut_bool Tryd.underlying4 _), (trodAll_cons_mk (Below.trod laidOut (by kernel_rfl) (of_decide_eq_true (by kernel_rfl)) k0 bel lt0) (trodAll_cons_mk (Below.trod laidOut (by kernel_rfl) (of_decide_eq_true (by kernel_rfl)) k1 bel lt1) (trodAll_cons_mk (shut_int Tryd.underlying3 w2) (trodAll_cons_mk (shut_int Tryd.underlying3 w3) trodAll_mk0)))), rfl, bel.frame _, fun h => by cases h⟩
set_option maxRecDepth 100000 in
theorem closed : joinedFacts Tryd.prog 11 Tryd.f11 Rows.fnExactStemMoveSpec Rows.fnExactStemMoveRow = true := by
  have hf : (Rows.fnExactStemMoveRow.lifted == Tryd.prog.liftsFinal) = true := by rw [Head.finE]; kernel_rfl
  have hm : (Tryd.prog.make == some Rows.fnExactStemMoveRow.make) = true := by rw [Head.makeE]; kernel_rfl
  unfold joinedFacts
  repeat' (with_reducible refine Head.and_t ?_ ?_)
  all_goals first | with_reducible exact Head.mayE | with_reducible exact hf | with_reducible exact hm | (as_aux_lemma => kernel_rfl)
theorem over : Rows.fnExactStemMoveRow.holds Tryd.pinned (OpenSpec.ofChange Rows.fnExactStemMoveSpec) :=
  OpenClaim.holds_of_wide 11 Tryd.f11 rfl rfl rfl rfl rfl rfl rfl ⟨rfl, rfl, rfl, rfl, rfl⟩ rfl rfl rfl rfl rfl (by kernel_rfl) Tryd.func11 closed
    (of_decide_eq_true (by kernel_rfl)) (by unfold Func.isWrapper; first | (rw [if_pos (by decide +kernel)]; kernel_rfl) | (rw [if_neg (by decide +kernel)]; exact ⟨rfl, rfl⟩))
    (fun os started H enc _ => lifted os started H enc)
theorem card_ : Rows.FnExactStemMoveCardSaid :=
  Claim7.holds_tied_plain_at .later [] [.data, .pinned] true (true, "a175d7172c173241a438c52cad8f2cbb84e6b24e3ac681f1c733cbb943b1f07c") false
    over (fun _ h => by cases h) (by as_aux_lemma => kernel_rfl) (fun _ h => by cases h) fnExactStemMove_row_tie rfl ⟨rfl, rfl⟩ (Head.mainE.trans (by as_aux_lemma => kernel_rfl)) rfl
    (fun f fn hf hfn => by
      obtain rfl : f = 11 := Option.some.inj ((show Tryd.prog.funcNamed "loop.example/neumes/laws.FnExactStemMove" = some 11 by kernel_rfl).symm.trans hf) |>.symm
      obtain rfl : fn = Tryd.f11 := (Option.some.inj (Tryd.func11.symm.trans hfn)).symm
      exact ⟨by kernel_rfl, fun j t ht => by
        rw [Tryd.params11] at ht
        have hm : t ∈ [22, 29, 3, 3] := by simpa using Array.mem_of_getElem? ht
        have hall : ([22, 29, 3, 3].all fun u => !Tryd.prog.wantsStandIn u) = true := by kernel_rfl
        exact (show Tryd.prog.wantsStandIn t = false by simpa using List.all_eq_true.1 hall t hm)⟩)
    (by kernel_rfl)
theorem proved : Rows.FnExactStemMoveCardSaid := card_
#print axioms proved
end Go.Proofs.YtejoneninbdjbaaDoor.fnExactStemMove
namespace Go.Proofs.YtejoneninbdjbaaDoor
theorem fnExactStemMove_holds : Rows.FnExactStemMoveCardSaid := fnExactStemMove.proved
end Go.Proofs.YtejoneninbdjbaaDoor
end
