/- Proved: for all arguments the given program's laws.FnGroupsCut returns true, and its arguments and the package-level variables that it is given read afterwards as they read before (the given constant Rows.FnGroupsCutCardSaid).
Conditions: none ahead of the given statement; the statement itself begins in a world whose listed package-level variables hold what the program's text lays there, and its card ties them to that text. -/
import Derived.Test.YtldepdaglapdeaaDoorRowFnGroupsCutK1
section
namespace Go.Proofs.YtldepdaglapdeaaDoor.E
open Go.RowKit Go.Proofs.YtldepdaglapdeaaDoorW.PrintWords Go.Proofs.YtldepdaglapdeaaDoorW.PrintLast Go.Proofs.YtldepdaglapdeaaDoorW.PrintMore
attribute [local go_sem] max2_int min2_int max_two min_two max_three min_three max_four min_four
set_option linter.unusedVariables false
set_option linter.unusedSimpArgs false
attribute [local go_sem] str_leq_ str_gtr_ str_geq_
def spec_ToneValid.f (a0_0 : Int) (a0_1 : Bool) : Option (Bool) := (spec_l6In.f a0_0 0 20).bind fun t102 => (if t102 = true then (if a0_1 = true then ((spec_l1Letter.f a0_0).bind fun t103 => (some (t103 == 2))) else (some true)) else (some false))
set_option maxHeartbeats 8000000 in
set_option maxRecDepth 100000 in
theorem spec_ToneValid.calls (a0_0 : Int) (a0_1 : Bool) (r : Bool) (w : World) (h : spec_ToneValid.f a0_0 a0_1 = some r) :
  Calls Tryd.prog 69 #[.agg #[.int .i64 a0_0, .bool a0_1]] w fun e w' => e = .returned (.bool r) ∧ Below w.heap.size w w' := by
 have hu56 := Tryd.underlying56
 have HB := Aside0.mk (Below.refl w.heap.size w)
 have H : ((spec_l6In.f a0_0 0 20).bind fun t102 => (if t102 = true then (if a0_1 = true then ((spec_l1Letter.f a0_0).bind fun t103 => (some (t103 == 2))) else (some true)) else (some false))) = some r := h
 clear h
 replace H := Option.bind_eq_some_iff.mp H
 obtain ⟨t102, A20, H⟩ := H
 replace H : (if t102 = true then (if a0_1 = true then ((spec_l1Letter.f a0_0).bind fun t103 => (some (t103 == 2))) else (some true)) else (some false)) = some r := H
 have A2 := Aside0.mk A20
 clear A20
 by_cases c3 : t102 = true
 rotate_left
 ·replace c3 := Bool.eq_false_iff.mpr c3
  subst c3
  have H1 : (some false) = some r := by rw [if_neg (show ¬ (false = true) by decide)] at H; exact H
  clear H
  have H := H1
  clear H1
  obtain rfl := Option.some.inj H
  go_enter Tryd.func69, Tryd.ntmps69
  go_wp2_with (first | ((with_reducible refine gate_dst (N := 1) rfl ?_); refine box_event ?hg (N := 1) ?hd (cs := #[.int .i64 a0_0, .bool a0_1]) (t := 56) ?hr ?_; (case hd => rfl); (case hg => rfl); (case hr => first | (go_simp; done) | (go_simp; rfl)); intro gb101 hg w10 hbox hb; have n0_ := Aside0.mk (below_step (by repeat (first | (with_reducible first | exact HB.out | apply below_alloc | apply pw_below_drewN | apply below_drew1) | exact HB.out)) hb); have n1_ := Aside0.mk (hbox); have n2_ := Aside0.mk ((by rw [hg]; exact (below_size (by repeat (first | (with_reducible first | exact HB.out | apply below_alloc | apply pw_below_drewN | apply below_drew1) | exact HB.out))) : w.heap.size ≤ gb101)); have n3_ := Aside0.mk ((by rw [hg]; exact (below_size (by repeat (first | (with_reducible first | exact HB.out | apply below_alloc | apply pw_below_drewN | apply below_drew1) | exact HB.out))) : w.heap.size ≤ gb101)); clear HB; have HB := n0_; have BK101 := n1_; have GW101 := n2_; have GE101 := n3_; clear n0_ n1_ n2_ n3_; clear hb hbox hg; have hcz11_0 : w10.cell? ⟨gb101, 0, none⟩ = some (.int .i64 a0_0) := (blk_cell BK101.out 0).trans rfl; have hcz11_1 : w10.cell? ⟨gb101, 1, none⟩ = some (.bool a0_1) := (blk_cell BK101.out 1).trans rfl; have hfz11_0 := blk_frozen BK101.out 0; have hfz11_1 := blk_frozen BK101.out 1) | ((with_reducible refine gate_callee (f := 47) rfl ?_); refine goesL_ (some 5) rfl rfl Tryd.func47 (by kernel_rfl) rfl #[.int .i64 a0_0, .int .i64 0, .int .i64 20] rfl (by (try simp only [List.map_toArray, List.map_cons, List.map_nil]); first | done | rfl | (simp only [List.length_drop, List.length_take]; rfl)) ?_; (with_reducible refine (spec_l6In.calls a0_0 0 20 false _ A2.out).mono ?_); rintro e w' ⟨rfl, ⟨nd, rfl⟩⟩; refine ⟨_, rfl, ?_⟩))
  go_ret
  exact ⟨by first | rfl | (simp [errW_none, errW_some] <;> rfl) | (simp [*, errW_none, errW_some] <;> rfl), by repeat (first | (with_reducible first | exact HB.out | apply below_alloc | apply pw_below_drewN | apply below_drew1 | refine below_set ?_ GE101.out) | exact HB.out)⟩
 subst c3
 have H1 : (if a0_1 = true then ((spec_l1Letter.f a0_0).bind fun t103 => (some (t103 == 2))) else (some true)) = some r := by rw [if_pos rfl] at H; exact H
 clear H
 have H := H1
 clear H1
 by_cases c4 : a0_1 = true
 rotate_left
 ·replace c4 := Bool.eq_false_iff.mpr c4
  subst c4
  have H1 : (some true) = some r := by rw [if_neg (show ¬ (false = true) by decide)] at H; exact H
  clear H
  have H := H1
  clear H1
  obtain rfl := Option.some.inj H
  go_enter Tryd.func69, Tryd.ntmps69
  go_wp2_with (first | ((with_reducible refine gate_dst (N := 1) rfl ?_); refine box_event ?hg (N := 1) ?hd (cs := #[.int .i64 a0_0, .bool false]) (t := 56) ?hr ?_; (case hd => rfl); (case hg => rfl); (case hr => first | (go_simp; done) | (go_simp; rfl)); intro gb101 hg w8 hbox hb; have n0_ := Aside0.mk (below_step (by repeat (first | (with_reducible first | exact HB.out | apply below_alloc | apply pw_below_drewN | apply below_drew1) | exact HB.out)) hb); have n1_ := Aside0.mk (hbox); have n2_ := Aside0.mk ((by rw [hg]; exact (below_size (by repeat (first | (with_reducible first | exact HB.out | apply below_alloc | apply pw_below_drewN | apply below_drew1) | exact HB.out))) : w.heap.size ≤ gb101)); have n3_ := Aside0.mk ((by rw [hg]; exact (below_size (by repeat (first | (with_reducible first | exact HB.out | apply below_alloc | apply pw_below_drewN | apply below_drew1) | exact HB.out))) : w.heap.size ≤ gb101)); clear HB; have HB := n0_; have BK101 := n1_; have GW101 := n2_; have GE101 := n3_; clear n0_ n1_ n2_ n3_; clear hb hbox hg; have hcz9_0 : w8.cell? ⟨gb101, 0, none⟩ = some (.int .i64 a0_0) := (blk_cell BK101.out 0).trans rfl; have hcz9_1 : w8.cell? ⟨gb101, 1, none⟩ = some (.bool false) := (blk_cell BK101.out 1).trans rfl; have hfz9_0 := blk_frozen BK101.out 0; have hfz9_1 := blk_frozen BK101.out 1) | ((with_reducible refine gate_callee (f := 47) rfl ?_); refine goesL_ (some 5) rfl rfl Tryd.func47 (by kernel_rfl) rfl #[.int .i64 a0_0, .int .i64 0, .int .i64 20] rfl (by (try simp only [List.map_toArray, List.map_cons, List.map_nil]); first | done | rfl | (simp only [List.length_drop, List.length_take]; rfl)) ?_; (with_reducible refine (spec_l6In.calls a0_0 0 20 true _ A2.out).mono ?_); rintro e w' ⟨rfl, ⟨nd, rfl⟩⟩; refine ⟨_, rfl, ?_⟩))
  go_ret
  exact ⟨by first | rfl | (simp [errW_none, errW_some] <;> rfl) | (simp [*, errW_none, errW_some] <;> rfl), by repeat (first | (with_reducible first | exact HB.out | apply below_alloc | apply pw_below_drewN | apply below_drew1 | refine below_set ?_ GE101.out) | exact HB.out)⟩
 subst c4
 have H1 : ((spec_l1Letter.f a0_0).bind fun t103 => (some (t103 == 2))) = some r := by rw [if_pos rfl] at H; exact H
 clear H
 have H := H1
 clear H1
 replace H := Option.bind_eq_some_iff.mp H
 obtain ⟨t103, A50, H⟩ := H
 replace H : (some (t103 == 2)) = some r := H
 have A5 := Aside0.mk A50
 clear A50
 obtain rfl := Option.some.inj H
 go_enter Tryd.func69, Tryd.ntmps69
 go_wp2_with (first | ((with_reducible refine gate_dst (N := 1) rfl ?_); refine box_event ?hg (N := 1) ?hd (cs := #[.int .i64 a0_0, .bool true]) (t := 56) ?hr ?_; (case hd => rfl); (case hg => rfl); (case hr => first | (go_simp; done) | (go_simp; rfl)); intro gb101 hg w6 hbox hb; have n0_ := Aside0.mk (below_step (by repeat (first | (with_reducible first | exact HB.out | apply below_alloc | apply pw_below_drewN | apply below_drew1) | exact HB.out)) hb); have n1_ := Aside0.mk (hbox); have n2_ := Aside0.mk ((by rw [hg]; exact (below_size (by repeat (first | (with_reducible first | exact HB.out | apply below_alloc | apply pw_below_drewN | apply below_drew1) | exact HB.out))) : w.heap.size ≤ gb101)); have n3_ := Aside0.mk ((by rw [hg]; exact (below_size (by repeat (first | (with_reducible first | exact HB.out | apply below_alloc | apply pw_below_drewN | apply below_drew1) | exact HB.out))) : w.heap.size ≤ gb101)); clear HB; have HB := n0_; have BK101 := n1_; have GW101 := n2_; have GE101 := n3_; clear n0_ n1_ n2_ n3_; clear hb hbox hg; have hcz7_0 : w6.cell? ⟨gb101, 0, none⟩ = some (.int .i64 a0_0) := (blk_cell BK101.out 0).trans rfl; have hcz7_1 : w6.cell? ⟨gb101, 1, none⟩ = some (.bool true) := (blk_cell BK101.out 1).trans rfl; have hfz7_0 := blk_frozen BK101.out 0; have hfz7_1 := blk_frozen BK101.out 1) | ((with_reducible refine gate_callee (f := 47) rfl ?_); refine goesL_ (some 5) rfl rfl Tryd.func47 (by kernel_rfl) rfl #[.int .i64 a0_0, .int .i64 0, .int .i64 20] rfl (by (try simp only [List.map_toArray, List.map_cons, List.map_nil]); first | done | rfl | (simp only [List.length_drop, List.length_take]; rfl)) ?_; (with_reducible refine (spec_l6In.calls a0_0 0 20 true _ A2.out).mono ?_); rintro e w' ⟨rfl, ⟨nd, rfl⟩⟩; refine ⟨_, rfl, ?_⟩) | (go_at_call 76; (with_reducible refine (spec_l1Letter.calls a0_0 t103 _ A5.out).mono ?_); rintro e w' ⟨rfl, ⟨nd, rfl⟩⟩))
 go_ret
 exact ⟨by first | rfl | (simp [errW_none, errW_some] <;> rfl) | (simp [*, errW_none, errW_some] <;> rfl), by repeat (first | (with_reducible first | exact HB.out | apply below_alloc | apply pw_below_drewN | apply below_drew1 | refine below_set ?_ GE101.out) | exact HB.out)⟩
end Go.Proofs.YtldepdaglapdeaaDoor.E
end
section
namespace Go.Proofs.YtldepdaglapdeaaDoor.E
open Go.RowKit Go.Proofs.YtldepdaglapdeaaDoorW.PrintWords Go.Proofs.YtldepdaglapdeaaDoorW.PrintLast Go.Proofs.YtldepdaglapdeaaDoorW.PrintMore
attribute [local go_sem] max2_int min2_int max_two min_two max_three min_three max_four min_four
set_option linter.unusedVariables false
set_option linter.unusedSimpArgs false
attribute [local go_sem] str_leq_ str_gtr_ str_geq_
def spec_MelodyValid.l0 : Nat → List (S56) → Int → Option (Bool)
 | 0, _, _ => none
 | k + 1, x0, x3 => if x3 < (x0.length : Int) then (if 0 ≤ x3 then ((spec_ToneValid.f ((rd_T56 x0 x3).f0) ((rd_T56 x0 x3).f1)).bind fun t105 => (if t105 = true then (spec_MelodyValid.l0 k x0 (wrap64 (x3 + 1))) else (some false))) else (none)) else (some (decide ((x0.length : Int) ≤ 24)))
def spec_MelodyValid.f (k : Nat) (l0 : List (S56)) : Option (Bool) := spec_MelodyValid.l0 k l0 0
set_option maxHeartbeats 8000000 in
set_option maxRecDepth 100000 in
theorem spec_MelodyValid.calls (k : Nat) (A0 : Option Addr) (c0 : Nat) (l0 : List (S56)) (r : Bool) (w : World) (hr0 : Kd.C k56 w A0 l0.length l0) (hc0 : l0.length ≤ c0) (h : spec_MelodyValid.f k l0 = some r) :
  Calls Tryd.prog 57 #[.slice A0 l0.length c0] w fun e w' => e = .returned (.bool r) ∧ Below w.heap.size w w' := by
 have hu56 := Tryd.underlying56
 have HR0 := Aside0.mk hr0
 have HC0 := Aside0.mk hc0
 clear hr0 hc0
 have HB := Aside0.mk (Below.refl w.heap.size w)
 have H : (spec_MelodyValid.l0 k l0 0) = some r := h
 clear h
 have H' := Aside0.mk H
 clear H
 go_enter Tryd.func57, Tryd.ntmps57
 go_wp2
 go_loopg [3] k (fun kq v3 w' => ∃ (x3_1 : Int), v3 = .int .i64 x3_1 ∧ Aside0 (spec_MelodyValid.l0 kq l0 x3_1 = some r) ∧ Aside0 (kq ≤ k) ∧ Aside0 (Below w.heap.size w w'))
 case atStart => exact ⟨(0), (by first | rfl | (simp; done) | (simp [*]; done)), H', ⟨Nat.le_refl _⟩, ⟨by repeat (first | (with_reducible first | exact HB.out | apply below_alloc | apply pw_below_drewN | apply below_drew1) | exact HB.out)⟩⟩
 case round =>
  clear H'
  obtain ⟨x3_1, rfl, HA, HK1, HB⟩ := hrel
  cases gk with
  | zero => exact absurd HA.out (by simp [spec_MelodyValid.l0])
  | succ k1 =>
   have H := HA.out
   clear HA
   simp only [spec_MelodyValid.l0] at H
   by_cases c2 : x3_1 < (l0.length : Int)
   rotate_left
   ·rw [if_neg c2] at H
    have c2b0 : decide (x3_1 < (l0.length : Int)) = false := decide_eq_false c2
    clear c2
    obtain rfl := Option.some.inj H
    go_wp2
    go_ret
    exact ⟨by first | rfl | (simp [errW_none, errW_some] <;> rfl) | (simp [*, errW_none, errW_some] <;> rfl), by repeat (first | (with_reducible first | exact HB.out | apply below_alloc | apply pw_below_drewN | apply below_drew1) | exact HB.out)⟩
   rw [if_pos c2] at H
   have c2b0 : decide (x3_1 < (l0.length : Int)) = true := decide_eq_true c2
   clear c2
   by_cases c3 : 0 ≤ x3_1
   rotate_left
   ·rw [if_neg c3] at H
    exact absurd H (by simp)
   rw [if_pos c3] at H
   have c3b0 : decide (0 ≤ x3_1) = true := decide_eq_true c3
   clear c3
   replace H := Option.bind_eq_some_iff.mp H
   obtain ⟨t105, A40, H⟩ := H
   replace H : (if t105 = true then (spec_MelodyValid.l0 k1 l0 (wrap64 (x3_1 + 1))) else (some false)) = some r := H
   have A4 := Aside0.mk A40
   clear A40
   by_cases c5 : t105 = true
   rotate_left
   ·replace c5 := Bool.eq_false_iff.mpr c5
    subst c5
    have H1 : (some false) = some r := by rw [if_neg (show ¬ (false = true) by decide)] at H; exact H
    clear H
    have H := H1
    clear H1
    obtain rfl := Option.some.inj H
    have p104 : 0 ≤ (x3_1 : Int) := of_decide_eq_true (by first | (with_reducible assumption) | assumption)
    have q104 : x3_1 < (l0.length : Int) := of_decide_eq_true (by first | (with_reducible assumption) | assumption)
    obtain ⟨ad104, e104, hx104_0, hx104_1⟩ := at_T56 HR0.out x3_1 p104 q104
    cases e104
    replace hx104_0 := (HB.out.cell (World.block_lt_of_cell? w _ hx104_0)).trans hx104_0
    replace hx104_1 := (HB.out.cell (World.block_lt_of_cell? w _ hx104_1)).trans hx104_1
    replace p104 := eq_true p104
    replace q104 := eq_true q104
    go_wp2_with (first | ((with_reducible refine gate_callee (f := 69) rfl ?_); refine goesL_ (some 14) rfl rfl Tryd.func69 (by kernel_rfl) rfl #[.agg #[.int .i64 ((rd_T56 l0 x3_1).f0), .bool ((rd_T56 l0 x3_1).f1)]] rfl (by (try simp only [List.map_toArray, List.map_cons, List.map_nil]); first | done | rfl | (simp only [List.length_drop, List.length_take]; rfl)) ?_; (with_reducible refine (spec_ToneValid.calls ((rd_T56 l0 x3_1).f0) ((rd_T56 l0 x3_1).f1) false _ A4.out).mono ?_); rintro e w7 ⟨rfl, hb⟩; refine ⟨_, rfl, ?_⟩; have n0_ := Aside0.mk (below_step (by repeat (first | (with_reducible first | exact HB.out | apply below_alloc | apply pw_below_drewN | apply below_drew1) | exact HB.out)) hb); clear HB; have HB := n0_; clear n0_; (try clear hb); (try clear hb2); (try clear hk); (try clear hi)))
    go_ret
    exact ⟨by first | rfl | (simp [errW_none, errW_some] <;> rfl) | (simp [*, errW_none, errW_some] <;> rfl), by repeat (first | (with_reducible first | exact HB.out | apply below_alloc | apply pw_below_drewN | apply below_drew1) | exact HB.out)⟩
   subst c5
   have H1 : (spec_MelodyValid.l0 k1 l0 (wrap64 (x3_1 + 1))) = some r := by rw [if_pos rfl] at H; exact H
   clear H
   have H := H1
   clear H1
   have H' := Aside0.mk H
   clear H
   have p104 : 0 ≤ (x3_1 : Int) := of_decide_eq_true (by first | (with_reducible assumption) | assumption)
   have q104 : x3_1 < (l0.length : Int) := of_decide_eq_true (by first | (with_reducible assumption) | assumption)
   obtain ⟨ad104, e104, hx104_0, hx104_1⟩ := at_T56 HR0.out x3_1 p104 q104
   cases e104
   replace hx104_0 := (HB.out.cell (World.block_lt_of_cell? w _ hx104_0)).trans hx104_0
   replace hx104_1 := (HB.out.cell (World.block_lt_of_cell? w _ hx104_1)).trans hx104_1
   replace p104 := eq_true p104
   replace q104 := eq_true q104
   go_wp2_with (first | ((with_reducible refine gate_callee (f := 69) rfl ?_); refine goesL_ (some 14) rfl rfl Tryd.func69 (by kernel_rfl) rfl #[.agg #[.int .i64 ((rd_T56 l0 x3_1).f0), .bool ((rd_T56 l0 x3_1).f1)]] rfl (by (try simp only [List.map_toArray, List.map_cons, List.map_nil]); first | done | rfl | (simp only [List.length_drop, List.length_take]; rfl)) ?_; (with_reducible refine (spec_ToneValid.calls ((rd_T56 l0 x3_1).f0) ((rd_T56 l0 x3_1).f1) true _ A4.out).mono ?_); rintro e w6 ⟨rfl, hb⟩; refine ⟨_, rfl, ?_⟩; have n0_ := Aside0.mk (below_step (by repeat (first | (with_reducible first | exact HB.out | apply below_alloc | apply pw_below_drewN | apply below_drew1) | exact HB.out)) hb); clear HB; have HB := n0_; clear n0_; (try clear hb); (try clear hb2); (try clear hk); (try clear hi)))
   go_roundg k1
   case measure => have := HK1.out; omega
   case rel => exact ⟨(wrap64 (x3_1 + 1)), (by first | rfl | (simp; done) | (simp [*]; done)), H', ⟨by have := HK1.out; omega⟩, ⟨by repeat (first | (with_reducible first | exact HB.out | apply below_alloc | apply pw_below_drewN | apply below_drew1) | exact HB.out)⟩⟩
end Go.Proofs.YtldepdaglapdeaaDoor.E
end
section
namespace Go.Proofs.YtldepdaglapdeaaDoor.E
open Go.RowKit Go.Proofs.YtldepdaglapdeaaDoorW.PrintWords Go.Proofs.YtldepdaglapdeaaDoorW.PrintLast Go.Proofs.YtldepdaglapdeaaDoorW.PrintMore
attribute [local go_sem] max2_int min2_int max_two min_two max_three min_three max_four min_four
set_option linter.unusedVariables false
set_option linter.unusedSimpArgs false
attribute [local go_sem] str_leq_ str_gtr_ str_geq_
mutual
def spec_GroupsValid.j0 : Nat → List (S56) → List (S42) → Bool → Option (Bool)
 | 0, _, _, _ => none
 | k + 1, x0, x1, x14 => if x14 = true then (some false) else (spec_GroupsValid.l0 k x0 x1 0 0)
def spec_GroupsValid.l0 : Nat → List (S56) → List (S42) → Int → Int → Option (Bool)
 | 0, _, _, _, _ => none
 | k + 1, x0, x1, x5, x6 => if x6 < (x1.length : Int) then (if 0 ≤ x6 then ((spec_l6In.f ((rd_T42 x1 x6).f0) 1 4).bind fun t108 => (if t108 = true then (spec_GroupsValid.l0 k x0 x1 (wrap64 (x5 + ((rd_T42 x1 x6).f0))) (wrap64 (x6 + 1))) else (some false))) else (none)) else (some (x5 == (x0.length : Int)))
end
def spec_GroupsValid.f (k : Nat) (l0 : List (S56)) (l1 : List (S42)) : Option (Bool) := (spec_MelodyValid.f k l0).bind fun t106 => (if t106 = true then (spec_GroupsValid.j0 k l0 l1 (decide ((l1.length : Int) > 24))) else (spec_GroupsValid.j0 k l0 l1 true))
set_option maxHeartbeats 8000000 in
set_option maxRecDepth 100000 in
theorem spec_GroupsValid.calls (k : Nat) (A0 : Option Addr) (c0 : Nat) (l0 : List (S56)) (A1 : Option Addr) (c1 : Nat) (l1 : List (S42)) (r : Bool) (w : World) (hr0 : Kd.C k56 w A0 l0.length l0) (hc0 : l0.length ≤ c0) (hr1 : Kd.C k42 w A1 l1.length l1) (hc1 : l1.length ≤ c1) (h : spec_GroupsValid.f k l0 l1 = some r) :
  Calls Tryd.prog 32 #[.slice A0 l0.length c0, .slice A1 l1.length c1] w fun e w' => e = .returned (.bool r) ∧ Below w.heap.size w w' := by
 have HR0 := Aside0.mk hr0
 have HC0 := Aside0.mk hc0
 clear hr0 hc0
 have HR1 := Aside0.mk hr1
 have HC1 := Aside0.mk hc1
 clear hr1 hc1
 have HB := Aside0.mk (Below.refl w.heap.size w)
 have H : ((spec_MelodyValid.f k l0).bind fun t106 => (if t106 = true then (spec_GroupsValid.j0 k l0 l1 (decide ((l1.length : Int) > 24))) else (spec_GroupsValid.j0 k l0 l1 true))) = some r := h
 clear h
 have HC3 := Aside0.mk H
 clear H
 go_enter Tryd.func32, Tryd.ntmps32
 go_upto_region 1 with (fail)
 go_cut [14] (fun v14 wc => ∃ (kq : Nat) (x14_2 : Bool), v14 = .bool x14_2 ∧ Aside0 (spec_GroupsValid.j0 kq l0 l1 x14_2 = some r) ∧ Aside0 (kq ≤ k) ∧ Aside0 (Below w.heap.size w wc))
 case first =>
  have H := HC3.out
  clear HC3
  replace H := Option.bind_eq_some_iff.mp H
  obtain ⟨t106, A40, H⟩ := H
  replace H : (if t106 = true then (spec_GroupsValid.j0 k l0 l1 (decide ((l1.length : Int) > 24))) else (spec_GroupsValid.j0 k l0 l1 true)) = some r := H
  have A4 := Aside0.mk A40
  clear A40
  by_cases c5 : t106 = true
  ·subst c5
   have H1 : (spec_GroupsValid.j0 k l0 l1 (decide ((l1.length : Int) > 24))) = some r := by rw [if_pos rfl] at H; exact H
   clear H
   have H := H1
   clear H1
   have H' := Aside0.mk H
   clear H
   go_wp2_with (first | ((with_reducible refine gate_callee (f := 57) rfl ?_); refine goesL_ (some 8) rfl rfl Tryd.func57 (by kernel_rfl) rfl #[.slice A0 l0.length c0] rfl (by (try simp only [List.map_toArray, List.map_cons, List.map_nil]); first | done | rfl | (simp only [List.length_drop, List.length_take]; rfl)) ?_; (with_reducible refine (spec_MelodyValid.calls k _ _ l0 true _ ?side1 ?side2 A4.out).mono ?_); (case side1 => repeat (first | exact (Kd.C_below HR0.out HB.out) | (with_reducible refine Kd.C_alloc ?_ _) | (with_reducible refine Kd.C_drewN ?_ _) | (with_reducible refine Kd.C_drew ?_))); (case side2 => exact HC0.out); rintro e w6 ⟨rfl, hb⟩; refine ⟨_, rfl, ?_⟩; have n0_ := Aside0.mk (below_step (by repeat (first | (with_reducible first | exact HB.out | apply below_alloc | apply pw_below_drewN | apply below_drew1) | exact HB.out)) hb); clear HB; have HB := n0_; clear n0_; (try clear hb); (try clear hb2); (try clear hk); (try clear hi)))
   go_meet
   case rel => exact ⟨_, (decide ((l1.length : Int) > 24)), (by first | rfl | (simp; done) | (simp [*]; done)), H', ⟨by first | omega | exact Nat.le_refl _⟩, ⟨by repeat (first | (with_reducible first | exact HB.out | apply below_alloc | apply pw_below_drewN | apply below_drew1) | exact HB.out)⟩⟩
  replace c5 := Bool.eq_false_iff.mpr c5
  subst c5
  have H1 : (spec_GroupsValid.j0 k l0 l1 true) = some r := by rw [if_neg (show ¬ (false = true) by decide)] at H; exact H
  clear H
  have H := H1
  clear H1
  have H' := Aside0.mk H
  clear H
  go_wp2_with (first | ((with_reducible refine gate_callee (f := 57) rfl ?_); refine goesL_ (some 8) rfl rfl Tryd.func57 (by kernel_rfl) rfl #[.slice A0 l0.length c0] rfl (by (try simp only [List.map_toArray, List.map_cons, List.map_nil]); first | done | rfl | (simp only [List.length_drop, List.length_take]; rfl)) ?_; (with_reducible refine (spec_MelodyValid.calls k _ _ l0 false _ ?side1 ?side2 A4.out).mono ?_); (case side1 => repeat (first | exact (Kd.C_below HR0.out HB.out) | (with_reducible refine Kd.C_alloc ?_ _) | (with_reducible refine Kd.C_drewN ?_ _) | (with_reducible refine Kd.C_drew ?_))); (case side2 => exact HC0.out); rintro e w7 ⟨rfl, hb⟩; refine ⟨_, rfl, ?_⟩; have n0_ := Aside0.mk (below_step (by repeat (first | (with_reducible first | exact HB.out | apply below_alloc | apply pw_below_drewN | apply below_drew1) | exact HB.out)) hb); clear HB; have HB := n0_; clear n0_; (try clear hb); (try clear hb2); (try clear hk); (try clear hi)))
  go_meet
  case rel => exact ⟨_, (true), (by first | rfl | (simp; done) | (simp [*]; done)), H', ⟨by first | omega | exact Nat.le_refl _⟩, ⟨by repeat (first | (with_reducible first | exact HB.out | apply below_alloc | apply pw_below_drewN | apply below_drew1) | exact HB.out)⟩⟩
 case rest =>
  clear HC3
  try clear c1
  try clear p2
  try clear c3
  try clear c5
  obtain ⟨kq, x14_2, rfl, HA, HJ2, HB⟩ := hcut
  cases kq with
  | zero => exact absurd HA.out (by simp [spec_GroupsValid.j0])
  | succ kj2 =>
   have H := HA.out
   clear HA
   simp only [spec_GroupsValid.j0] at H
   by_cases c8 : x14_2 = true
   ·subst c8
    have H1 : (some false) = some r := by rw [if_pos rfl] at H; exact H
    clear H
    have H := H1
    clear H1
    obtain rfl := Option.some.inj H
    go_wp2
    go_ret
    exact ⟨by first | rfl | (simp [errW_none, errW_some] <;> rfl) | (simp [*, errW_none, errW_some] <;> rfl), by repeat (first | (with_reducible first | exact HB.out | apply below_alloc | apply pw_below_drewN | apply below_drew1) | exact HB.out)⟩
   replace c8 := Bool.eq_false_iff.mpr c8
   subst c8
   have H1 : (spec_GroupsValid.l0 kj2 l0 l1 0 0) = some r := by rw [if_neg (show ¬ (false = true) by decide)] at H; exact H
   clear H
   have H := H1
   clear H1
   have H' := Aside0.mk H
   clear H
   go_wp2
   go_loopg [5, 6] kj2 (fun kq v5 v6 w' => ∃ (x5_2 : Int) (x6_2 : Int), v5 = .int .i64 x5_2 ∧ v6 = .int .i64 x6_2 ∧ Aside0 (spec_GroupsValid.l0 kq l0 l1 x5_2 x6_2 = some r) ∧ Aside0 (kq ≤ kj2) ∧ Aside0 (Below w.heap.size w w'))
   case atStart => exact ⟨(0), (0), (by first | rfl | (simp; done) | (simp [*]; done)), (by first | rfl | (simp; done) | (simp [*]; done)), H', ⟨Nat.le_refl _⟩, ⟨by repeat (first | (with_reducible first | exact HB.out | apply below_alloc | apply pw_below_drewN | apply below_drew1) | exact HB.out)⟩⟩
   case round =>
    clear H'
    try clear c1
    try clear p2
    try clear c3
    try clear c5
    try clear c8
    try clear p2
    obtain ⟨x5_2, x6_2, rfl, rfl, HA, HK2, HB⟩ := hrel
    cases gk with
    | zero => exact absurd HA.out (by simp [spec_GroupsValid.l0])
    | succ k2 =>
     have H := HA.out
     clear HA
     simp only [spec_GroupsValid.l0] at H
     by_cases c9 : x6_2 < (l1.length : Int)
     rotate_left
     ·rw [if_neg c9] at H
      have c9b0 : decide (x6_2 < (l1.length : Int)) = false := decide_eq_false c9
      clear c9
      obtain rfl := Option.some.inj H
      go_wp2
      go_ret
      exact ⟨by first | rfl | (simp [errW_none, errW_some] <;> rfl) | (simp [*, errW_none, errW_some] <;> rfl), by repeat (first | (with_reducible first | exact HB.out | apply below_alloc | apply pw_below_drewN | apply below_drew1) | exact HB.out)⟩
     rw [if_pos c9] at H
     have c9b0 : decide (x6_2 < (l1.length : Int)) = true := decide_eq_true c9
     clear c9
     by_cases c10 : 0 ≤ x6_2
     rotate_left
     ·rw [if_neg c10] at H
      exact absurd H (by simp)
     rw [if_pos c10] at H
     have c10b0 : decide (0 ≤ x6_2) = true := decide_eq_true c10
     clear c10
     replace H := Option.bind_eq_some_iff.mp H
     obtain ⟨t108, A110, H⟩ := H
     replace H : (if t108 = true then (spec_GroupsValid.l0 k2 l0 l1 (wrap64 (x5_2 + ((rd_T42 l1 x6_2).f0))) (wrap64 (x6_2 + 1))) else (some false)) = some r := H
     have A11 := Aside0.mk A110
     clear A110
     by_cases c12 : t108 = true
     rotate_left
     ·replace c12 := Bool.eq_false_iff.mpr c12
      subst c12
      have H1 : (some false) = some r := by rw [if_neg (show ¬ (false = true) by decide)] at H; exact H
      clear H
      have H := H1
      clear H1
      obtain rfl := Option.some.inj H
      have p107 : 0 ≤ (x6_2 : Int) := of_decide_eq_true (by first | (with_reducible assumption) | assumption)
      have q107 : x6_2 < (l1.length : Int) := of_decide_eq_true (by first | (with_reducible assumption) | assumption)
      obtain ⟨ad107, e107, hx107_0, hx107_1⟩ := at_T42 HR1.out x6_2 p107 q107
      cases e107
      replace hx107_0 := (HB.out.cell (World.block_lt_of_cell? w _ hx107_0)).trans hx107_0
      replace hx107_1 := (HB.out.cell (World.block_lt_of_cell? w _ hx107_1)).trans hx107_1
      replace p107 := eq_true p107
      replace q107 := eq_true q107
      go_wp2_with (first | ((with_reducible refine gate_callee (f := 47) rfl ?_); refine goesL_ (some 26) rfl rfl Tryd.func47 (by kernel_rfl) rfl #[.int .i64 ((rd_T42 l1 x6_2).f0), .int .i64 1, .int .i64 4] rfl (by (try simp only [List.map_toArray, List.map_cons, List.map_nil]); first | done | rfl | (simp only [List.length_drop, List.length_take]; rfl)) ?_; (with_reducible refine (spec_l6In.calls ((rd_T42 l1 x6_2).f0) 1 4 false _ A11.out).mono ?_); rintro e w' ⟨rfl, ⟨nd, rfl⟩⟩; refine ⟨_, rfl, ?_⟩))
      go_ret
      exact ⟨by first | rfl | (simp [errW_none, errW_some] <;> rfl) | (simp [*, errW_none, errW_some] <;> rfl), by repeat (first | (with_reducible first | exact HB.out | apply below_alloc | apply pw_below_drewN | apply below_drew1) | exact HB.out)⟩
     subst c12
     have H1 : (spec_GroupsValid.l0 k2 l0 l1 (wrap64 (x5_2 + ((rd_T42 l1 x6_2).f0))) (wrap64 (x6_2 + 1))) = some r := by rw [if_pos rfl] at H; exact H
     clear H
     have H := H1
     clear H1
     have H' := Aside0.mk H
     clear H
     have p107 : 0 ≤ (x6_2 : Int) := of_decide_eq_true (by first | (with_reducible assumption) | assumption)
     have q107 : x6_2 < (l1.length : Int) := of_decide_eq_true (by first | (with_reducible assumption) | assumption)
     obtain ⟨ad107, e107, hx107_0, hx107_1⟩ := at_T42 HR1.out x6_2 p107 q107
     cases e107
     replace hx107_0 := (HB.out.cell (World.block_lt_of_cell? w _ hx107_0)).trans hx107_0
     replace hx107_1 := (HB.out.cell (World.block_lt_of_cell? w _ hx107_1)).trans hx107_1
     replace p107 := eq_true p107
     replace q107 := eq_true q107
     go_wp2_with (first | ((with_reducible refine gate_callee (f := 47) rfl ?_); refine goesL_ (some 26) rfl rfl Tryd.func47 (by kernel_rfl) rfl #[.int .i64 ((rd_T42 l1 x6_2).f0), .int .i64 1, .int .i64 4] rfl (by (try simp only [List.map_toArray, List.map_cons, List.map_nil]); first | done | rfl | (simp only [List.length_drop, List.length_take]; rfl)) ?_; (with_reducible refine (spec_l6In.calls ((rd_T42 l1 x6_2).f0) 1 4 true _ A11.out).mono ?_); rintro e w' ⟨rfl, ⟨nd, rfl⟩⟩; refine ⟨_, rfl, ?_⟩; have p109 : 0 ≤ (x6_2 : Int) := of_decide_eq_true (by first | (with_reducible assumption) | assumption); have q109 : x6_2 < (l1.length : Int) := of_decide_eq_true (by first | (with_reducible assumption) | assumption); obtain ⟨ad109, e109, hx109_0, hx109_1⟩ := at_T42 HR1.out x6_2 p109 q109; obtain rfl : ad107 = ad109 := (by injection e109); replace hx109_0 := (HB.out.cell (World.block_lt_of_cell? w _ hx109_0)).trans hx109_0; replace hx109_1 := (HB.out.cell (World.block_lt_of_cell? w _ hx109_1)).trans hx109_1; replace p109 := eq_true p109; replace q109 := eq_true q109))
     go_roundg k2
     case measure => have := HJ2.out; have := HK2.out; omega
     case rel => exact ⟨(wrap64 (x5_2 + ((rd_T42 l1 x6_2).f0))), (wrap64 (x6_2 + 1)), (by first | rfl | (simp; done) | (simp [*]; done)), (by first | rfl | (simp; done) | (simp [*]; done)), H', ⟨by have := HJ2.out; have := HK2.out; omega⟩, ⟨by repeat (first | (with_reducible first | exact HB.out | apply below_alloc | apply pw_below_drewN | apply below_drew1) | exact HB.out)⟩⟩
end Go.Proofs.YtldepdaglapdeaaDoor.E
end
section
namespace Go.Proofs.YtldepdaglapdeaaDoor.E
open Go.RowKit Go.Proofs.YtldepdaglapdeaaDoorW.PrintWords Go.Proofs.YtldepdaglapdeaaDoorW.PrintLast Go.Proofs.YtldepdaglapdeaaDoorW.PrintMore
attribute [local go_sem] max2_int min2_int max_two min_two max_three min_three max_four min_four
set_option linter.unusedVariables false
set_option linter.unusedSimpArgs false
attribute [local go_sem] str_leq_ str_gtr_ str_geq_
def spec_l3Begin.l0 : Nat → List (S42) → Int → Int → Int → Option (Int)
 | 0, _, _, _, _ => none
 | k + 1, x0, x1, x5, x6 => if x6 < x1 then (if 0 ≤ x6 then (if x6 < (x0.length : Int) then (spec_l3Begin.l0 k x0 x1 (wrap64 (x5 + ((rd_T42 x0 x6).f0))) (wrap64 (x6 + 1))) else (none)) else (none)) else (some x5)
def spec_l3Begin.f (k : Nat) (l0 : List (S42)) (a1 : Int) : Option (Int) := spec_l3Begin.l0 k l0 a1 0 0
set_option maxHeartbeats 8000000 in
set_option maxRecDepth 100000 in
theorem spec_l3Begin.calls (k : Nat) (A0 : Option Addr) (c0 : Nat) (l0 : List (S42)) (a1 : Int) (r : Int) (w : World) (hr0 : Kd.C k42 w A0 l0.length l0) (hc0 : l0.length ≤ c0) (h : spec_l3Begin.f k l0 a1 = some r) :
  Calls Tryd.prog 33 #[.slice A0 l0.length c0, .int .i64 a1] w fun e w' => e = .returned (.int .i64 r) ∧ Drawn0 w w' := by
 have HR0 := Aside0.mk hr0
 have HC0 := Aside0.mk hc0
 clear hr0 hc0
 have H : (spec_l3Begin.l0 k l0 a1 0 0) = some r := h
 clear h
 have H' := Aside0.mk H
 clear H
 go_enter Tryd.func33, Tryd.ntmps33
 go_wp2
 go_loopg [5, 6] k (fun kq v5 v6 w' => ∃ (x5_1 : Int) (x6_1 : Int), v5 = .int .i64 x5_1 ∧ v6 = .int .i64 x6_1 ∧ Aside0 (spec_l3Begin.l0 kq l0 a1 x5_1 x6_1 = some r) ∧ Aside0 (kq ≤ k) ∧ Drawn0 w w')
 case atStart => exact ⟨(0), (0), (by first | rfl | (simp; done) | (simp [*]; done)), (by first | rfl | (simp; done) | (simp [*]; done)), H', ⟨Nat.le_refl _⟩, by repeat (first | exact Drawn0.refl _ | apply Drawn0.step)⟩
 case round =>
  clear H'
  try clear p2
  obtain ⟨x5_1, x6_1, rfl, rfl, HA, HK1, ⟨m1, rfl⟩⟩ := hrel
  cases gk with
  | zero => exact absurd HA.out (by simp [spec_l3Begin.l0])
  | succ k1 =>
   have H := HA.out
   clear HA
   simp only [spec_l3Begin.l0] at H
   by_cases c3 : x6_1 < a1
   rotate_left
   ·rw [if_neg c3] at H
    have c3b0 : decide (x6_1 < a1) = false := decide_eq_false c3
    clear c3
    obtain rfl := Option.some.inj H
    go_wp2
    go_ret
    exact ⟨by first | rfl | (simp; done) | (simp [*]; done), by repeat (first | exact Drawn0.refl _ | apply Drawn0.step)⟩
   rw [if_pos c3] at H
   have c3b0 : decide (x6_1 < a1) = true := decide_eq_true c3
   clear c3
   by_cases c4 : 0 ≤ x6_1
   rotate_left
   ·rw [if_neg c4] at H
    exact absurd H (by simp)
   rw [if_pos c4] at H
   have c4b0 : decide (0 ≤ x6_1) = true := decide_eq_true c4
   clear c4
   by_cases c5 : x6_1 < (l0.length : Int)
   rotate_left
   ·rw [if_neg c5] at H
    exact absurd H (by simp)
   rw [if_pos c5] at H
   have c5b0 : decide (x6_1 < (l0.length : Int)) = true := decide_eq_true c5
   clear c5
   have H' := Aside0.mk H
   clear H
   have p110 : 0 ≤ (x6_1 : Int) := of_decide_eq_true (by first | (with_reducible assumption) | assumption)
   have q110 : x6_1 < (l0.length : Int) := of_decide_eq_true (by first | (with_reducible assumption) | assumption)
   obtain ⟨ad110, e110, hx110_0, hx110_1⟩ := at_T42 HR0.out x6_1 p110 q110
   cases e110
   replace p110 := eq_true p110
   replace q110 := eq_true q110
   go_wp2
   go_roundg k1
   case measure => have := HK1.out; omega
   case rel => exact ⟨(wrap64 (x5_1 + ((rd_T42 l0 x6_1).f0))), (wrap64 (x6_1 + 1)), (by first | rfl | (simp; done) | (simp [*]; done)), (by first | rfl | (simp; done) | (simp [*]; done)), H', ⟨by have := HK1.out; omega⟩, by repeat (first | exact Drawn0.refl _ | apply Drawn0.step)⟩
end Go.Proofs.YtldepdaglapdeaaDoor.E
end
section
namespace Go.Proofs.YtldepdaglapdeaaDoor.E
open Go.RowKit Go.Proofs.YtldepdaglapdeaaDoorW.PrintWords Go.Proofs.YtldepdaglapdeaaDoorW.PrintLast Go.Proofs.YtldepdaglapdeaaDoorW.PrintMore
attribute [local go_sem] max2_int min2_int max_two min_two max_three min_three max_four min_four
set_option linter.unusedVariables false
set_option linter.unusedSimpArgs false
attribute [local go_sem] str_leq_ str_gtr_ str_geq_
def spec_GroupsCut.f (k : Nat) (l0 : List (S56)) (l1 : List (S42)) (a2 : Int) : Option ((List (S56)) × Bool) := (spec_GroupsValid.f k l0 l1).bind fun t386 => (if t386 = true then ((spec_l6In.f a2 0 (wrap64 ((l1.length : Int) - 1))).bind fun t387 => (if t387 = true then ((spec_l3Begin.f k l1 a2).bind fun t388 => ((some (([] : List (S56)) : List (S56))).bind fun y389 => (if 0 ≤ a2 then (if a2 < (l1.length : Int) then (if 0 ≤ t388 then (if t388 ≤ (wrap64 (t388 + ((rd_T42 l1 a2).f0))) then (if (wrap64 (t388 + ((rd_T42 l1 a2).f0))) ≤ (l0.length : Int) then ((some ((l0.take ((wrap64 (t388 + ((rd_T42 l1 a2).f0))) : Int).toNat).drop (t388 : Int).toNat : List (S56))).bind fun y393 => (if y389.length + y393.length < 8796093022208 then (some ((y389 ++ y393), true)) else (none))) else (none)) else (none)) else (none)) else (none)) else (none)))) else (some ((([] : List (S56))), false)))) else (some ((([] : List (S56))), false)))
set_option maxHeartbeats 8000000 in
set_option maxRecDepth 100000 in
theorem spec_GroupsCut.calls (k : Nat) (A0 : Option Addr) (c0 : Nat) (l0 : List (S56)) (A1 : Option Addr) (c1 : Nat) (l1 : List (S42)) (a2 : Int) (r1 : List (S56)) (r2 : Bool) (w : World) (hr0 : Kd.C k56 w A0 l0.length l0) (hc0 : l0.length ≤ c0) (hr1 : Kd.C k42 w A1 l1.length l1) (hc1 : l1.length ≤ c1) (h : spec_GroupsCut.f k l0 l1 a2 = some (r1, r2)) :
  Calls Tryd.prog 24 #[.slice A0 l0.length c0, .slice A1 l1.length c1, .int .i64 a2] w fun e w' => ∃ v0_ : Value, e = .returned (.tuple #[v0_, .bool r2]) ∧ Kd.R k56 56 w' w.heap.size (fun _ => True) v0_ r1 ∧ Below w.heap.size w w' := by
 have HR0 := Aside0.mk hr0
 have HC0 := Aside0.mk hc0
 clear hr0 hc0
 have HR1 := Aside0.mk hr1
 have HC1 := Aside0.mk hc1
 clear hr1 hc1
 have HB := Aside0.mk (Below.refl w.heap.size w)
 have H : ((spec_GroupsValid.f k l0 l1).bind fun t386 => (if t386 = true then ((spec_l6In.f a2 0 (wrap64 ((l1.length : Int) - 1))).bind fun t387 => (if t387 = true then ((spec_l3Begin.f k l1 a2).bind fun t388 => ((some (([] : List (S56)) : List (S56))).bind fun y389 => (if 0 ≤ a2 then (if a2 < (l1.length : Int) then (if 0 ≤ t388 then (if t388 ≤ (wrap64 (t388 + ((rd_T42 l1 a2).f0))) then (if (wrap64 (t388 + ((rd_T42 l1 a2).f0))) ≤ (l0.length : Int) then ((some ((l0.take ((wrap64 (t388 + ((rd_T42 l1 a2).f0))) : Int).toNat).drop (t388 : Int).toNat : List (S56))).bind fun y393 => (if y389.length + y393.length < 8796093022208 then (some ((y389 ++ y393), true)) else (none))) else (none)) else (none)) else (none)) else (none)) else (none)))) else (some ((([] : List (S56))), false)))) else (some ((([] : List (S56))), false)))) = some (r1, r2) := h
 clear h
 replace H := Option.bind_eq_some_iff.mp H
 obtain ⟨t386, A40, H⟩ := H
 replace H : (if t386 = true then ((spec_l6In.f a2 0 (wrap64 ((l1.length : Int) - 1))).bind fun t387 => (if t387 = true then ((spec_l3Begin.f k l1 a2).bind fun t388 => ((some (([] : List (S56)) : List (S56))).bind fun y389 => (if 0 ≤ a2 then (if a2 < (l1.length : Int) then (if 0 ≤ t388 then (if t388 ≤ (wrap64 (t388 + ((rd_T42 l1 a2).f0))) then (if (wrap64 (t388 + ((rd_T42 l1 a2).f0))) ≤ (l0.length : Int) then ((some ((l0.take ((wrap64 (t388 + ((rd_T42 l1 a2).f0))) : Int).toNat).drop (t388 : Int).toNat : List (S56))).bind fun y393 => (if y389.length + y393.length < 8796093022208 then (some ((y389 ++ y393), true)) else (none))) else (none)) else (none)) else (none)) else (none)) else (none)))) else (some ((([] : List (S56))), false)))) else (some ((([] : List (S56))), false))) = some (r1, r2) := H
 have A4 := Aside0.mk A40
 clear A40
 by_cases c5 : t386 = true
 rotate_left
 ·replace c5 := Bool.eq_false_iff.mpr c5
  subst c5
  have H1 : (some ((([] : List (S56))), false)) = some (r1, r2) := by rw [if_neg (show ¬ (false = true) by decide)] at H; exact H
  clear H
  have H := H1
  clear H1
  obtain ⟨y403, hy403⟩ : ∃ y_ : List (S56), y_ = (([] : List (S56))) := ⟨_, rfl⟩
  replace H : (some (y403, false)) = some (r1, r2) := by first | (rw [hy403]; with_reducible exact H) | (have H2_ := (Option.bind_some _ _).symm.trans H; rw [hy403]; with_reducible exact H2_) | (have H2_ := (Option.bind_some _ _).symm.trans H; with_reducible exact H2_) | with_reducible exact H | (rw [hy403]; exact H) | exact H
  have Ny403 := Aside0.mk hy403
  clear hy403
  simp only [Option.some.injEq, Prod.mk.injEq] at H
  obtain ⟨rfl, rfl⟩ := H
  go_enter Tryd.func24, Tryd.ntmps24
  go_wp2_with (first | ((with_reducible refine gate_callee (f := 32) rfl ?_); refine goesL_ (some 11) rfl rfl Tryd.func32 (by kernel_rfl) rfl #[.slice A0 l0.length c0, .slice A1 l1.length c1] rfl (by (try simp only [List.map_toArray, List.map_cons, List.map_nil]); first | done | rfl | (simp only [List.length_drop, List.length_take]; rfl)) ?_; (with_reducible refine (spec_GroupsValid.calls k _ _ l0 _ _ l1 false _ ?side1 ?side2 ?side3 ?side4 A4.out).mono ?_); (case side1 => repeat (first | exact HR0.out | (with_reducible refine Kd.C_alloc ?_ _) | (with_reducible refine Kd.C_drewN ?_ _) | (with_reducible refine Kd.C_drew ?_))); (case side2 => exact HC0.out); (case side3 => repeat (first | exact HR1.out | (with_reducible refine Kd.C_alloc ?_ _) | (with_reducible refine Kd.C_drewN ?_ _) | (with_reducible refine Kd.C_drew ?_))); (case side4 => exact HC1.out); rintro e w23 ⟨rfl, hb⟩; refine ⟨_, rfl, ?_⟩; have n0_ := Aside0.mk (below_step (by repeat (first | (with_reducible first | exact HB.out | apply below_alloc | apply pw_below_drewN | apply below_drew1) | exact HB.out)) hb); clear HB; have HB := n0_; clear n0_; (try clear hb); (try clear hb2); (try clear hk); (try clear hi)) | ((with_reducible refine gate_dst (N := 21) rfl ?_); (try (refine gate_guard (by rfl) ?_; dsimp only)); refine Kd.R_lit k56 _ 56 ?hg (N := 21) ?hd (xs := ([] : List (S56))) (inner := []) (ok := fun _ => True) (okp := fun _ => True) ?hr ?hp (fun _ hk => hk) trivial (Below.refl _ _) (Nat.le_refl _) (by simp) ?_; (case hd => rfl); (case hg => rfl); (case hr => first | (go_simp; done) | (go_simp; rfl)); (case hp => exact (Reps.none _ _)); intro v404 w24 ho25 hb hg_ hnew_; clear hg_ hnew_; (first | rw [← Ny403.out] at ho25 | (simp only [Int.reduceToNat] at ho25; rw [← Ny403.out] at ho25)); have n0_ := Aside0.mk (Kd.R_lower ho25 (below_size (by repeat (first | (with_reducible first | exact HB.out | apply below_alloc | apply pw_below_drewN | apply below_drew1) | exact HB.out)))); have n1_ := Aside0.mk (below_step (by repeat (first | (with_reducible first | exact HB.out | apply below_alloc | apply pw_below_drewN | apply below_drew1) | exact HB.out)) hb); clear HB; have HO405 := n0_; have HB := n1_; clear n0_ n1_; clear hb ho25))
  go_ret2
  exact ⟨_, by first | rfl | (simp [errW_none, errW_some] <;> rfl) | (simp [*, errW_none, errW_some] <;> rfl), by (with_reducible repeat (first | apply Kd.R_alloc | apply Kd.R_drewN | apply Kd.R_drew)); exact HO405.out, by repeat (first | (with_reducible first | exact HB.out | apply below_alloc | apply pw_below_drewN | apply below_drew1) | exact HB.out)⟩
 subst c5
 have H1 : ((spec_l6In.f a2 0 (wrap64 ((l1.length : Int) - 1))).bind fun t387 => (if t387 = true then ((spec_l3Begin.f k l1 a2).bind fun t388 => ((some (([] : List (S56)) : List (S56))).bind fun y389 => (if 0 ≤ a2 then (if a2 < (l1.length : Int) then (if 0 ≤ t388 then (if t388 ≤ (wrap64 (t388 + ((rd_T42 l1 a2).f0))) then (if (wrap64 (t388 + ((rd_T42 l1 a2).f0))) ≤ (l0.length : Int) then ((some ((l0.take ((wrap64 (t388 + ((rd_T42 l1 a2).f0))) : Int).toNat).drop (t388 : Int).toNat : List (S56))).bind fun y393 => (if y389.length + y393.length < 8796093022208 then (some ((y389 ++ y393), true)) else (none))) else (none)) else (none)) else (none)) else (none)) else (none)))) else (some ((([] : List (S56))), false)))) = some (r1, r2) := by rw [if_pos rfl] at H; exact H
 clear H
 have H := H1
 clear H1
 replace H := Option.bind_eq_some_iff.mp H
 obtain ⟨t387, A60, H⟩ := H
 replace H : (if t387 = true then ((spec_l3Begin.f k l1 a2).bind fun t388 => ((some (([] : List (S56)) : List (S56))).bind fun y389 => (if 0 ≤ a2 then (if a2 < (l1.length : Int) then (if 0 ≤ t388 then (if t388 ≤ (wrap64 (t388 + ((rd_T42 l1 a2).f0))) then (if (wrap64 (t388 + ((rd_T42 l1 a2).f0))) ≤ (l0.length : Int) then ((some ((l0.take ((wrap64 (t388 + ((rd_T42 l1 a2).f0))) : Int).toNat).drop (t388 : Int).toNat : List (S56))).bind fun y393 => (if y389.length + y393.length < 8796093022208 then (some ((y389 ++ y393), true)) else (none))) else (none)) else (none)) else (none)) else (none)) else (none)))) else (some ((([] : List (S56))), false))) = some (r1, r2) := H
 have A6 := Aside0.mk A60
 clear A60
 by_cases c7 : t387 = true
 rotate_left
 ·replace c7 := Bool.eq_false_iff.mpr c7
  subst c7
  have H1 : (some ((([] : List (S56))), false)) = some (r1, r2) := by rw [if_neg (show ¬ (false = true) by decide)] at H; exact H
  clear H
  have H := H1
  clear H1
  obtain ⟨y400, hy400⟩ : ∃ y_ : List (S56), y_ = (([] : List (S56))) := ⟨_, rfl⟩
  replace H : (some (y400, false)) = some (r1, r2) := by first | (rw [hy400]; with_reducible exact H) | (have H2_ := (Option.bind_some _ _).symm.trans H; rw [hy400]; with_reducible exact H2_) | (have H2_ := (Option.bind_some _ _).symm.trans H; with_reducible exact H2_) | with_reducible exact H | (rw [hy400]; exact H) | exact H
  have Ny400 := Aside0.mk hy400
  clear hy400
  simp only [Option.some.injEq, Prod.mk.injEq] at H
  obtain ⟨rfl, rfl⟩ := H
  go_enter Tryd.func24, Tryd.ntmps24
  go_wp2_with (first | ((with_reducible refine gate_callee (f := 32) rfl ?_); refine goesL_ (some 11) rfl rfl Tryd.func32 (by kernel_rfl) rfl #[.slice A0 l0.length c0, .slice A1 l1.length c1] rfl (by (try simp only [List.map_toArray, List.map_cons, List.map_nil]); first | done | rfl | (simp only [List.length_drop, List.length_take]; rfl)) ?_; (with_reducible refine (spec_GroupsValid.calls k _ _ l0 _ _ l1 true _ ?side1 ?side2 ?side3 ?side4 A4.out).mono ?_); (case side1 => repeat (first | exact HR0.out | (with_reducible refine Kd.C_alloc ?_ _) | (with_reducible refine Kd.C_drewN ?_ _) | (with_reducible refine Kd.C_drew ?_))); (case side2 => exact HC0.out); (case side3 => repeat (first | exact HR1.out | (with_reducible refine Kd.C_alloc ?_ _) | (with_reducible refine Kd.C_drewN ?_ _) | (with_reducible refine Kd.C_drew ?_))); (case side4 => exact HC1.out); rintro e w20 ⟨rfl, hb⟩; refine ⟨_, rfl, ?_⟩; have n0_ := Aside0.mk (below_step (by repeat (first | (with_reducible first | exact HB.out | apply below_alloc | apply pw_below_drewN | apply below_drew1) | exact HB.out)) hb); clear HB; have HB := n0_; clear n0_; (try clear hb); (try clear hb2); (try clear hk); (try clear hi)) | (go_at_call 47; (with_reducible refine (spec_l6In.calls a2 0 (wrap64 ((l1.length : Int) - 1)) false _ A6.out).mono ?_); rintro e w' ⟨rfl, ⟨nd, rfl⟩⟩) | ((with_reducible refine gate_dst (N := 21) rfl ?_); (try (refine gate_guard (by rfl) ?_; dsimp only)); refine Kd.R_lit k56 _ 56 ?hg (N := 21) ?hd (xs := ([] : List (S56))) (inner := []) (ok := fun _ => True) (okp := fun _ => True) ?hr ?hp (fun _ hk => hk) trivial (Below.refl _ _) (Nat.le_refl _) (by simp) ?_; (case hd => rfl); (case hg => rfl); (case hr => first | (go_simp; done) | (go_simp; rfl)); (case hp => exact (Reps.none _ _)); intro v401 w21 ho22 hb hg_ hnew_; clear hg_ hnew_; (first | rw [← Ny400.out] at ho22 | (simp only [Int.reduceToNat] at ho22; rw [← Ny400.out] at ho22)); have n0_ := Aside0.mk (Kd.R_lower ho22 (below_size (by repeat (first | (with_reducible first | exact HB.out | apply below_alloc | apply pw_below_drewN | apply below_drew1) | exact HB.out)))); have n1_ := Aside0.mk (below_step (by repeat (first | (with_reducible first | exact HB.out | apply below_alloc | apply pw_below_drewN | apply below_drew1) | exact HB.out)) hb); clear HB; have HO402 := n0_; have HB := n1_; clear n0_ n1_; clear hb ho22))
  go_ret2
  exact ⟨_, by first | rfl | (simp [errW_none, errW_some] <;> rfl) | (simp [*, errW_none, errW_some] <;> rfl), by (with_reducible repeat (first | apply Kd.R_alloc | apply Kd.R_drewN | apply Kd.R_drew)); exact HO402.out, by repeat (first | (with_reducible first | exact HB.out | apply below_alloc | apply pw_below_drewN | apply below_drew1) | exact HB.out)⟩
 subst c7
 have H1 : ((spec_l3Begin.f k l1 a2).bind fun t388 => ((some (([] : List (S56)) : List (S56))).bind fun y389 => (if 0 ≤ a2 then (if a2 < (l1.length : Int) then (if 0 ≤ t388 then (if t388 ≤ (wrap64 (t388 + ((rd_T42 l1 a2).f0))) then (if (wrap64 (t388 + ((rd_T42 l1 a2).f0))) ≤ (l0.length : Int) then ((some ((l0.take ((wrap64 (t388 + ((rd_T42 l1 a2).f0))) : Int).toNat).drop (t388 : Int).toNat : List (S56))).bind fun y393 => (if y389.length + y393.length < 8796093022208 then (some ((y389 ++ y393), true)) else (none))) else (none)) else (none)) else (none)) else (none)) else (none)))) = some (r1, r2) := by rw [if_pos rfl] at H; exact H
 clear H
 have H := H1
 clear H1
 replace H := Option.bind_eq_some_iff.mp H
 obtain ⟨t388, A80, H⟩ := H
 replace H : ((some (([] : List (S56)) : List (S56))).bind fun y389 => (if 0 ≤ a2 then (if a2 < (l1.length : Int) then (if 0 ≤ t388 then (if t388 ≤ (wrap64 (t388 + ((rd_T42 l1 a2).f0))) then (if (wrap64 (t388 + ((rd_T42 l1 a2).f0))) ≤ (l0.length : Int) then ((some ((l0.take ((wrap64 (t388 + ((rd_T42 l1 a2).f0))) : Int).toNat).drop (t388 : Int).toNat : List (S56))).bind fun y393 => (if y389.length + y393.length < 8796093022208 then (some ((y389 ++ y393), true)) else (none))) else (none)) else (none)) else (none)) else (none)) else (none))) = some (r1, r2) := H
 have A8 := Aside0.mk A80
 clear A80
 obtain ⟨y389, hy389⟩ : ∃ y_ : List (S56), y_ = (([] : List (S56))) := ⟨_, rfl⟩
 replace H : (if 0 ≤ a2 then (if a2 < (l1.length : Int) then (if 0 ≤ t388 then (if t388 ≤ (wrap64 (t388 + ((rd_T42 l1 a2).f0))) then (if (wrap64 (t388 + ((rd_T42 l1 a2).f0))) ≤ (l0.length : Int) then ((some ((l0.take ((wrap64 (t388 + ((rd_T42 l1 a2).f0))) : Int).toNat).drop (t388 : Int).toNat : List (S56))).bind fun y393 => (if y389.length + y393.length < 8796093022208 then (some ((y389 ++ y393), true)) else (none))) else (none)) else (none)) else (none)) else (none)) else (none)) = some (r1, r2) := by first | (rw [hy389]; with_reducible exact H) | (have H2_ := (Option.bind_some _ _).symm.trans H; rw [hy389]; with_reducible exact H2_) | (have H2_ := (Option.bind_some _ _).symm.trans H; with_reducible exact H2_) | with_reducible exact H | (rw [hy389]; exact H) | exact H
 have Ny389 := Aside0.mk hy389
 clear hy389
 by_cases c9 : 0 ≤ a2
 rotate_left
 ·rw [if_neg c9] at H
  exact absurd H (by simp)
 rw [if_pos c9] at H
 have c9b0 : decide (0 ≤ a2) = true := decide_eq_true c9
 clear c9
 by_cases c10 : a2 < (l1.length : Int)
 rotate_left
 ·rw [if_neg c10] at H
  exact absurd H (by simp)
 rw [if_pos c10] at H
 have c10b0 : decide (a2 < (l1.length : Int)) = true := decide_eq_true c10
 clear c10
 by_cases c11 : 0 ≤ t388
 rotate_left
 ·rw [if_neg c11] at H
  exact absurd H (by simp)
 rw [if_pos c11] at H
 have c11b0 := eq_true c11
 have c11b1 : decide (0 ≤ t388) = true := decide_eq_true c11
 clear c11
 by_cases c12 : t388 ≤ (wrap64 (t388 + ((rd_T42 l1 a2).f0)))
 rotate_left
 ·rw [if_neg c12] at H
  exact absurd H (by simp)
 rw [if_pos c12] at H
 have c12b0 := eq_true c12
 have c12b1 : decide (t388 ≤ (wrap64 (t388 + ((rd_T42 l1 a2).f0)))) = true := decide_eq_true c12
 by_cases c13 : (wrap64 (t388 + ((rd_T42 l1 a2).f0))) ≤ (l0.length : Int)
 rotate_left
 ·rw [if_neg c13] at H
  exact absurd H (by simp)
 rw [if_pos c13] at H
 have c13b0 := eq_true c13
 have c13b1 : decide ((wrap64 (t388 + ((rd_T42 l1 a2).f0))) ≤ (l0.length : Int)) = true := decide_eq_true c13
 obtain ⟨y393, hy393⟩ : ∃ y_ : List (S56), y_ = ((l0.take ((wrap64 (t388 + ((rd_T42 l1 a2).f0))) : Int).toNat).drop (t388 : Int).toNat) := ⟨_, rfl⟩
 replace H : (if y389.length + y393.length < 8796093022208 then (some ((y389 ++ y393), true)) else (none)) = some (r1, r2) := by first | (rw [hy393]; with_reducible exact H) | (have H2_ := (Option.bind_some _ _).symm.trans H; rw [hy393]; with_reducible exact H2_) | (have H2_ := (Option.bind_some _ _).symm.trans H; with_reducible exact H2_) | with_reducible exact H | (rw [hy393]; exact H) | exact H
 have Ny393 := Aside0.mk hy393
 clear hy393
 by_cases c14 : y389.length + y393.length < 8796093022208
 rotate_left
 ·rw [if_neg c14] at H
  exact absurd H (by simp)
 rw [if_pos c14] at H
 have LMc14 := Aside0.mk c14
 clear c14
 obtain ⟨y397, hy397⟩ : ∃ y_ : List (S56), y_ = (y389 ++ y393) := ⟨_, rfl⟩
 replace H : (some (y397, true)) = some (r1, r2) := by first | (rw [hy397]; with_reducible exact H) | (have H2_ := (Option.bind_some _ _).symm.trans H; rw [hy397]; with_reducible exact H2_) | (have H2_ := (Option.bind_some _ _).symm.trans H; with_reducible exact H2_) | with_reducible exact H | (rw [hy397]; exact H) | exact H
 have Ny397 := Aside0.mk hy397
 clear hy397
 simp only [Option.some.injEq, Prod.mk.injEq] at H
 obtain ⟨rfl, rfl⟩ := H
 go_enter Tryd.func24, Tryd.ntmps24
 go_wp2_with (first | ((with_reducible refine gate_callee (f := 32) rfl ?_); refine goesL_ (some 11) rfl rfl Tryd.func32 (by kernel_rfl) rfl #[.slice A0 l0.length c0, .slice A1 l1.length c1] rfl (by (try simp only [List.map_toArray, List.map_cons, List.map_nil]); first | done | rfl | (simp only [List.length_drop, List.length_take]; rfl)) ?_; (with_reducible refine (spec_GroupsValid.calls k _ _ l0 _ _ l1 true _ ?side1 ?side2 ?side3 ?side4 A4.out).mono ?_); (case side1 => repeat (first | exact HR0.out | (with_reducible refine Kd.C_alloc ?_ _) | (with_reducible refine Kd.C_drewN ?_ _) | (with_reducible refine Kd.C_drew ?_))); (case side2 => exact HC0.out); (case side3 => repeat (first | exact HR1.out | (with_reducible refine Kd.C_alloc ?_ _) | (with_reducible refine Kd.C_drewN ?_ _) | (with_reducible refine Kd.C_drew ?_))); (case side4 => exact HC1.out); rintro e w15 ⟨rfl, hb⟩; refine ⟨_, rfl, ?_⟩; have n0_ := Aside0.mk (below_step (by repeat (first | (with_reducible first | exact HB.out | apply below_alloc | apply pw_below_drewN | apply below_drew1) | exact HB.out)) hb); clear HB; have HB := n0_; clear n0_; (try clear hb); (try clear hb2); (try clear hk); (try clear hi)) | (go_at_call 47; (with_reducible refine (spec_l6In.calls a2 0 (wrap64 ((l1.length : Int) - 1)) true _ A6.out).mono ?_); rintro e w' ⟨rfl, ⟨nd, rfl⟩⟩) | ((with_reducible refine gate_callee (f := 33) rfl ?_); refine goesL_ (some 24) rfl rfl Tryd.func33 (by kernel_rfl) rfl #[.slice A1 l1.length c1, .int .i64 a2] rfl (by (try simp only [List.map_toArray, List.map_cons, List.map_nil]); first | done | rfl | (simp only [List.length_drop, List.length_take]; rfl)) ?_; (with_reducible refine (spec_l3Begin.calls k _ _ l1 a2 t388 _ ?side1 ?side2 A8.out).mono ?_); (case side1 => repeat (first | exact (Kd.C_below HR1.out (by repeat (first | (with_reducible first | exact HB.out | apply below_alloc | apply pw_below_drewN | apply below_drew1) | exact HB.out))) | (with_reducible refine Kd.C_alloc ?_ _) | (with_reducible refine Kd.C_drewN ?_ _) | (with_reducible refine Kd.C_drew ?_))); (case side2 => exact HC1.out); rintro e w' ⟨rfl, ⟨nd, rfl⟩⟩; refine ⟨_, rfl, ?_⟩) | ((with_reducible refine gate_dst (N := 25) rfl ?_); (try (refine gate_guard (by rfl) ?_; dsimp only)); refine Kd.R_lit k56 _ 56 ?hg (N := 25) ?hd (xs := ([] : List (S56))) (inner := []) (ok := fun _ => True) (okp := fun _ => True) ?hr ?hp (fun _ hk => hk) trivial (Below.refl _ _) (Nat.le_refl _) (by simp) ?_; (case hd => rfl); (case hg => rfl); (case hr => first | (go_simp; done) | (go_simp; rfl)); (case hp => exact (Reps.none _ _)); intro v390 w16 ho17 hb hg_ hnew_; clear hg_ hnew_; (first | rw [← Ny389.out] at ho17 | (simp only [Int.reduceToNat] at ho17; rw [← Ny389.out] at ho17)); have n0_ := Aside0.mk (Kd.R_lower ho17 (below_size (by repeat (first | (with_reducible first | exact HB.out | apply below_alloc | apply pw_below_drewN | apply below_drew1) | exact HB.out)))); have n1_ := Aside0.mk (below_step (by repeat (first | (with_reducible first | exact HB.out | apply below_alloc | apply pw_below_drewN | apply below_drew1) | exact HB.out)) hb); clear HB; have HO391 := n0_; have HB := n1_; clear n0_ n1_; clear hb ho17; have p392 : 0 ≤ (a2 : Int) := of_decide_eq_true (by first | (with_reducible assumption) | assumption); have q392 : a2 < (l1.length : Int) := of_decide_eq_true (by first | (with_reducible assumption) | assumption); obtain ⟨ad392, e392, hx392_0, hx392_1⟩ := at_T42 HR1.out a2 p392 q392; cases e392; replace hx392_0 := (HB.out.cell (World.block_lt_of_cell? w _ hx392_0)).trans hx392_0; replace hx392_1 := (HB.out.cell (World.block_lt_of_cell? w _ hx392_1)).trans hx392_1; replace p392 := eq_true p392; replace q392 := eq_true q392; have q18 : ((wrap64 (t388 + ((rd_T42 l1 a2).f0))) : Int) ≤ ((l0.length : Int) : Int) := of_decide_eq_true (by first | (with_reducible assumption) | assumption); obtain ⟨i018, hi018, _, hsz18, _⟩ := info_parts info56; have hroom18 : l0.length ≤ c0 := HC0.out; have hC18 : Kd.C k56 _ A0 l0.length l0 := HR0.out; have ql18 : (t388 : Int) ≤ ((wrap64 (t388 + ((rd_T42 l1 a2).f0))) : Int) := of_decide_eq_true (by first | (with_reducible assumption) | assumption); have q018 : (0 : Int) ≤ (t388 : Int) := of_decide_eq_true (by first | (with_reducible assumption) | assumption); have hcut18 := cut_mid (P := Tryd.prog) 27 56 .i64 .i64 Tryd.underlying27 hi018 2 hsz18 A0 l0.length c0 t388 (wrap64 (t388 + ((rd_T42 l1 a2).f0))) q018 ql18 q18 hroom18; have hr18 := Kd.C_mid (lo := (t388 : Int).toNat) (hi := ((wrap64 (t388 + ((rd_T42 l1 a2).f0))) : Int).toNat) (c := c0) hC18 (by omega) (by omega) hroom18; obtain ⟨A18, hA18⟩ : ∃ Az_, Az_ = (if c0 = (t388 : Int).toNat then A0 else (A0 : Option Addr).map (·.add ((t388 : Int).toNat * 2))) := ⟨_, rfl⟩; obtain ⟨c18, hc18⟩ : ∃ cz_, cz_ = c0 - (t388 : Int).toNat := ⟨_, rfl⟩; have hy18 : y393.length = ((wrap64 (t388 + ((rd_T42 l1 a2).f0))) : Int).toNat - (t388 : Int).toNat := (by rw [Ny393.out, List.length_drop, List.length_take] <;> omega); rw [show ((l0).take ((wrap64 (t388 + ((rd_T42 l1 a2).f0))) : Int).toNat).drop (t388 : Int).toNat = y393 from Ny393.out.symm] at hr18; replace hr18 : Kd.C k56 _ A18 y393.length y393 := (by rw [hA18]; exact hr18); rw [← hy18, ← hA18, ← hc18] at hcut18; have HR396 := Aside0.mk hr18; have HC396 := Aside0.mk (show y393.length ≤ c18 from by rw [hy18, hc18]; exact Nat.sub_le_sub_right (Nat.le_trans (by omega) hroom18) _); clear hr18 hC18 hroom18 hi018 hsz18 hc18; have KY18 := Aside0.mk hy18; have KA18 := Aside0.mk hA18; clear hy18 hA18; replace q18 := eq_true q18) | ((with_reducible refine gate_builtin (b := .append) (xs := #[.tmp 25, .tmp 35]) rfl ?_); (try (refine gate_guard (by rfl) ?_; dsimp only)); at_builtin; refine Kd.R_append_rows k56 (w0 := w) w.heap.size rfl (.tmp 25) (.tmp 35) 27 56 (.agg #[(.int .i64 0), (.bool false)]) 16 rfl Tryd.underlying27 info56 rfl (by decide) (by omega) v390 y389 y393 _ _ _ (fun _ => True) (fun _ => False) rfl rfl ?aO ?aR (fun _ _ h => h) (fun _ h => h.elim) ?aF ?aB ?aS ?aL ?_; (case aR => repeat (first | exact (Kd.C_below HR396.out HB.out) | (with_reducible refine Kd.C_alloc ?_ _) | (with_reducible refine Kd.C_drewN ?_ _) | (with_reducible refine Kd.C_drew ?_))); (case aB => exact (by repeat (first | (with_reducible first | exact HB.out | apply below_alloc | apply pw_below_drewN | apply below_drew1) | exact HB.out))); (case aF => exact (fun _ _ => trivial)); (case aO => exact (by (with_reducible repeat (first | apply Kd.R_alloc | apply Kd.R_drewN | apply Kd.R_drew)); exact HO391.out)); (case aS => exact (below_size (by repeat (first | (with_reducible first | exact HB.out | apply below_alloc | apply pw_below_drewN | apply below_drew1) | exact HB.out)))); (case aL => have := LMc14.out; omega); intro v398 w19 ho hb hg hat; rw [← Ny397.out] at ho; have n0_ := Aside0.mk (hb); have n1_ := Aside0.mk (ho); clear HB; clear HO391; have HB := n0_; have HO399 := n1_; clear n0_ n1_; clear ho hb hg hat))
 go_ret2
 exact ⟨_, by first | rfl | (simp [errW_none, errW_some] <;> rfl) | (simp [*, errW_none, errW_some] <;> rfl), by (with_reducible repeat (first | apply Kd.R_alloc | apply Kd.R_drewN | apply Kd.R_drew)); exact HO399.out, by repeat (first | (with_reducible first | exact HB.out | apply below_alloc | apply pw_below_drewN | apply below_drew1) | exact HB.out)⟩
end Go.Proofs.YtldepdaglapdeaaDoor.E
end
section
namespace Go.Proofs.YtldepdaglapdeaaDoor.E
open Go.RowKit Go.Proofs.YtldepdaglapdeaaDoorW.PrintWords Go.Proofs.YtldepdaglapdeaaDoorW.PrintLast Go.Proofs.YtldepdaglapdeaaDoorW.PrintMore
attribute [local go_sem] max2_int min2_int max_two min_two max_three min_three max_four min_four
set_option linter.unusedVariables false
set_option linter.unusedSimpArgs false
attribute [local go_sem] str_leq_ str_gtr_ str_geq_
def impl_ContourOf.f (k : Nat) (l0 : List (S56)) : Option (ByteArray) := (impl_MelodyValid.f k l0).bind fun t406 => (if t406 = true then ((impl_melody_contour.f l0).bind fun t407 => (some t407)) else (some (⟨#[]⟩ : ByteArray)))
set_option maxHeartbeats 8000000 in
set_option maxRecDepth 100000 in
theorem impl_ContourOf.calls (k : Nat) (A0 : Option Addr) (c0 : Nat) (l0 : List (S56)) (r : ByteArray) (w : World) (hr0 : Kd.C k56 w A0 l0.length l0) (hc0 : l0.length ≤ c0) (h : impl_ContourOf.f k l0 = some r) :
  Calls Tryd.prog 26 #[.slice A0 l0.length c0] w fun e w' => e = .returned (.string r) ∧ Below w.heap.size w w' := by
 have HR0 := Aside0.mk hr0
 have HC0 := Aside0.mk hc0
 clear hr0 hc0
 have HB := Aside0.mk (Below.refl w.heap.size w)
 have H : ((impl_MelodyValid.f k l0).bind fun t406 => (if t406 = true then ((impl_melody_contour.f l0).bind fun t407 => (some t407)) else (some (⟨#[]⟩ : ByteArray)))) = some r := h
 clear h
 replace H := Option.bind_eq_some_iff.mp H
 obtain ⟨t406, A20, H⟩ := H
 replace H : (if t406 = true then ((impl_melody_contour.f l0).bind fun t407 => (some t407)) else (some (⟨#[]⟩ : ByteArray))) = some r := H
 have A2 := Aside0.mk A20
 clear A20
 by_cases c3 : t406 = true
 rotate_left
 ·replace c3 := Bool.eq_false_iff.mpr c3
  subst c3
  have H1 : (some (⟨#[]⟩ : ByteArray)) = some r := by rw [if_neg (show ¬ (false = true) by decide)] at H; exact H
  clear H
  have H := H1
  clear H1
  obtain rfl := Option.some.inj H
  go_enter Tryd.func26, Tryd.ntmps26
  go_wp2_with (first | ((with_reducible refine gate_callee (f := 49) rfl ?_); refine goesL_ (some 4) rfl rfl Tryd.func49 (by kernel_rfl) rfl #[.slice A0 l0.length c0] rfl (by (try simp only [List.map_toArray, List.map_cons, List.map_nil]); first | done | rfl | (simp only [List.length_drop, List.length_take]; rfl)) ?_; (with_reducible refine (impl_MelodyValid.calls k _ _ l0 false _ ?side1 ?side2 A2.out).mono ?_); (case side1 => repeat (first | exact HR0.out | (with_reducible refine Kd.C_alloc ?_ _) | (with_reducible refine Kd.C_drewN ?_ _) | (with_reducible refine Kd.C_drew ?_))); (case side2 => exact HC0.out); rintro e w7 ⟨rfl, hb⟩; refine ⟨_, rfl, ?_⟩; have n0_ := Aside0.mk (below_step (by repeat (first | (with_reducible first | exact HB.out | apply below_alloc | apply pw_below_drewN | apply below_drew1) | exact HB.out)) hb); clear HB; have HB := n0_; clear n0_; (try clear hb); (try clear hb2); (try clear hk); (try clear hi)))
  go_ret
  exact ⟨by first | rfl | (simp [errW_none, errW_some] <;> rfl) | (simp [*, errW_none, errW_some] <;> rfl), by repeat (first | (with_reducible first | exact HB.out | apply below_alloc | apply pw_below_drewN | apply below_drew1) | exact HB.out)⟩
 subst c3
 have H1 : ((impl_melody_contour.f l0).bind fun t407 => (some t407)) = some r := by rw [if_pos rfl] at H; exact H
 clear H
 have H := H1
 clear H1
 replace H := Option.bind_eq_some_iff.mp H
 obtain ⟨t407, A40, H⟩ := H
 replace H : (some t407) = some r := H
 have A4 := Aside0.mk A40
 clear A40
 obtain rfl := Option.some.inj H
 go_enter Tryd.func26, Tryd.ntmps26
 go_wp2_with (first | ((with_reducible refine gate_callee (f := 49) rfl ?_); refine goesL_ (some 4) rfl rfl Tryd.func49 (by kernel_rfl) rfl #[.slice A0 l0.length c0] rfl (by (try simp only [List.map_toArray, List.map_cons, List.map_nil]); first | done | rfl | (simp only [List.length_drop, List.length_take]; rfl)) ?_; (with_reducible refine (impl_MelodyValid.calls k _ _ l0 true _ ?side1 ?side2 A2.out).mono ?_); (case side1 => repeat (first | exact HR0.out | (with_reducible refine Kd.C_alloc ?_ _) | (with_reducible refine Kd.C_drewN ?_ _) | (with_reducible refine Kd.C_drew ?_))); (case side2 => exact HC0.out); rintro e w5 ⟨rfl, hb⟩; refine ⟨_, rfl, ?_⟩; have n0_ := Aside0.mk (below_step (by repeat (first | (with_reducible first | exact HB.out | apply below_alloc | apply pw_below_drewN | apply below_drew1) | exact HB.out)) hb); clear HB; have HB := n0_; clear n0_; (try clear hb); (try clear hb2); (try clear hk); (try clear hi)) | ((with_reducible refine gate_callee (f := 50) rfl ?_); refine goesL_ (some 7) rfl rfl Tryd.func50 (by kernel_rfl) rfl #[.slice A0 l0.length c0] rfl (by (try simp only [List.map_toArray, List.map_cons, List.map_nil]); first | done | rfl | (simp only [List.length_drop, List.length_take]; rfl)) ?_; (with_reducible refine (impl_melody_contour.calls _ _ l0 t407 _ ?side1 ?side2 A4.out).mono ?_); (case side1 => repeat (first | exact (Kd.C_below HR0.out HB.out) | (with_reducible refine Kd.C_alloc ?_ _) | (with_reducible refine Kd.C_drewN ?_ _) | (with_reducible refine Kd.C_drew ?_))); (case side2 => exact HC0.out); rintro e w6 ⟨rfl, hb⟩; refine ⟨_, rfl, ?_⟩; have n0_ := Aside0.mk (below_step (by repeat (first | (with_reducible first | exact HB.out | apply below_alloc | apply pw_below_drewN | apply below_drew1) | exact HB.out)) hb); clear HB; have HB := n0_; clear n0_; (try clear hb); (try clear hb2); (try clear hk); (try clear hi)))
 go_ret
 exact ⟨by first | rfl | (simp [errW_none, errW_some] <;> rfl) | (simp [*, errW_none, errW_some] <;> rfl), by repeat (first | (with_reducible first | exact HB.out | apply below_alloc | apply pw_below_drewN | apply below_drew1) | exact HB.out)⟩
end Go.Proofs.YtldepdaglapdeaaDoor.E
end
section
namespace Go.Proofs.YtldepdaglapdeaaDoor.E
open Go.RowKit Go.Proofs.YtldepdaglapdeaaDoorW.PrintWords Go.Proofs.YtldepdaglapdeaaDoorW.PrintLast Go.Proofs.YtldepdaglapdeaaDoorW.PrintMore
attribute [local go_sem] max2_int min2_int max_two min_two max_three min_three max_four min_four
set_option linter.unusedVariables false
set_option linter.unusedSimpArgs false
attribute [local go_sem] str_leq_ str_gtr_ str_geq_
def laws_FnGroupsCut.j0 : Nat → List (S42) → Int → List (S56) → Bool → List (S56) → Bool → Bool → Option (Bool)
 | 0, _, _, _, _, _, _, _ => none
 | k + 1, x4, x5, x6, x7, x8, x9, x48 => if x48 = true then (if (x7 == x9) = true then ((laws_sameTones.f k x6 x8).bind fun t424 => (some t424)) else (none)) else ((impl_ContourOf.f k x6).bind fun t425 => ((impl_NeumeName.f t425).bind fun t426 => (if 0 ≤ x5 then (if x5 < (x4.length : Int) then ((impl_GroupsNames.f k x6 (([(⟨(rd_T42 x4 x5).f0, (rd_T42 x4 x5).f1⟩ : S42)] : List (S42)))).bind fun t431 => ((impl_GroupsNames.f k x6 (([(⟨(rd_T42 x4 x5).f0, false⟩ : S42)] : List (S42)))).bind fun t436 => (if t426.toList = ([] : List UInt8) then (none) else (if t436.toList = t426.toList then (if ((t431.toList == t426.toList) == (!((rd_T42 x4 x5).f1))) = true then (if 1 ≤ (t431.size : Int) then (if 1 ≤ (t426.size : Int) then (some ((t431.extract 1 t431.size).toList == (t426.extract 1 t426.size).toList)) else (none)) else (none)) else (none)) else (none))))) else (none)) else (none))))
def laws_FnGroupsCut.f (k : Nat) (l0 : List Int) : Option (Bool) := if (l0.length : Int) > 1048576 then (some true) else ((spec_DrawGroupsCut.f k l0).bind fun bt408 => ((impl_GroupsCut.f k bt408.1 bt408.2.1 bt408.2.2).bind fun bt415 => ((spec_GroupsCut.f k bt408.1 bt408.2.1 bt408.2.2).bind fun bt419 => (if (bt415.2 != bt419.2) = true then (laws_FnGroupsCut.j0 k bt408.2.1 bt408.2.2 bt415.1 bt415.2 bt419.1 bt419.2 true) else ((laws_sameTones.f k bt415.1 bt419.1).bind fun t423 => (if t423 = true then (laws_FnGroupsCut.j0 k bt408.2.1 bt408.2.2 bt415.1 bt415.2 bt419.1 bt419.2 (!bt415.2)) else (laws_FnGroupsCut.j0 k bt408.2.1 bt408.2.2 bt415.1 bt415.2 bt419.1 bt419.2 true)))))))
set_option maxHeartbeats 8000000 in
set_option maxRecDepth 100000 in
theorem laws_FnGroupsCut.calls (k : Nat) (A0 : Option Addr) (c0 : Nat) (l0 : List Int) (r : Bool) (w : World) (hr0 : Kd.C (Kd.int .u8) w A0 l0.length l0) (hc0 : l0.length ≤ c0) (hG : GOk [0] w) (h : laws_FnGroupsCut.f k l0 = some r) :
  Calls Tryd.prog 6 #[.slice A0 l0.length c0] w fun e w' => e = .returned (.bool r) ∧ Below w.heap.size w w' := by
 have hu42 := Tryd.underlying42
 have HR0 := Aside0.mk hr0
 have HC0 := Aside0.mk hc0
 clear hr0 hc0
 have HB := Aside0.mk (Below.refl w.heap.size w)
 have HG := Aside0.mk hG
 clear hG
 have H : (if (l0.length : Int) > 1048576 then (some true) else ((spec_DrawGroupsCut.f k l0).bind fun bt408 => ((impl_GroupsCut.f k bt408.1 bt408.2.1 bt408.2.2).bind fun bt415 => ((spec_GroupsCut.f k bt408.1 bt408.2.1 bt408.2.2).bind fun bt419 => (if (bt415.2 != bt419.2) = true then (laws_FnGroupsCut.j0 k bt408.2.1 bt408.2.2 bt415.1 bt415.2 bt419.1 bt419.2 true) else ((laws_sameTones.f k bt415.1 bt419.1).bind fun t423 => (if t423 = true then (laws_FnGroupsCut.j0 k bt408.2.1 bt408.2.2 bt415.1 bt415.2 bt419.1 bt419.2 (!bt415.2)) else (laws_FnGroupsCut.j0 k bt408.2.1 bt408.2.2 bt415.1 bt415.2 bt419.1 bt419.2 true)))))))) = some r := h
 clear h
 by_cases c2 : (l0.length : Int) > 1048576
 ·rw [if_pos c2] at H
  have c2b0 : decide (1048576 < (l0.length : Int)) = true := decide_eq_true c2
  have c2b1 : decide (1048576 < l0.length) = true := decide_eq_true (by omega)
  clear c2
  obtain rfl := Option.some.inj H
  go_enter Tryd.func6, Tryd.ntmps6
  go_wp2
  repeat (go_quiet (fail); try go_wp2)
  go_ret
  exact ⟨by first | rfl | (simp [errW_none, errW_some] <;> rfl) | (simp [*, errW_none, errW_some] <;> rfl), by repeat (first | (with_reducible first | exact HB.out | apply below_alloc | apply pw_below_drewN | apply below_drew1) | exact HB.out)⟩
 rw [if_neg c2] at H
 have c2b0 : decide (1048576 < (l0.length : Int)) = false := decide_eq_false c2
 have c2b1 : decide (1048576 < l0.length) = false := decide_eq_false (by omega)
 clear c2
 replace H := Option.bind_eq_some_iff.mp H
 obtain ⟨⟨t408, t409, t410⟩, A30, H⟩ := H
 replace H : ((impl_GroupsCut.f k t408 t409 t410).bind fun bt415 => ((spec_GroupsCut.f k t408 t409 t410).bind fun bt419 => (if (bt415.2 != bt419.2) = true then (laws_FnGroupsCut.j0 k t409 t410 bt415.1 bt415.2 bt419.1 bt419.2 true) else ((laws_sameTones.f k bt415.1 bt419.1).bind fun t423 => (if t423 = true then (laws_FnGroupsCut.j0 k t409 t410 bt415.1 bt415.2 bt419.1 bt419.2 (!bt415.2)) else (laws_FnGroupsCut.j0 k t409 t410 bt415.1 bt415.2 bt419.1 bt419.2 true)))))) = some r := H
 have A3 := Aside0.mk A30
 clear A30
 replace H := Option.bind_eq_some_iff.mp H
 obtain ⟨⟨t415, t416⟩, A40, H⟩ := H
 replace H : ((spec_GroupsCut.f k t408 t409 t410).bind fun bt419 => (if (t416 != bt419.2) = true then (laws_FnGroupsCut.j0 k t409 t410 t415 t416 bt419.1 bt419.2 true) else ((laws_sameTones.f k t415 bt419.1).bind fun t423 => (if t423 = true then (laws_FnGroupsCut.j0 k t409 t410 t415 t416 bt419.1 bt419.2 (!t416)) else (laws_FnGroupsCut.j0 k t409 t410 t415 t416 bt419.1 bt419.2 true))))) = some r := H
 have A4 := Aside0.mk A40
 clear A40
 replace H := Option.bind_eq_some_iff.mp H
 obtain ⟨⟨t419, t420⟩, A50, H⟩ := H
 replace H : (if (t416 != t420) = true then (laws_FnGroupsCut.j0 k t409 t410 t415 t416 t419 t420 true) else ((laws_sameTones.f k t415 t419).bind fun t423 => (if t423 = true then (laws_FnGroupsCut.j0 k t409 t410 t415 t416 t419 t420 (!t416)) else (laws_FnGroupsCut.j0 k t409 t410 t415 t416 t419 t420 true)))) = some r := H
 have A5 := Aside0.mk A50
 clear A50
 have HC6 := Aside0.mk H
 clear H
 go_enter Tryd.func6, Tryd.ntmps6
 go_upto_region 6 with (first | (go_at_call 23; (with_reducible refine (spec_DrawGroupsCut.calls k _ _ l0 t408 t409 t410 _ ?side1 ?side2 A3.out).mono ?_); (case side1 => repeat (first | exact HR0.out | (with_reducible refine Kd.C_alloc ?_ _) | (with_reducible refine Kd.C_drewN ?_ _) | (with_reducible refine Kd.C_drew ?_))); (case side2 => exact HC0.out); rintro e w7 ⟨v411, v413, rfl, ho0, ho1, hb⟩; have n0_ := Aside0.mk (Kd.R_lower ho0 (below_size (by repeat (first | (with_reducible first | exact HB.out | apply below_alloc | apply pw_below_drewN | apply below_drew1) | exact HB.out)))); have n1_ := Aside0.mk (Kd.Q_lower ho1 (below_size (by repeat (first | (with_reducible first | exact HB.out | apply below_alloc | apply pw_below_drewN | apply below_drew1) | exact HB.out)))); have n2_ := Aside0.mk (below_step (by repeat (first | (with_reducible first | exact HB.out | apply below_alloc | apply pw_below_drewN | apply below_drew1) | exact HB.out)) hb); clear HB; have HO412 := n0_; have HO414 := n1_; have HB := n2_; clear n0_ n1_ n2_; (try clear hb); (try clear hb2); (try clear hk); (try clear hi); (try clear ho0); (try clear ho1); obtain ⟨Ao8, co8, eo8⟩ := Kd.R_slice HO412.out; subst eo8; obtain ⟨Ao9, co9, eo9, _⟩ := Kd.Q_slice HO414.out; subst eo9) | (go_at_call 20; (with_reducible refine (impl_GroupsCut.calls k _ _ t408 _ _ t409 t410 t415 t416 _ ?side1 ?side2 ?side3 ?side4 A4.out).mono ?_); (case side1 => repeat (first | exact (Kd.R_reads' HO412.out).2.2 | (with_reducible refine Kd.C_alloc ?_ _) | (with_reducible refine Kd.C_drewN ?_ _) | (with_reducible refine Kd.C_drew ?_))); (case side2 => exact (Kd.R_reads' HO412.out).2.1); (case side3 => repeat (first | exact (Kd.Q_reads' HO414.out).2.2 | (with_reducible refine Kd.C_alloc ?_ _) | (with_reducible refine Kd.C_drewN ?_ _) | (with_reducible refine Kd.C_drew ?_))); (case side4 => exact (Kd.Q_reads' HO414.out).2.1); rintro e w10 ⟨v417, rfl, ho0, hb⟩; have n0_ := Aside0.mk (Kd.R_elder' (by (with_reducible repeat (first | apply Kd.R_alloc | apply Kd.R_drewN | apply Kd.R_drew)); exact HO412.out) (Kd.R_base ho0) hb); have n1_ := Aside0.mk (Kd.Q_below (by (with_reducible repeat (first | apply Kd.Q_alloc | apply Kd.Q_drewN | apply Kd.Q_drew)); exact HO414.out) hb); have n2_ := Aside0.mk (Kd.R_lower (Kd.R_new' ho0 (Kd.R_lt (by (with_reducible repeat (first | apply Kd.R_alloc | apply Kd.R_drewN | apply Kd.R_drew)); exact HO412.out))) (below_size (by repeat (first | (with_reducible first | exact HB.out | apply below_alloc | apply pw_below_drewN | apply below_drew1) | exact HB.out)))); have n3_ := Aside0.mk (below_step (by repeat (first | (with_reducible first | exact HB.out | apply below_alloc | apply pw_below_drewN | apply below_drew1) | exact HB.out)) hb); clear HO412; clear HO414; clear HB; have HO412 := n0_; have HO414 := n1_; have HO418 := n2_; have HB := n3_; clear n0_ n1_ n2_ n3_; (try clear hb); (try clear hb2); (try clear hk); (try clear hi); (try clear ho0)) | (go_at_call 24; (with_reducible refine (spec_GroupsCut.calls k _ _ t408 _ _ t409 t410 t419 t420 _ ?side1 ?side2 ?side3 ?side4 A5.out).mono ?_); (case side1 => repeat (first | exact (Kd.R_reads' HO412.out).2.2 | (with_reducible refine Kd.C_alloc ?_ _) | (with_reducible refine Kd.C_drewN ?_ _) | (with_reducible refine Kd.C_drew ?_))); (case side2 => exact (Kd.R_reads' HO412.out).2.1); (case side3 => repeat (first | exact (Kd.Q_reads' HO414.out).2.2 | (with_reducible refine Kd.C_alloc ?_ _) | (with_reducible refine Kd.C_drewN ?_ _) | (with_reducible refine Kd.C_drew ?_))); (case side4 => exact (Kd.Q_reads' HO414.out).2.1); rintro e w11 ⟨v421, rfl, ho0, hb⟩; have n0_ := Aside0.mk (Kd.R_elder' (by (with_reducible repeat (first | apply Kd.R_alloc | apply Kd.R_drewN | apply Kd.R_drew)); exact HO412.out) (Kd.R_base ho0) hb); have n1_ := Aside0.mk (Kd.Q_below (by (with_reducible repeat (first | apply Kd.Q_alloc | apply Kd.Q_drewN | apply Kd.Q_drew)); exact HO414.out) hb); have n2_ := Aside0.mk (Kd.R_elder' (by (with_reducible repeat (first | apply Kd.R_alloc | apply Kd.R_drewN | apply Kd.R_drew)); exact HO418.out) (Kd.R_base ho0) hb); have n3_ := Aside0.mk (Kd.R_lower (Kd.R_new' (Kd.R_new' ho0 (Kd.R_lt (by (with_reducible repeat (first | apply Kd.R_alloc | apply Kd.R_drewN | apply Kd.R_drew)); exact HO412.out))) (Kd.R_lt (by (with_reducible repeat (first | apply Kd.R_alloc | apply Kd.R_drewN | apply Kd.R_drew)); exact HO418.out))) (below_size (by repeat (first | (with_reducible first | exact HB.out | apply below_alloc | apply pw_below_drewN | apply below_drew1) | exact HB.out)))); have n4_ := Aside0.mk (below_step (by repeat (first | (with_reducible first | exact HB.out | apply below_alloc | apply pw_below_drewN | apply below_drew1) | exact HB.out)) hb); clear HO412; clear HO414; clear HO418; clear HB; have HO412 := n0_; have HO414 := n1_; have HO418 := n2_; have HO422 := n3_; have HB := n4_; clear n0_ n1_ n2_ n3_ n4_; (try clear hb); (try clear hb2); (try clear hk); (try clear hi); (try clear ho0)))
 repeat (go_quiet (first | (go_at_call 23; (with_reducible refine (spec_DrawGroupsCut.calls k _ _ l0 t408 t409 t410 _ ?side1 ?side2 A3.out).mono ?_); (case side1 => repeat (first | exact HR0.out | (with_reducible refine Kd.C_alloc ?_ _) | (with_reducible refine Kd.C_drewN ?_ _) | (with_reducible refine Kd.C_drew ?_))); (case side2 => exact HC0.out); rintro e w7 ⟨v411, v413, rfl, ho0, ho1, hb⟩; have n0_ := Aside0.mk (Kd.R_lower ho0 (below_size (by repeat (first | (with_reducible first | exact HB.out | apply below_alloc | apply pw_below_drewN | apply below_drew1) | exact HB.out)))); have n1_ := Aside0.mk (Kd.Q_lower ho1 (below_size (by repeat (first | (with_reducible first | exact HB.out | apply below_alloc | apply pw_below_drewN | apply below_drew1) | exact HB.out)))); have n2_ := Aside0.mk (below_step (by repeat (first | (with_reducible first | exact HB.out | apply below_alloc | apply pw_below_drewN | apply below_drew1) | exact HB.out)) hb); clear HB; have HO412 := n0_; have HO414 := n1_; have HB := n2_; clear n0_ n1_ n2_; (try clear hb); (try clear hb2); (try clear hk); (try clear hi); (try clear ho0); (try clear ho1); obtain ⟨Ao8, co8, eo8⟩ := Kd.R_slice HO412.out; subst eo8; obtain ⟨Ao9, co9, eo9, _⟩ := Kd.Q_slice HO414.out; subst eo9) | (go_at_call 20; (with_reducible refine (impl_GroupsCut.calls k _ _ t408 _ _ t409 t410 t415 t416 _ ?side1 ?side2 ?side3 ?side4 A4.out).mono ?_); (case side1 => repeat (first | exact (Kd.R_reads' HO412.out).2.2 | (with_reducible refine Kd.C_alloc ?_ _) | (with_reducible refine Kd.C_drewN ?_ _) | (with_reducible refine Kd.C_drew ?_))); (case side2 => exact (Kd.R_reads' HO412.out).2.1); (case side3 => repeat (first | exact (Kd.Q_reads' HO414.out).2.2 | (with_reducible refine Kd.C_alloc ?_ _) | (with_reducible refine Kd.C_drewN ?_ _) | (with_reducible refine Kd.C_drew ?_))); (case side4 => exact (Kd.Q_reads' HO414.out).2.1); rintro e w10 ⟨v417, rfl, ho0, hb⟩; have n0_ := Aside0.mk (Kd.R_elder' (by (with_reducible repeat (first | apply Kd.R_alloc | apply Kd.R_drewN | apply Kd.R_drew)); exact HO412.out) (Kd.R_base ho0) hb); have n1_ := Aside0.mk (Kd.Q_below (by (with_reducible repeat (first | apply Kd.Q_alloc | apply Kd.Q_drewN | apply Kd.Q_drew)); exact HO414.out) hb); have n2_ := Aside0.mk (Kd.R_lower (Kd.R_new' ho0 (Kd.R_lt (by (with_reducible repeat (first | apply Kd.R_alloc | apply Kd.R_drewN | apply Kd.R_drew)); exact HO412.out))) (below_size (by repeat (first | (with_reducible first | exact HB.out | apply below_alloc | apply pw_below_drewN | apply below_drew1) | exact HB.out)))); have n3_ := Aside0.mk (below_step (by repeat (first | (with_reducible first | exact HB.out | apply below_alloc | apply pw_below_drewN | apply below_drew1) | exact HB.out)) hb); clear HO412; clear HO414; clear HB; have HO412 := n0_; have HO414 := n1_; have HO418 := n2_; have HB := n3_; clear n0_ n1_ n2_ n3_; (try clear hb); (try clear hb2); (try clear hk); (try clear hi); (try clear ho0)) | (go_at_call 24; (with_reducible refine (spec_GroupsCut.calls k _ _ t408 _ _ t409 t410 t419 t420 _ ?side1 ?side2 ?side3 ?side4 A5.out).mono ?_); (case side1 => repeat (first | exact (Kd.R_reads' HO412.out).2.2 | (with_reducible refine Kd.C_alloc ?_ _) | (with_reducible refine Kd.C_drewN ?_ _) | (with_reducible refine Kd.C_drew ?_))); (case side2 => exact (Kd.R_reads' HO412.out).2.1); (case side3 => repeat (first | exact (Kd.Q_reads' HO414.out).2.2 | (with_reducible refine Kd.C_alloc ?_ _) | (with_reducible refine Kd.C_drewN ?_ _) | (with_reducible refine Kd.C_drew ?_))); (case side4 => exact (Kd.Q_reads' HO414.out).2.1); rintro e w11 ⟨v421, rfl, ho0, hb⟩; have n0_ := Aside0.mk (Kd.R_elder' (by (with_reducible repeat (first | apply Kd.R_alloc | apply Kd.R_drewN | apply Kd.R_drew)); exact HO412.out) (Kd.R_base ho0) hb); have n1_ := Aside0.mk (Kd.Q_below (by (with_reducible repeat (first | apply Kd.Q_alloc | apply Kd.Q_drewN | apply Kd.Q_drew)); exact HO414.out) hb); have n2_ := Aside0.mk (Kd.R_elder' (by (with_reducible repeat (first | apply Kd.R_alloc | apply Kd.R_drewN | apply Kd.R_drew)); exact HO418.out) (Kd.R_base ho0) hb); have n3_ := Aside0.mk (Kd.R_lower (Kd.R_new' (Kd.R_new' ho0 (Kd.R_lt (by (with_reducible repeat (first | apply Kd.R_alloc | apply Kd.R_drewN | apply Kd.R_drew)); exact HO412.out))) (Kd.R_lt (by (with_reducible repeat (first | apply Kd.R_alloc | apply Kd.R_drewN | apply Kd.R_drew)); exact HO418.out))) (below_size (by repeat (first | (with_reducible first | exact HB.out | apply below_alloc | apply pw_below_drewN | apply below_drew1) | exact HB.out)))); have n4_ := Aside0.mk (below_step (by repeat (first | (with_reducible first | exact HB.out | apply below_alloc | apply pw_below_drewN | apply below_drew1) | exact HB.out)) hb); clear HO412; clear HO414; clear HO418; clear HB; have HO412 := n0_; have HO414 := n1_; have HO418 := n2_; have HO422 := n3_; have HB := n4_; clear n0_ n1_ n2_ n3_ n4_; (try clear hb); (try clear hb2); (try clear hk); (try clear hi); (try clear ho0))); go_upto_region 6 with (first | (go_at_call 23; (with_reducible refine (spec_DrawGroupsCut.calls k _ _ l0 t408 t409 t410 _ ?side1 ?side2 A3.out).mono ?_); (case side1 => repeat (first | exact HR0.out | (with_reducible refine Kd.C_alloc ?_ _) | (with_reducible refine Kd.C_drewN ?_ _) | (with_reducible refine Kd.C_drew ?_))); (case side2 => exact HC0.out); rintro e w7 ⟨v411, v413, rfl, ho0, ho1, hb⟩; have n0_ := Aside0.mk (Kd.R_lower ho0 (below_size (by repeat (first | (with_reducible first | exact HB.out | apply below_alloc | apply pw_below_drewN | apply below_drew1) | exact HB.out)))); have n1_ := Aside0.mk (Kd.Q_lower ho1 (below_size (by repeat (first | (with_reducible first | exact HB.out | apply below_alloc | apply pw_below_drewN | apply below_drew1) | exact HB.out)))); have n2_ := Aside0.mk (below_step (by repeat (first | (with_reducible first | exact HB.out | apply below_alloc | apply pw_below_drewN | apply below_drew1) | exact HB.out)) hb); clear HB; have HO412 := n0_; have HO414 := n1_; have HB := n2_; clear n0_ n1_ n2_; (try clear hb); (try clear hb2); (try clear hk); (try clear hi); (try clear ho0); (try clear ho1); obtain ⟨Ao8, co8, eo8⟩ := Kd.R_slice HO412.out; subst eo8; obtain ⟨Ao9, co9, eo9, _⟩ := Kd.Q_slice HO414.out; subst eo9) | (go_at_call 20; (with_reducible refine (impl_GroupsCut.calls k _ _ t408 _ _ t409 t410 t415 t416 _ ?side1 ?side2 ?side3 ?side4 A4.out).mono ?_); (case side1 => repeat (first | exact (Kd.R_reads' HO412.out).2.2 | (with_reducible refine Kd.C_alloc ?_ _) | (with_reducible refine Kd.C_drewN ?_ _) | (with_reducible refine Kd.C_drew ?_))); (case side2 => exact (Kd.R_reads' HO412.out).2.1); (case side3 => repeat (first | exact (Kd.Q_reads' HO414.out).2.2 | (with_reducible refine Kd.C_alloc ?_ _) | (with_reducible refine Kd.C_drewN ?_ _) | (with_reducible refine Kd.C_drew ?_))); (case side4 => exact (Kd.Q_reads' HO414.out).2.1); rintro e w10 ⟨v417, rfl, ho0, hb⟩; have n0_ := Aside0.mk (Kd.R_elder' (by (with_reducible repeat (first | apply Kd.R_alloc | apply Kd.R_drewN | apply Kd.R_drew)); exact HO412.out) (Kd.R_base ho0) hb); have n1_ := Aside0.mk (Kd.Q_below (by (with_reducible repeat (first | apply Kd.Q_alloc | apply Kd.Q_drewN | apply Kd.Q_drew)); exact HO414.out) hb); have n2_ := Aside0.mk (Kd.R_lower (Kd.R_new' ho0 (Kd.R_lt (by (with_reducible repeat (first | apply Kd.R_alloc | apply Kd.R_drewN | apply Kd.R_drew)); exact HO412.out))) (below_size (by repeat (first | (with_reducible first | exact HB.out | apply below_alloc | apply pw_below_drewN | apply below_drew1) | exact HB.out)))); have n3_ := Aside0.mk (below_step (by repeat (first | (with_reducible first | exact HB.out | apply below_alloc | apply pw_below_drewN | apply below_drew1) | exact HB.out)) hb); clear HO412; clear HO414; clear HB; have HO412 := n0_; have HO414 := n1_; have HO418 := n2_; have HB := n3_; clear n0_ n1_ n2_ n3_; (try clear hb); (try clear hb2); (try clear hk); (try clear hi); (try clear ho0)) | (go_at_call 24; (with_reducible refine (spec_GroupsCut.calls k _ _ t408 _ _ t409 t410 t419 t420 _ ?side1 ?side2 ?side3 ?side4 A5.out).mono ?_); (case side1 => repeat (first | exact (Kd.R_reads' HO412.out).2.2 | (with_reducible refine Kd.C_alloc ?_ _) | (with_reducible refine Kd.C_drewN ?_ _) | (with_reducible refine Kd.C_drew ?_))); (case side2 => exact (Kd.R_reads' HO412.out).2.1); (case side3 => repeat (first | exact (Kd.Q_reads' HO414.out).2.2 | (with_reducible refine Kd.C_alloc ?_ _) | (with_reducible refine Kd.C_drewN ?_ _) | (with_reducible refine Kd.C_drew ?_))); (case side4 => exact (Kd.Q_reads' HO414.out).2.1); rintro e w11 ⟨v421, rfl, ho0, hb⟩; have n0_ := Aside0.mk (Kd.R_elder' (by (with_reducible repeat (first | apply Kd.R_alloc | apply Kd.R_drewN | apply Kd.R_drew)); exact HO412.out) (Kd.R_base ho0) hb); have n1_ := Aside0.mk (Kd.Q_below (by (with_reducible repeat (first | apply Kd.Q_alloc | apply Kd.Q_drewN | apply Kd.Q_drew)); exact HO414.out) hb); have n2_ := Aside0.mk (Kd.R_elder' (by (with_reducible repeat (first | apply Kd.R_alloc | apply Kd.R_drewN | apply Kd.R_drew)); exact HO418.out) (Kd.R_base ho0) hb); have n3_ := Aside0.mk (Kd.R_lower (Kd.R_new' (Kd.R_new' ho0 (Kd.R_lt (by (with_reducible repeat (first | apply Kd.R_alloc | apply Kd.R_drewN | apply Kd.R_drew)); exact HO412.out))) (Kd.R_lt (by (with_reducible repeat (first | apply Kd.R_alloc | apply Kd.R_drewN | apply Kd.R_drew)); exact HO418.out))) (below_size (by repeat (first | (with_reducible first | exact HB.out | apply below_alloc | apply pw_below_drewN | apply below_drew1) | exact HB.out)))); have n4_ := Aside0.mk (below_step (by repeat (first | (with_reducible first | exact HB.out | apply below_alloc | apply pw_below_drewN | apply below_drew1) | exact HB.out)) hb); clear HO412; clear HO414; clear HO418; clear HB; have HO412 := n0_; have HO414 := n1_; have HO418 := n2_; have HO422 := n3_; have HB := n4_; clear n0_ n1_ n2_ n3_ n4_; (try clear hb); (try clear hb2); (try clear hk); (try clear hi); (try clear ho0))))
 (try simp only [Act.put, List.setIfInBounds_toArray, List.set_cons_zero, List.set_cons_succ])
 go_cut [48] (fun v48 wc => ∃ (kq : Nat) (x48_5 : Bool), v48 = .bool x48_5 ∧ Aside0 (laws_FnGroupsCut.j0 kq t409 t410 t415 t416 t419 t420 x48_5 = some r) ∧ Aside0 (kq ≤ k) ∧ Aside0 (Kd.Q k42 42 wc w.heap.size (fun _ => True) (.slice Ao9 t409.length co9) t409) ∧ Aside0 (Kd.R k56 56 wc w.heap.size (fun k_ => some k_ ≠ (v421 : Value).ownBlock) v417 t415) ∧ Aside0 (Kd.R k56 56 wc w.heap.size (fun k_ => some k_ ≠ (v417 : Value).ownBlock) v421 t419) ∧ Aside0 (Below w.heap.size w wc))
 case first =>
  have H := HC6.out
  clear HC6
  by_cases c12 : (t416 != t420) = true
  ·rw [if_pos c12] at H
   have c12b0 : (t416 != t420) = true := c12
   (try (have c12b1 : decide (t416 = t420) = false := by simpa using c12))
   (try (have c12b2 : (t416 == t420) = false := by simpa using c12))
   (try (have c12b3 : ¬ (t416 = t420) := by simpa using c12))
   clear c12
   (first | rw [c12b0] | (simp only [i64_w, i32_w]; rw [c12b0]) | skip)
   have H' := Aside0.mk H
   clear H
   go_wp2
   repeat (go_quiet (fail); try go_wp2)
   go_meet
   case rel => exact ⟨_, (true), (by first | rfl | (simp; done) | (simp [*]; done)), H', ⟨by first | omega | exact Nat.le_refl _⟩, ⟨by (with_reducible repeat (first | apply Kd.Q_alloc | apply Kd.Q_drewN | apply Kd.Q_drew)); exact HO414.out⟩, ⟨by (with_reducible repeat (first | apply Kd.R_alloc | apply Kd.R_drewN | apply Kd.R_drew)); exact Kd.R_mono HO418.out (fun _ hk => hk.2)⟩, ⟨by (with_reducible repeat (first | apply Kd.R_alloc | apply Kd.R_drewN | apply Kd.R_drew)); exact Kd.R_mono HO422.out (fun _ hk => hk.2)⟩, ⟨by repeat (first | (with_reducible first | exact HB.out | apply below_alloc | apply pw_below_drewN | apply below_drew1) | exact HB.out)⟩⟩
  rw [if_neg c12] at H
  have c12b0 : (t416 != t420) = false := by simpa using c12
  (try (have c12b1 : decide (t416 = t420) = true := by simpa using c12))
  (try (have c12b2 : (t416 == t420) = true := by simpa using c12))
  clear c12
  (first | rw [c12b0] | (simp only [i64_w, i32_w]; rw [c12b0]) | skip)
  replace H := Option.bind_eq_some_iff.mp H
  obtain ⟨t423, A130, H⟩ := H
  replace H : (if t423 = true then (laws_FnGroupsCut.j0 k t409 t410 t415 t416 t419 t420 (!t416)) else (laws_FnGroupsCut.j0 k t409 t410 t415 t416 t419 t420 true)) = some r := H
  have A13 := Aside0.mk A130
  clear A130
  by_cases c14 : t423 = true
  ·subst c14
   have H1 : (laws_FnGroupsCut.j0 k t409 t410 t415 t416 t419 t420 (!t416)) = some r := by rw [if_pos rfl] at H; exact H
   clear H
   have H := H1
   clear H1
   have H' := Aside0.mk H
   clear H
   obtain ⟨Ao15, co15, eo15⟩ := Kd.R_slice HO418.out
   subst eo15
   obtain ⟨Ao16, co16, eo16⟩ := Kd.R_slice HO422.out
   subst eo16
   go_wp2_with (first | (go_at_call 21; (with_reducible refine (laws_sameTones.calls k _ _ t415 _ _ t419 true _ ?side1 ?side2 ?side3 ?side4 A13.out).mono ?_); (case side1 => repeat (first | exact (Kd.R_reads' HO418.out).2.2 | (with_reducible refine Kd.C_alloc ?_ _) | (with_reducible refine Kd.C_drewN ?_ _) | (with_reducible refine Kd.C_drew ?_))); (case side2 => exact (Kd.R_reads' HO418.out).2.1); (case side3 => repeat (first | exact (Kd.R_reads' HO422.out).2.2 | (with_reducible refine Kd.C_alloc ?_ _) | (with_reducible refine Kd.C_drewN ?_ _) | (with_reducible refine Kd.C_drew ?_))); (case side4 => exact (Kd.R_reads' HO422.out).2.1); rintro e w' ⟨rfl, ⟨nd, rfl⟩⟩; (try first | exact ⟨rfl, _, World.drewN_drewN _ _ _⟩ | exact ⟨rfl, _, Eq.trans (World.drewN_drewN _ _ _) (congrArg (World.drewN _) (Nat.add_assoc _ _ _))⟩)))
   repeat (go_quiet (first | (go_at_call 21; (with_reducible refine (laws_sameTones.calls k _ _ t415 _ _ t419 true _ ?side1 ?side2 ?side3 ?side4 A13.out).mono ?_); (case side1 => repeat (first | exact (Kd.R_reads' HO418.out).2.2 | (with_reducible refine Kd.C_alloc ?_ _) | (with_reducible refine Kd.C_drewN ?_ _) | (with_reducible refine Kd.C_drew ?_))); (case side2 => exact (Kd.R_reads' HO418.out).2.1); (case side3 => repeat (first | exact (Kd.R_reads' HO422.out).2.2 | (with_reducible refine Kd.C_alloc ?_ _) | (with_reducible refine Kd.C_drewN ?_ _) | (with_reducible refine Kd.C_drew ?_))); (case side4 => exact (Kd.R_reads' HO422.out).2.1); rintro e w' ⟨rfl, ⟨nd, rfl⟩⟩; (try first | exact ⟨rfl, _, World.drewN_drewN _ _ _⟩ | exact ⟨rfl, _, Eq.trans (World.drewN_drewN _ _ _) (congrArg (World.drewN _) (Nat.add_assoc _ _ _))⟩))); try go_wp2_with (first | (go_at_call 21; (with_reducible refine (laws_sameTones.calls k _ _ t415 _ _ t419 true _ ?side1 ?side2 ?side3 ?side4 A13.out).mono ?_); (case side1 => repeat (first | exact (Kd.R_reads' HO418.out).2.2 | (with_reducible refine Kd.C_alloc ?_ _) | (with_reducible refine Kd.C_drewN ?_ _) | (with_reducible refine Kd.C_drew ?_))); (case side2 => exact (Kd.R_reads' HO418.out).2.1); (case side3 => repeat (first | exact (Kd.R_reads' HO422.out).2.2 | (with_reducible refine Kd.C_alloc ?_ _) | (with_reducible refine Kd.C_drewN ?_ _) | (with_reducible refine Kd.C_drew ?_))); (case side4 => exact (Kd.R_reads' HO422.out).2.1); rintro e w' ⟨rfl, ⟨nd, rfl⟩⟩; (try first | exact ⟨rfl, _, World.drewN_drewN _ _ _⟩ | exact ⟨rfl, _, Eq.trans (World.drewN_drewN _ _ _) (congrArg (World.drewN _) (Nat.add_assoc _ _ _))⟩))))
   go_meet
   case rel => exact ⟨_, (!t416), (by first | rfl | (simp; done) | (simp [*]; done)), H', ⟨by first | omega | exact Nat.le_refl _⟩, ⟨by (with_reducible repeat (first | apply Kd.Q_alloc | apply Kd.Q_drewN | apply Kd.Q_drew)); exact HO414.out⟩, ⟨by (with_reducible repeat (first | apply Kd.R_alloc | apply Kd.R_drewN | apply Kd.R_drew)); exact Kd.R_mono HO418.out (fun _ hk => hk.2)⟩, ⟨by (with_reducible repeat (first | apply Kd.R_alloc | apply Kd.R_drewN | apply Kd.R_drew)); exact Kd.R_mono HO422.out (fun _ hk => hk.2)⟩, ⟨by repeat (first | (with_reducible first | exact HB.out | apply below_alloc | apply pw_below_drewN | apply below_drew1) | exact HB.out)⟩⟩
  replace c14 := Bool.eq_false_iff.mpr c14
  subst c14
  have H1 : (laws_FnGroupsCut.j0 k t409 t410 t415 t416 t419 t420 true) = some r := by rw [if_neg (show ¬ (false = true) by decide)] at H; exact H
  clear H
  have H := H1
  clear H1
  have H' := Aside0.mk H
  clear H
  obtain ⟨Ao17, co17, eo17⟩ := Kd.R_slice HO418.out
  subst eo17
  obtain ⟨Ao18, co18, eo18⟩ := Kd.R_slice HO422.out
  subst eo18
  go_wp2_with (first | (go_at_call 21; (with_reducible refine (laws_sameTones.calls k _ _ t415 _ _ t419 false _ ?side1 ?side2 ?side3 ?side4 A13.out).mono ?_); (case side1 => repeat (first | exact (Kd.R_reads' HO418.out).2.2 | (with_reducible refine Kd.C_alloc ?_ _) | (with_reducible refine Kd.C_drewN ?_ _) | (with_reducible refine Kd.C_drew ?_))); (case side2 => exact (Kd.R_reads' HO418.out).2.1); (case side3 => repeat (first | exact (Kd.R_reads' HO422.out).2.2 | (with_reducible refine Kd.C_alloc ?_ _) | (with_reducible refine Kd.C_drewN ?_ _) | (with_reducible refine Kd.C_drew ?_))); (case side4 => exact (Kd.R_reads' HO422.out).2.1); rintro e w' ⟨rfl, ⟨nd, rfl⟩⟩; (try first | exact ⟨rfl, _, World.drewN_drewN _ _ _⟩ | exact ⟨rfl, _, Eq.trans (World.drewN_drewN _ _ _) (congrArg (World.drewN _) (Nat.add_assoc _ _ _))⟩)))
  repeat (go_quiet (first | (go_at_call 21; (with_reducible refine (laws_sameTones.calls k _ _ t415 _ _ t419 false _ ?side1 ?side2 ?side3 ?side4 A13.out).mono ?_); (case side1 => repeat (first | exact (Kd.R_reads' HO418.out).2.2 | (with_reducible refine Kd.C_alloc ?_ _) | (with_reducible refine Kd.C_drewN ?_ _) | (with_reducible refine Kd.C_drew ?_))); (case side2 => exact (Kd.R_reads' HO418.out).2.1); (case side3 => repeat (first | exact (Kd.R_reads' HO422.out).2.2 | (with_reducible refine Kd.C_alloc ?_ _) | (with_reducible refine Kd.C_drewN ?_ _) | (with_reducible refine Kd.C_drew ?_))); (case side4 => exact (Kd.R_reads' HO422.out).2.1); rintro e w' ⟨rfl, ⟨nd, rfl⟩⟩; (try first | exact ⟨rfl, _, World.drewN_drewN _ _ _⟩ | exact ⟨rfl, _, Eq.trans (World.drewN_drewN _ _ _) (congrArg (World.drewN _) (Nat.add_assoc _ _ _))⟩))); try go_wp2_with (first | (go_at_call 21; (with_reducible refine (laws_sameTones.calls k _ _ t415 _ _ t419 false _ ?side1 ?side2 ?side3 ?side4 A13.out).mono ?_); (case side1 => repeat (first | exact (Kd.R_reads' HO418.out).2.2 | (with_reducible refine Kd.C_alloc ?_ _) | (with_reducible refine Kd.C_drewN ?_ _) | (with_reducible refine Kd.C_drew ?_))); (case side2 => exact (Kd.R_reads' HO418.out).2.1); (case side3 => repeat (first | exact (Kd.R_reads' HO422.out).2.2 | (with_reducible refine Kd.C_alloc ?_ _) | (with_reducible refine Kd.C_drewN ?_ _) | (with_reducible refine Kd.C_drew ?_))); (case side4 => exact (Kd.R_reads' HO422.out).2.1); rintro e w' ⟨rfl, ⟨nd, rfl⟩⟩; (try first | exact ⟨rfl, _, World.drewN_drewN _ _ _⟩ | exact ⟨rfl, _, Eq.trans (World.drewN_drewN _ _ _) (congrArg (World.drewN _) (Nat.add_assoc _ _ _))⟩))))
  go_meet
  case rel => exact ⟨_, (true), (by first | rfl | (simp; done) | (simp [*]; done)), H', ⟨by first | omega | exact Nat.le_refl _⟩, ⟨by (with_reducible repeat (first | apply Kd.Q_alloc | apply Kd.Q_drewN | apply Kd.Q_drew)); exact HO414.out⟩, ⟨by (with_reducible repeat (first | apply Kd.R_alloc | apply Kd.R_drewN | apply Kd.R_drew)); exact Kd.R_mono HO418.out (fun _ hk => hk.2)⟩, ⟨by (with_reducible repeat (first | apply Kd.R_alloc | apply Kd.R_drewN | apply Kd.R_drew)); exact Kd.R_mono HO422.out (fun _ hk => hk.2)⟩, ⟨by repeat (first | (with_reducible first | exact HB.out | apply below_alloc | apply pw_below_drewN | apply below_drew1) | exact HB.out)⟩⟩
 case rest =>
  clear HC6
  try clear c1
  try clear c2
  try clear c2b0
  try clear c2b1
  try clear p2
  try clear c6
  try clear c12
  try clear c12b0
  try clear c12b1
  try clear c12b2
  try clear c14
  obtain ⟨kq, x48_5, rfl, HA, HJ5, HO_4, HO_6, HO_8, HB⟩ := hcut
  cases kq with
  | zero => exact absurd HA.out (by simp [laws_FnGroupsCut.j0])
  | succ kj5 =>
   have H := HA.out
   clear HA
   simp only [laws_FnGroupsCut.j0] at H
   by_cases c19 : x48_5 = true
   ·subst c19
    have H1 : (if (t416 == t420) = true then ((laws_sameTones.f kj5 t415 t419).bind fun t424 => (some t424)) else (none)) = some r := by rw [if_pos rfl] at H; exact H
    clear H
    have H := H1
    clear H1
    by_cases c20 : (t416 == t420) = true
    rotate_left
    ·rw [if_neg c20] at H
     exact absurd H (by simp)
    rw [if_pos c20] at H
    have c20b0 : (t416 == t420) = true := c20
    (try (have c20b1 : decide (t416 = t420) = true := by simpa using c20))
    (try (have c20b2 : (t416 == t420) = true := by simpa using c20))
    clear c20
    replace H := Option.bind_eq_some_iff.mp H
    obtain ⟨t424, A210, H⟩ := H
    replace H : (some t424) = some r := H
    have A21 := Aside0.mk A210
    clear A210
    obtain rfl := Option.some.inj H
    obtain ⟨Ao22, co22, eo22⟩ := Kd.R_slice HO_6.out
    subst eo22
    obtain ⟨Ao23, co23, eo23⟩ := Kd.R_slice HO_8.out
    subst eo23
    go_wp2_with (first | (go_at_call 21; (with_reducible refine (laws_sameTones.calls kj5 _ _ t415 _ _ t419 t424 _ ?side1 ?side2 ?side3 ?side4 A21.out).mono ?_); (case side1 => repeat (first | exact (Kd.R_reads' HO_6.out).2.2 | (with_reducible refine Kd.C_alloc ?_ _) | (with_reducible refine Kd.C_drewN ?_ _) | (with_reducible refine Kd.C_drew ?_))); (case side2 => exact (Kd.R_reads' HO_6.out).2.1); (case side3 => repeat (first | exact (Kd.R_reads' HO_8.out).2.2 | (with_reducible refine Kd.C_alloc ?_ _) | (with_reducible refine Kd.C_drewN ?_ _) | (with_reducible refine Kd.C_drew ?_))); (case side4 => exact (Kd.R_reads' HO_8.out).2.1); rintro e w' ⟨rfl, ⟨nd, rfl⟩⟩; (try first | exact ⟨rfl, _, World.drewN_drewN _ _ _⟩ | exact ⟨rfl, _, Eq.trans (World.drewN_drewN _ _ _) (congrArg (World.drewN _) (Nat.add_assoc _ _ _))⟩)))
    repeat (go_quiet (first | (go_at_call 21; (with_reducible refine (laws_sameTones.calls kj5 _ _ t415 _ _ t419 t424 _ ?side1 ?side2 ?side3 ?side4 A21.out).mono ?_); (case side1 => repeat (first | exact (Kd.R_reads' HO_6.out).2.2 | (with_reducible refine Kd.C_alloc ?_ _) | (with_reducible refine Kd.C_drewN ?_ _) | (with_reducible refine Kd.C_drew ?_))); (case side2 => exact (Kd.R_reads' HO_6.out).2.1); (case side3 => repeat (first | exact (Kd.R_reads' HO_8.out).2.2 | (with_reducible refine Kd.C_alloc ?_ _) | (with_reducible refine Kd.C_drewN ?_ _) | (with_reducible refine Kd.C_drew ?_))); (case side4 => exact (Kd.R_reads' HO_8.out).2.1); rintro e w' ⟨rfl, ⟨nd, rfl⟩⟩; (try first | exact ⟨rfl, _, World.drewN_drewN _ _ _⟩ | exact ⟨rfl, _, Eq.trans (World.drewN_drewN _ _ _) (congrArg (World.drewN _) (Nat.add_assoc _ _ _))⟩))); try go_wp2_with (first | (go_at_call 21; (with_reducible refine (laws_sameTones.calls kj5 _ _ t415 _ _ t419 t424 _ ?side1 ?side2 ?side3 ?side4 A21.out).mono ?_); (case side1 => repeat (first | exact (Kd.R_reads' HO_6.out).2.2 | (with_reducible refine Kd.C_alloc ?_ _) | (with_reducible refine Kd.C_drewN ?_ _) | (with_reducible refine Kd.C_drew ?_))); (case side2 => exact (Kd.R_reads' HO_6.out).2.1); (case side3 => repeat (first | exact (Kd.R_reads' HO_8.out).2.2 | (with_reducible refine Kd.C_alloc ?_ _) | (with_reducible refine Kd.C_drewN ?_ _) | (with_reducible refine Kd.C_drew ?_))); (case side4 => exact (Kd.R_reads' HO_8.out).2.1); rintro e w' ⟨rfl, ⟨nd, rfl⟩⟩; (try first | exact ⟨rfl, _, World.drewN_drewN _ _ _⟩ | exact ⟨rfl, _, Eq.trans (World.drewN_drewN _ _ _) (congrArg (World.drewN _) (Nat.add_assoc _ _ _))⟩))))
    go_ret
    exact ⟨by first | rfl | (simp [errW_none, errW_some] <;> rfl) | (simp [*, errW_none, errW_some] <;> rfl), by repeat (first | (with_reducible first | exact HB.out | apply below_alloc | apply pw_below_drewN | apply below_drew1) | exact HB.out)⟩
   replace c19 := Bool.eq_false_iff.mpr c19
   subst c19
   have H1 : ((impl_ContourOf.f kj5 t415).bind fun t425 => ((impl_NeumeName.f t425).bind fun t426 => (if 0 ≤ t410 then (if t410 < (t409.length : Int) then ((impl_GroupsNames.f kj5 t415 (([(⟨(rd_T42 t409 t410).f0, (rd_T42 t409 t410).f1⟩ : S42)] : List (S42)))).bind fun t431 => ((impl_GroupsNames.f kj5 t415 (([(⟨(rd_T42 t409 t410).f0, false⟩ : S42)] : List (S42)))).bind fun t436 => (if t426.toList = ([] : List UInt8) then (none) else (if t436.toList = t426.toList then (if ((t431.toList == t426.toList) == (!((rd_T42 t409 t410).f1))) = true then (if 1 ≤ (t431.size : Int) then (if 1 ≤ (t426.size : Int) then (some ((t431.extract 1 t431.size).toList == (t426.extract 1 t426.size).toList)) else (none)) else (none)) else (none)) else (none))))) else (none)) else (none)))) = some r := by rw [if_neg (show ¬ (false = true) by decide)] at H; exact H
   clear H
   have H := H1
   clear H1
   replace H := Option.bind_eq_some_iff.mp H
   obtain ⟨t425, A240, H⟩ := H
   replace H : ((impl_NeumeName.f t425).bind fun t426 => (if 0 ≤ t410 then (if t410 < (t409.length : Int) then ((impl_GroupsNames.f kj5 t415 (([(⟨(rd_T42 t409 t410).f0, (rd_T42 t409 t410).f1⟩ : S42)] : List (S42)))).bind fun t431 => ((impl_GroupsNames.f kj5 t415 (([(⟨(rd_T42 t409 t410).f0, false⟩ : S42)] : List (S42)))).bind fun t436 => (if t426.toList = ([] : List UInt8) then (none) else (if t436.toList = t426.toList then (if ((t431.toList == t426.toList) == (!((rd_T42 t409 t410).f1))) = true then (if 1 ≤ (t431.size : Int) then (if 1 ≤ (t426.size : Int) then (some ((t431.extract 1 t431.size).toList == (t426.extract 1 t426.size).toList)) else (none)) else (none)) else (none)) else (none))))) else (none)) else (none))) = some r := H
   have A24 := Aside0.mk A240
   clear A240
   replace H := Option.bind_eq_some_iff.mp H
   obtain ⟨t426, A250, H⟩ := H
   replace H : (if 0 ≤ t410 then (if t410 < (t409.length : Int) then ((impl_GroupsNames.f kj5 t415 (([(⟨(rd_T42 t409 t410).f0, (rd_T42 t409 t410).f1⟩ : S42)] : List (S42)))).bind fun t431 => ((impl_GroupsNames.f kj5 t415 (([(⟨(rd_T42 t409 t410).f0, false⟩ : S42)] : List (S42)))).bind fun t436 => (if t426.toList = ([] : List UInt8) then (none) else (if t436.toList = t426.toList then (if ((t431.toList == t426.toList) == (!((rd_T42 t409 t410).f1))) = true then (if 1 ≤ (t431.size : Int) then (if 1 ≤ (t426.size : Int) then (some ((t431.extract 1 t431.size).toList == (t426.extract 1 t426.size).toList)) else (none)) else (none)) else (none)) else (none))))) else (none)) else (none)) = some r := H
   have A25 := Aside0.mk A250
   clear A250
   by_cases c26 : 0 ≤ t410
   rotate_left
   ·rw [if_neg c26] at H
    exact absurd H (by simp)
   rw [if_pos c26] at H
   have c26b0 : decide (0 ≤ t410) = true := decide_eq_true c26
   clear c26
   by_cases c27 : t410 < (t409.length : Int)
   rotate_left
   ·rw [if_neg c27] at H
    exact absurd H (by simp)
   rw [if_pos c27] at H
   have c27b0 : decide (t410 < (t409.length : Int)) = true := decide_eq_true c27
   clear c27
   obtain ⟨y428, hy428⟩ : ∃ y_ : List (S42), y_ = (([(⟨(rd_T42 t409 t410).f0, (rd_T42 t409 t410).f1⟩ : S42)] : List (S42))) := ⟨_, rfl⟩
   replace H : ((impl_GroupsNames.f kj5 t415 y428).bind fun t431 => ((impl_GroupsNames.f kj5 t415 (([(⟨(rd_T42 t409 t410).f0, false⟩ : S42)] : List (S42)))).bind fun t436 => (if t426.toList = ([] : List UInt8) then (none) else (if t436.toList = t426.toList then (if ((t431.toList == t426.toList) == (!((rd_T42 t409 t410).f1))) = true then (if 1 ≤ (t431.size : Int) then (if 1 ≤ (t426.size : Int) then (some ((t431.extract 1 t431.size).toList == (t426.extract 1 t426.size).toList)) else (none)) else (none)) else (none)) else (none))))) = some r := by first | (rw [hy428]; with_reducible exact H) | (have H2_ := (Option.bind_some _ _).symm.trans H; rw [hy428]; with_reducible exact H2_) | (have H2_ := (Option.bind_some _ _).symm.trans H; with_reducible exact H2_) | with_reducible exact H | (rw [hy428]; exact H) | exact H
   have Ny428 := Aside0.mk hy428
   clear hy428
   replace H := Option.bind_eq_some_iff.mp H
   obtain ⟨t431, A280, H⟩ := H
   replace H : ((impl_GroupsNames.f kj5 t415 (([(⟨(rd_T42 t409 t410).f0, false⟩ : S42)] : List (S42)))).bind fun t436 => (if t426.toList = ([] : List UInt8) then (none) else (if t436.toList = t426.toList then (if ((t431.toList == t426.toList) == (!((rd_T42 t409 t410).f1))) = true then (if 1 ≤ (t431.size : Int) then (if 1 ≤ (t426.size : Int) then (some ((t431.extract 1 t431.size).toList == (t426.extract 1 t426.size).toList)) else (none)) else (none)) else (none)) else (none)))) = some r := H
   have A28 := Aside0.mk A280
   clear A280
   obtain ⟨y433, hy433⟩ : ∃ y_ : List (S42), y_ = (([(⟨(rd_T42 t409 t410).f0, false⟩ : S42)] : List (S42))) := ⟨_, rfl⟩
   replace H : ((impl_GroupsNames.f kj5 t415 y433).bind fun t436 => (if t426.toList = ([] : List UInt8) then (none) else (if t436.toList = t426.toList then (if ((t431.toList == t426.toList) == (!((rd_T42 t409 t410).f1))) = true then (if 1 ≤ (t431.size : Int) then (if 1 ≤ (t426.size : Int) then (some ((t431.extract 1 t431.size).toList == (t426.extract 1 t426.size).toList)) else (none)) else (none)) else (none)) else (none)))) = some r := by first | (rw [hy433]; with_reducible exact H) | (have H2_ := (Option.bind_some _ _).symm.trans H; rw [hy433]; with_reducible exact H2_) | (have H2_ := (Option.bind_some _ _).symm.trans H; with_reducible exact H2_) | with_reducible exact H | (rw [hy433]; exact H) | exact H
   have Ny433 := Aside0.mk hy433
   clear hy433
   replace H := Option.bind_eq_some_iff.mp H
   obtain ⟨t436, A290, H⟩ := H
   replace H : (if t426.toList = ([] : List UInt8) then (none) else (if t436.toList = t426.toList then (if ((t431.toList == t426.toList) == (!((rd_T42 t409 t410).f1))) = true then (if 1 ≤ (t431.size : Int) then (if 1 ≤ (t426.size : Int) then (some ((t431.extract 1 t431.size).toList == (t426.extract 1 t426.size).toList)) else (none)) else (none)) else (none)) else (none))) = some r := H
   have A29 := Aside0.mk A290
   clear A290
   by_cases c30 : t426.toList = ([] : List UInt8)
   ·rw [if_pos c30] at H
    exact absurd H (by simp)
   rw [if_neg c30] at H
   have c30b0 : (t426.toList == ([] : List UInt8)) = false := beq_eq_false_iff_ne.mpr c30
   have c30b1 : (t426.toList != ([] : List UInt8)) = true := bne_iff_ne.mpr c30
   by_cases c31 : t436.toList = t426.toList
   rotate_left
   ·rw [if_neg c31] at H
    exact absurd H (by simp)
   rw [if_pos c31] at H
   have c31b0 : (t436.toList == t426.toList) = true := beq_iff_eq.mpr c31
   have c31b1 : (t436.toList != t426.toList) = false := bne_eq_false_iff_eq.mpr c31
   clear c31
   by_cases c32 : ((t431.toList == t426.toList) == (!((rd_T42 t409 t410).f1))) = true
   rotate_left
   ·rw [if_neg c32] at H
    exact absurd H (by simp)
   rw [if_pos c32] at H
   have c32b0 : ((t431.toList == t426.toList) == (!((rd_T42 t409 t410).f1))) = true := c32
   (try (have c32b1 : decide ((t431.toList == t426.toList) = (!((rd_T42 t409 t410).f1))) = true := by simpa using c32))
   (try (have c32b2 : ((t431.toList == t426.toList) == (!((rd_T42 t409 t410).f1))) = true := by simpa using c32))
   clear c32
   by_cases c33 : 1 ≤ (t431.size : Int)
   rotate_left
   ·rw [if_neg c33] at H
    exact absurd H (by simp)
   rw [if_pos c33] at H
   have c33b0 := eq_true c33
   have c33b1 : decide (1 ≤ (t431.size : Int)) = true := decide_eq_true c33
   clear c33
   by_cases c34 : 1 ≤ (t426.size : Int)
   rotate_left
   ·rw [if_neg c34] at H
    exact absurd H (by simp)
   rw [if_pos c34] at H
   have c34b0 := eq_true c34
   have c34b1 : decide (1 ≤ (t426.size : Int)) = true := decide_eq_true c34
   clear c34
   obtain rfl := Option.some.inj H
   obtain ⟨Ao35, co35, eo35⟩ := Kd.R_slice HO_6.out
   subst eo35
   go_wp2_with (first | (go_at_call 26; (with_reducible refine (impl_ContourOf.calls kj5 _ _ t415 t425 _ ?side1 ?side2 A24.out).mono ?_); (case side1 => repeat (first | exact (Kd.R_reads' HO_6.out).2.2 | (with_reducible refine Kd.C_alloc ?_ _) | (with_reducible refine Kd.C_drewN ?_ _) | (with_reducible refine Kd.C_drew ?_))); (case side2 => exact (Kd.R_reads' HO_6.out).2.1); rintro e w36 ⟨rfl, hb⟩; have n0_ := Aside0.mk (Kd.Q_below (by (with_reducible repeat (first | apply Kd.Q_alloc | apply Kd.Q_drewN | apply Kd.Q_drew)); exact HO_4.out) hb); have n1_ := Aside0.mk (Kd.R_below (by (with_reducible repeat (first | apply Kd.R_alloc | apply Kd.R_drewN | apply Kd.R_drew)); exact HO_6.out) hb); have n2_ := Aside0.mk (Kd.R_below (by (with_reducible repeat (first | apply Kd.R_alloc | apply Kd.R_drewN | apply Kd.R_drew)); exact HO_8.out) hb); have n3_ := Aside0.mk (below_step (by repeat (first | (with_reducible first | exact HB.out | apply below_alloc | apply pw_below_drewN | apply below_drew1) | exact HB.out)) hb); clear HO_4; clear HO_6; clear HO_8; clear HB; have HO_4 := n0_; have HO_6 := n1_; have HO_8 := n2_; have HB := n3_; clear n0_ n1_ n2_ n3_; (try clear hb); (try clear hb2); (try clear hk); (try clear hi)) | (go_at_call 25; (with_reducible refine (impl_NeumeName.calls t425 t426 _ ?side1 A25.out).mono ?_); (case side1 => exact GOk.sub (GOk.below HG.out (by repeat (first | (with_reducible first | exact HB.out | apply below_alloc | apply pw_below_drewN | apply below_drew1) | exact HB.out))) (by decide)); rintro e w37 ⟨rfl, hb⟩; have n0_ := Aside0.mk (Kd.Q_below (by (with_reducible repeat (first | apply Kd.Q_alloc | apply Kd.Q_drewN | apply Kd.Q_drew)); exact HO_4.out) hb); have n1_ := Aside0.mk (Kd.R_below (by (with_reducible repeat (first | apply Kd.R_alloc | apply Kd.R_drewN | apply Kd.R_drew)); exact HO_6.out) hb); have n2_ := Aside0.mk (Kd.R_below (by (with_reducible repeat (first | apply Kd.R_alloc | apply Kd.R_drewN | apply Kd.R_drew)); exact HO_8.out) hb); have n3_ := Aside0.mk (below_step (by repeat (first | (with_reducible first | exact HB.out | apply below_alloc | apply pw_below_drewN | apply below_drew1) | exact HB.out)) hb); clear HO_4; clear HO_6; clear HO_8; clear HB; have HO_4 := n0_; have HO_6 := n1_; have HO_8 := n2_; have HB := n3_; clear n0_ n1_ n2_ n3_; (try clear hb); (try clear hb2); (try clear hk); (try clear hi); have p427 : 0 ≤ (t410 : Int) := of_decide_eq_true (by first | (with_reducible assumption) | assumption); have q427 : t410 < (t409.length : Int) := of_decide_eq_true (by first | (with_reducible assumption) | assumption); obtain ⟨ad427, e427, hx427_0, hx427_1⟩ := at_T42 (Kd.Q_reads' HO_4.out).2.2 t410 p427 q427; cases e427; replace p427 := eq_true p427; replace q427 := eq_true q427) | ((with_reducible refine gate_dst (N := 65) rfl ?_); refine Kd.R_lit k42 _ 42 ?hg (N := 65) ?hd (xs := ([(⟨(rd_T42 t409 t410).f0, (rd_T42 t409 t410).f1⟩ : S42)] : List (S42))) (inner := [.int .i64 ((rd_T42 t409 t410).f0), .bool ((rd_T42 t409 t410).f1)]) (ok := fun _ => True) (okp := fun _ => True) ?hr ?hp (fun _ hk => hk) trivial (Below.refl _ _) (Nat.le_refl _) (by simp) ?_; (case hd => rfl); (case hg => rfl); (case hr => first | (go_simp; done) | (go_simp; rfl)); (case hp => exact (Reps.c2 (show Kd.M k42 _ _ _ (⟨(rd_T42 t409 t410).f0, (rd_T42 t409 t410).f1⟩ : S42) [.int .i64 ((rd_T42 t409 t410).f0), .bool ((rd_T42 t409 t410).f1)] from (k42_mkM _ _ _ (⟨(rd_T42 t409 t410).f0, (rd_T42 t409 t410).f1⟩ : S42) )) (Reps.none _ _))); intro v429 w38 ho39 hb hg_ hnew_; clear hg_ hnew_; (first | rw [← Ny428.out] at ho39 | (simp only [Int.reduceToNat] at ho39; rw [← Ny428.out] at ho39)); have n0_ := Aside0.mk (Kd.Q_elder' (by (with_reducible repeat (first | apply Kd.Q_alloc | apply Kd.Q_drewN | apply Kd.Q_drew)); exact HO_4.out) (Kd.R_base ho39) hb); have n1_ := Aside0.mk (Kd.R_below (by (with_reducible repeat (first | apply Kd.R_alloc | apply Kd.R_drewN | apply Kd.R_drew)); exact HO_6.out) hb); have n2_ := Aside0.mk (Kd.R_below (by (with_reducible repeat (first | apply Kd.R_alloc | apply Kd.R_drewN | apply Kd.R_drew)); exact HO_8.out) hb); have n3_ := Aside0.mk (Kd.R_lower (Kd.R_new' ho39 (Kd.Q_lt (by (with_reducible repeat (first | apply Kd.Q_alloc | apply Kd.Q_drewN | apply Kd.Q_drew)); exact HO_4.out))) (below_size (by repeat (first | (with_reducible first | exact HB.out | apply below_alloc | apply pw_below_drewN | apply below_drew1) | exact HB.out)))); have n4_ := Aside0.mk (below_step (by repeat (first | (with_reducible first | exact HB.out | apply below_alloc | apply pw_below_drewN | apply below_drew1) | exact HB.out)) hb); clear HO_4; clear HO_6; clear HO_8; clear HB; have HO_4 := n0_; have HO_6 := n1_; have HO_8 := n2_; have HO430 := n3_; have HB := n4_; clear n0_ n1_ n2_ n3_ n4_; clear hb ho39; obtain ⟨Ao40, co40, eo40⟩ := Kd.R_slice HO430.out; subst eo40) | (go_at_call 14; (with_reducible refine (impl_GroupsNames.calls kj5 _ _ t415 _ _ y428 t431 _ ?side1 ?side2 ?side3 ?side4 ?side5 A28.out).mono ?_); (case side1 => repeat (first | exact (Kd.R_reads' HO_6.out).2.2 | (with_reducible refine Kd.C_alloc ?_ _) | (with_reducible refine Kd.C_drewN ?_ _) | (with_reducible refine Kd.C_drew ?_))); (case side2 => exact (Kd.R_reads' HO_6.out).2.1); (case side3 => repeat (first | exact (Kd.R_reads' HO430.out).2.2 | (with_reducible refine Kd.C_alloc ?_ _) | (with_reducible refine Kd.C_drewN ?_ _) | (with_reducible refine Kd.C_drew ?_))); (case side4 => exact (Kd.R_reads' HO430.out).2.1); (case side5 => exact GOk.sub (GOk.below HG.out (by repeat (first | (with_reducible first | exact HB.out | apply below_alloc | apply pw_below_drewN | apply below_drew1) | exact HB.out))) (by decide)); rintro e w41 ⟨rfl, hb⟩; have n0_ := Aside0.mk (Kd.Q_below (by (with_reducible repeat (first | apply Kd.Q_alloc | apply Kd.Q_drewN | apply Kd.Q_drew)); exact HO_4.out) hb); have n1_ := Aside0.mk (Kd.R_below (by (with_reducible repeat (first | apply Kd.R_alloc | apply Kd.R_drewN | apply Kd.R_drew)); exact HO_6.out) hb); have n2_ := Aside0.mk (Kd.R_below (by (with_reducible repeat (first | apply Kd.R_alloc | apply Kd.R_drewN | apply Kd.R_drew)); exact HO_8.out) hb); have n3_ := Aside0.mk (Kd.R_below (by (with_reducible repeat (first | apply Kd.R_alloc | apply Kd.R_drewN | apply Kd.R_drew)); exact HO430.out) hb); have n4_ := Aside0.mk (below_step (by repeat (first | (with_reducible first | exact HB.out | apply below_alloc | apply pw_below_drewN | apply below_drew1) | exact HB.out)) hb); clear HO_4; clear HO_6; clear HO_8; clear HO430; clear HB; have HO_4 := n0_; have HO_6 := n1_; have HO_8 := n2_; have HO430 := n3_; have HB := n4_; clear n0_ n1_ n2_ n3_ n4_; (try clear hb); (try clear hb2); (try clear hk); (try clear hi); have p432 : 0 ≤ (t410 : Int) := of_decide_eq_true (by first | (with_reducible assumption) | assumption); have q432 : t410 < (t409.length : Int) := of_decide_eq_true (by first | (with_reducible assumption) | assumption); obtain ⟨ad432, e432, hx432_0, hx432_1⟩ := at_T42 (Kd.Q_reads' HO_4.out).2.2 t410 p432 q432; obtain rfl : ad427 = ad432 := (by injection e432); replace p432 := eq_true p432; replace q432 := eq_true q432) | ((with_reducible refine gate_dst (N := 74) rfl ?_); refine Kd.R_lit k42 _ 42 ?hg (N := 74) ?hd (xs := ([(⟨(rd_T42 t409 t410).f0, false⟩ : S42)] : List (S42))) (inner := [.int .i64 ((rd_T42 t409 t410).f0), .bool false]) (ok := fun _ => True) (okp := fun _ => True) ?hr ?hp (fun _ hk => hk) trivial (Below.refl _ _) (Nat.le_refl _) (by simp) ?_; (case hd => rfl); (case hg => rfl); (case hr => first | (go_simp; done) | (go_simp; rfl)); (case hp => exact (Reps.c2 (show Kd.M k42 _ _ _ (⟨(rd_T42 t409 t410).f0, false⟩ : S42) [.int .i64 ((rd_T42 t409 t410).f0), .bool false] from (k42_mkM _ _ _ (⟨(rd_T42 t409 t410).f0, false⟩ : S42) )) (Reps.none _ _))); intro v434 w42 ho43 hb hg_ hnew_; clear hg_ hnew_; (first | rw [← Ny433.out] at ho43 | (simp only [Int.reduceToNat] at ho43; rw [← Ny433.out] at ho43)); have n0_ := Aside0.mk (Kd.Q_elder' (by (with_reducible repeat (first | apply Kd.Q_alloc | apply Kd.Q_drewN | apply Kd.Q_drew)); exact HO_4.out) (Kd.R_base ho43) hb); have n1_ := Aside0.mk (Kd.R_below (by (with_reducible repeat (first | apply Kd.R_alloc | apply Kd.R_drewN | apply Kd.R_drew)); exact HO_6.out) hb); have n2_ := Aside0.mk (Kd.R_below (by (with_reducible repeat (first | apply Kd.R_alloc | apply Kd.R_drewN | apply Kd.R_drew)); exact HO_8.out) hb); have n3_ := Aside0.mk (Kd.R_elder' (by (with_reducible repeat (first | apply Kd.R_alloc | apply Kd.R_drewN | apply Kd.R_drew)); exact HO430.out) (Kd.R_base ho43) hb); have n4_ := Aside0.mk (Kd.R_lower (Kd.R_new' (Kd.R_new' ho43 (Kd.Q_lt (by (with_reducible repeat (first | apply Kd.Q_alloc | apply Kd.Q_drewN | apply Kd.Q_drew)); exact HO_4.out))) (Kd.R_lt (by (with_reducible repeat (first | apply Kd.R_alloc | apply Kd.R_drewN | apply Kd.R_drew)); exact HO430.out))) (below_size (by repeat (first | (with_reducible first | exact HB.out | apply below_alloc | apply pw_below_drewN | apply below_drew1) | exact HB.out)))); have n5_ := Aside0.mk (below_step (by repeat (first | (with_reducible first | exact HB.out | apply below_alloc | apply pw_below_drewN | apply below_drew1) | exact HB.out)) hb); clear HO_4; clear HO_6; clear HO_8; clear HO430; clear HB; have HO_4 := n0_; have HO_6 := n1_; have HO_8 := n2_; have HO430 := n3_; have HO435 := n4_; have HB := n5_; clear n0_ n1_ n2_ n3_ n4_ n5_; clear hb ho43; obtain ⟨Ao44, co44, eo44⟩ := Kd.R_slice HO435.out; subst eo44) | (go_at_call 14; (with_reducible refine (impl_GroupsNames.calls kj5 _ _ t415 _ _ y433 t436 _ ?side1 ?side2 ?side3 ?side4 ?side5 A29.out).mono ?_); (case side1 => repeat (first | exact (Kd.R_reads' HO_6.out).2.2 | (with_reducible refine Kd.C_alloc ?_ _) | (with_reducible refine Kd.C_drewN ?_ _) | (with_reducible refine Kd.C_drew ?_))); (case side2 => exact (Kd.R_reads' HO_6.out).2.1); (case side3 => repeat (first | exact (Kd.R_reads' HO435.out).2.2 | (with_reducible refine Kd.C_alloc ?_ _) | (with_reducible refine Kd.C_drewN ?_ _) | (with_reducible refine Kd.C_drew ?_))); (case side4 => exact (Kd.R_reads' HO435.out).2.1); (case side5 => exact GOk.sub (GOk.below HG.out (by repeat (first | (with_reducible first | exact HB.out | apply below_alloc | apply pw_below_drewN | apply below_drew1) | exact HB.out))) (by decide)); rintro e w45 ⟨rfl, hb⟩; have n0_ := Aside0.mk (Kd.Q_below (by (with_reducible repeat (first | apply Kd.Q_alloc | apply Kd.Q_drewN | apply Kd.Q_drew)); exact HO_4.out) hb); have n1_ := Aside0.mk (Kd.R_below (by (with_reducible repeat (first | apply Kd.R_alloc | apply Kd.R_drewN | apply Kd.R_drew)); exact HO_6.out) hb); have n2_ := Aside0.mk (Kd.R_below (by (with_reducible repeat (first | apply Kd.R_alloc | apply Kd.R_drewN | apply Kd.R_drew)); exact HO_8.out) hb); have n3_ := Aside0.mk (Kd.R_below (by (with_reducible repeat (first | apply Kd.R_alloc | apply Kd.R_drewN | apply Kd.R_drew)); exact HO430.out) hb); have n4_ := Aside0.mk (Kd.R_below (by (with_reducible repeat (first | apply Kd.R_alloc | apply Kd.R_drewN | apply Kd.R_drew)); exact HO435.out) hb); have n5_ := Aside0.mk (below_step (by repeat (first | (with_reducible first | exact HB.out | apply below_alloc | apply pw_below_drewN | apply below_drew1) | exact HB.out)) hb); clear HO_4; clear HO_6; clear HO_8; clear HO430; clear HO435; clear HB; have HO_4 := n0_; have HO_6 := n1_; have HO_8 := n2_; have HO430 := n3_; have HO435 := n4_; have HB := n5_; clear n0_ n1_ n2_ n3_ n4_ n5_; (try clear hb); (try clear hb2); (try clear hk); (try clear hi); have p437 : 0 ≤ (t410 : Int) := of_decide_eq_true (by first | (with_reducible assumption) | assumption); have q437 : t410 < (t409.length : Int) := of_decide_eq_true (by first | (with_reducible assumption) | assumption); obtain ⟨ad437, e437, hx437_0, hx437_1⟩ := at_T42 (Kd.Q_reads' HO_4.out).2.2 t410 p437 q437; obtain rfl : ad427 = ad437 := (by injection e437); replace p437 := eq_true p437; replace q437 := eq_true q437))
   repeat (go_quiet (first | (go_at_call 26; (with_reducible refine (impl_ContourOf.calls kj5 _ _ t415 t425 _ ?side1 ?side2 A24.out).mono ?_); (case side1 => repeat (first | exact (Kd.R_reads' HO_6.out).2.2 | (with_reducible refine Kd.C_alloc ?_ _) | (with_reducible refine Kd.C_drewN ?_ _) | (with_reducible refine Kd.C_drew ?_))); (case side2 => exact (Kd.R_reads' HO_6.out).2.1); rintro e w36 ⟨rfl, hb⟩; have n0_ := Aside0.mk (Kd.Q_below (by (with_reducible repeat (first | apply Kd.Q_alloc | apply Kd.Q_drewN | apply Kd.Q_drew)); exact HO_4.out) hb); have n1_ := Aside0.mk (Kd.R_below (by (with_reducible repeat (first | apply Kd.R_alloc | apply Kd.R_drewN | apply Kd.R_drew)); exact HO_6.out) hb); have n2_ := Aside0.mk (Kd.R_below (by (with_reducible repeat (first | apply Kd.R_alloc | apply Kd.R_drewN | apply Kd.R_drew)); exact HO_8.out) hb); have n3_ := Aside0.mk (below_step (by repeat (first | (with_reducible first | exact HB.out | apply below_alloc | apply pw_below_drewN | apply below_drew1) | exact HB.out)) hb); clear HO_4; clear HO_6; clear HO_8; clear HB; have HO_4 := n0_; have HO_6 := n1_; have HO_8 := n2_; have HB := n3_; clear n0_ n1_ n2_ n3_; (try clear hb); (try clear hb2); (try clear hk); (try clear hi)) | (go_at_call 25; (with_reducible refine (impl_NeumeName.calls t425 t426 _ ?side1 A25.out).mono ?_); (case side1 => exact GOk.sub (GOk.below HG.out (by repeat (first | (with_reducible first | exact HB.out | apply below_alloc | apply pw_below_drewN | apply below_drew1) | exact HB.out))) (by decide)); rintro e w37 ⟨rfl, hb⟩; have n0_ := Aside0.mk (Kd.Q_below (by (with_reducible repeat (first | apply Kd.Q_alloc | apply Kd.Q_drewN | apply Kd.Q_drew)); exact HO_4.out) hb); have n1_ := Aside0.mk (Kd.R_below (by (with_reducible repeat (first | apply Kd.R_alloc | apply Kd.R_drewN | apply Kd.R_drew)); exact HO_6.out) hb); have n2_ := Aside0.mk (Kd.R_below (by (with_reducible repeat (first | apply Kd.R_alloc | apply Kd.R_drewN | apply Kd.R_drew)); exact HO_8.out) hb); have n3_ := Aside0.mk (below_step (by repeat (first | (with_reducible first | exact HB.out | apply below_alloc | apply pw_below_drewN | apply below_drew1) | exact HB.out)) hb); clear HO_4; clear HO_6; clear HO_8; clear HB; have HO_4 := n0_; have HO_6 := n1_; have HO_8 := n2_; have HB := n3_; clear n0_ n1_ n2_ n3_; (try clear hb); (try clear hb2); (try clear hk); (try clear hi); have p427 : 0 ≤ (t410 : Int) := of_decide_eq_true (by first | (with_reducible assumption) | assumption); have q427 : t410 < (t409.length : Int) := of_decide_eq_true (by first | (with_reducible assumption) | assumption); obtain ⟨ad427, e427, hx427_0, hx427_1⟩ := at_T42 (Kd.Q_reads' HO_4.out).2.2 t410 p427 q427; cases e427; replace p427 := eq_true p427; replace q427 := eq_true q427) | ((with_reducible refine gate_dst (N := 65) rfl ?_); refine Kd.R_lit k42 _ 42 ?hg (N := 65) ?hd (xs := ([(⟨(rd_T42 t409 t410).f0, (rd_T42 t409 t410).f1⟩ : S42)] : List (S42))) (inner := [.int .i64 ((rd_T42 t409 t410).f0), .bool ((rd_T42 t409 t410).f1)]) (ok := fun _ => True) (okp := fun _ => True) ?hr ?hp (fun _ hk => hk) trivial (Below.refl _ _) (Nat.le_refl _) (by simp) ?_; (case hd => rfl); (case hg => rfl); (case hr => first | (go_simp; done) | (go_simp; rfl)); (case hp => exact (Reps.c2 (show Kd.M k42 _ _ _ (⟨(rd_T42 t409 t410).f0, (rd_T42 t409 t410).f1⟩ : S42) [.int .i64 ((rd_T42 t409 t410).f0), .bool ((rd_T42 t409 t410).f1)] from (k42_mkM _ _ _ (⟨(rd_T42 t409 t410).f0, (rd_T42 t409 t410).f1⟩ : S42) )) (Reps.none _ _))); intro v429 w38 ho39 hb hg_ hnew_; clear hg_ hnew_; (first | rw [← Ny428.out] at ho39 | (simp only [Int.reduceToNat] at ho39; rw [← Ny428.out] at ho39)); have n0_ := Aside0.mk (Kd.Q_elder' (by (with_reducible repeat (first | apply Kd.Q_alloc | apply Kd.Q_drewN | apply Kd.Q_drew)); exact HO_4.out) (Kd.R_base ho39) hb); have n1_ := Aside0.mk (Kd.R_below (by (with_reducible repeat (first | apply Kd.R_alloc | apply Kd.R_drewN | apply Kd.R_drew)); exact HO_6.out) hb); have n2_ := Aside0.mk (Kd.R_below (by (with_reducible repeat (first | apply Kd.R_alloc | apply Kd.R_drewN | apply Kd.R_drew)); exact HO_8.out) hb); have n3_ := Aside0.mk (Kd.R_lower (Kd.R_new' ho39 (Kd.Q_lt (by (with_reducible repeat (first | apply Kd.Q_alloc | apply Kd.Q_drewN | apply Kd.Q_drew)); exact HO_4.out))) (below_size (by repeat (first | (with_reducible first | exact HB.out | apply below_alloc | apply pw_below_drewN | apply below_drew1) | exact HB.out)))); have n4_ := Aside0.mk (below_step (by repeat (first | (with_reducible first | exact HB.out | apply below_alloc | apply pw_below_drewN | apply below_drew1) | exact HB.out)) hb); clear HO_4; clear HO_6; clear HO_8; clear HB; have HO_4 := n0_; have HO_6 := n1_; have HO_8 := n2_; have HO430 := n3_; have HB := n4_; clear n0_ n1_ n2_ n3_ n4_; clear hb ho39; obtain ⟨Ao40, co40, eo40⟩ := Kd.R_slice HO430.out; subst eo40) | (go_at_call 14; (with_reducible refine (impl_GroupsNames.calls kj5 _ _ t415 _ _ y428 t431 _ ?side1 ?side2 ?side3 ?side4 ?side5 A28.out).mono ?_); (case side1 => repeat (first | exact (Kd.R_reads' HO_6.out).2.2 | (with_reducible refine Kd.C_alloc ?_ _) | (with_reducible refine Kd.C_drewN ?_ _) | (with_reducible refine Kd.C_drew ?_))); (case side2 => exact (Kd.R_reads' HO_6.out).2.1); (case side3 => repeat (first | exact (Kd.R_reads' HO430.out).2.2 | (with_reducible refine Kd.C_alloc ?_ _) | (with_reducible refine Kd.C_drewN ?_ _) | (with_reducible refine Kd.C_drew ?_))); (case side4 => exact (Kd.R_reads' HO430.out).2.1); (case side5 => exact GOk.sub (GOk.below HG.out (by repeat (first | (with_reducible first | exact HB.out | apply below_alloc | apply pw_below_drewN | apply below_drew1) | exact HB.out))) (by decide)); rintro e w41 ⟨rfl, hb⟩; have n0_ := Aside0.mk (Kd.Q_below (by (with_reducible repeat (first | apply Kd.Q_alloc | apply Kd.Q_drewN | apply Kd.Q_drew)); exact HO_4.out) hb); have n1_ := Aside0.mk (Kd.R_below (by (with_reducible repeat (first | apply Kd.R_alloc | apply Kd.R_drewN | apply Kd.R_drew)); exact HO_6.out) hb); have n2_ := Aside0.mk (Kd.R_below (by (with_reducible repeat (first | apply Kd.R_alloc | apply Kd.R_drewN | apply Kd.R_drew)); exact HO_8.out) hb); have n3_ := Aside0.mk (Kd.R_below (by (with_reducible repeat (first | apply Kd.R_alloc | apply Kd.R_drewN | apply Kd.R_drew)); exact HO430.out) hb); have n4_ := Aside0.mk (below_step (by repeat (first | (with_reducible first | exact HB.out | apply below_alloc | apply pw_below_drewN | apply below_drew1) | exact HB.out)) hb); clear HO_4; clear HO_6; clear HO_8; clear HO430; clear HB; have HO_4 := n0_; have HO_6 := n1_; have HO_8 := n2_; have HO430 := n3_; have HB := n4_; clear n0_ n1_ n2_ n3_ n4_; (try clear hb); (try clear hb2); (try clear hk); (try clear hi); have p432 : 0 ≤ (t410 : Int) := of_decide_eq_true (by first | (with_reducible assumption) | assumption); have q432 : t410 < (t409.length : Int) := of_decide_eq_true (by first | (with_reducible assumption) | assumption); obtain ⟨ad432, e432, hx432_0, hx432_1⟩ := at_T42 (Kd.Q_reads' HO_4.out).2.2 t410 p432 q432; obtain rfl : ad427 = ad432 := (by injection e432); replace p432 := eq_true p432; replace q432 := eq_true q432) | ((with_reducible refine gate_dst (N := 74) rfl ?_); refine Kd.R_lit k42 _ 42 ?hg (N := 74) ?hd (xs := ([(⟨(rd_T42 t409 t410).f0, false⟩ : S42)] : List (S42))) (inner := [.int .i64 ((rd_T42 t409 t410).f0), .bool false]) (ok := fun _ => True) (okp := fun _ => True) ?hr ?hp (fun _ hk => hk) trivial (Below.refl _ _) (Nat.le_refl _) (by simp) ?_; (case hd => rfl); (case hg => rfl); (case hr => first | (go_simp; done) | (go_simp; rfl)); (case hp => exact (Reps.c2 (show Kd.M k42 _ _ _ (⟨(rd_T42 t409 t410).f0, false⟩ : S42) [.int .i64 ((rd_T42 t409 t410).f0), .bool false] from (k42_mkM _ _ _ (⟨(rd_T42 t409 t410).f0, false⟩ : S42) )) (Reps.none _ _))); intro v434 w42 ho43 hb hg_ hnew_; clear hg_ hnew_; (first | rw [← Ny433.out] at ho43 | (simp only [Int.reduceToNat] at ho43; rw [← Ny433.out] at ho43)); have n0_ := Aside0.mk (Kd.Q_elder' (by (with_reducible repeat (first | apply Kd.Q_alloc | apply Kd.Q_drewN | apply Kd.Q_drew)); exact HO_4.out) (Kd.R_base ho43) hb); have n1_ := Aside0.mk (Kd.R_below (by (with_reducible repeat (first | apply Kd.R_alloc | apply Kd.R_drewN | apply Kd.R_drew)); exact HO_6.out) hb); have n2_ := Aside0.mk (Kd.R_below (by (with_reducible repeat (first | apply Kd.R_alloc | apply Kd.R_drewN | apply Kd.R_drew)); exact HO_8.out) hb); have n3_ := Aside0.mk (Kd.R_elder' (by (with_reducible repeat (first | apply Kd.R_alloc | apply Kd.R_drewN | apply Kd.R_drew)); exact HO430.out) (Kd.R_base ho43) hb); have n4_ := Aside0.mk (Kd.R_lower (Kd.R_new' (Kd.R_new' ho43 (Kd.Q_lt (by (with_reducible repeat (first | apply Kd.Q_alloc | apply Kd.Q_drewN | apply Kd.Q_drew)); exact HO_4.out))) (Kd.R_lt (by (with_reducible repeat (first | apply Kd.R_alloc | apply Kd.R_drewN | apply Kd.R_drew)); exact HO430.out))) (below_size (by repeat (first | (with_reducible first | exact HB.out | apply below_alloc | apply pw_below_drewN | apply below_drew1) | exact HB.out)))); have n5_ := Aside0.mk (below_step (by repeat (first | (with_reducible first | exact HB.out | apply below_alloc | apply pw_below_drewN | apply below_drew1) | exact HB.out)) hb); clear HO_4; clear HO_6; clear HO_8; clear HO430; clear HB; have HO_4 := n0_; have HO_6 := n1_; have HO_8 := n2_; have HO430 := n3_; have HO435 := n4_; have HB := n5_; clear n0_ n1_ n2_ n3_ n4_ n5_; clear hb ho43; obtain ⟨Ao44, co44, eo44⟩ := Kd.R_slice HO435.out; subst eo44) | (go_at_call 14; (with_reducible refine (impl_GroupsNames.calls kj5 _ _ t415 _ _ y433 t436 _ ?side1 ?side2 ?side3 ?side4 ?side5 A29.out).mono ?_); (case side1 => repeat (first | exact (Kd.R_reads' HO_6.out).2.2 | (with_reducible refine Kd.C_alloc ?_ _) | (with_reducible refine Kd.C_drewN ?_ _) | (with_reducible refine Kd.C_drew ?_))); (case side2 => exact (Kd.R_reads' HO_6.out).2.1); (case side3 => repeat (first | exact (Kd.R_reads' HO435.out).2.2 | (with_reducible refine Kd.C_alloc ?_ _) | (with_reducible refine Kd.C_drewN ?_ _) | (with_reducible refine Kd.C_drew ?_))); (case side4 => exact (Kd.R_reads' HO435.out).2.1); (case side5 => exact GOk.sub (GOk.below HG.out (by repeat (first | (with_reducible first | exact HB.out | apply below_alloc | apply pw_below_drewN | apply below_drew1) | exact HB.out))) (by decide)); rintro e w45 ⟨rfl, hb⟩; have n0_ := Aside0.mk (Kd.Q_below (by (with_reducible repeat (first | apply Kd.Q_alloc | apply Kd.Q_drewN | apply Kd.Q_drew)); exact HO_4.out) hb); have n1_ := Aside0.mk (Kd.R_below (by (with_reducible repeat (first | apply Kd.R_alloc | apply Kd.R_drewN | apply Kd.R_drew)); exact HO_6.out) hb); have n2_ := Aside0.mk (Kd.R_below (by (with_reducible repeat (first | apply Kd.R_alloc | apply Kd.R_drewN | apply Kd.R_drew)); exact HO_8.out) hb); have n3_ := Aside0.mk (Kd.R_below (by (with_reducible repeat (first | apply Kd.R_alloc | apply Kd.R_drewN | apply Kd.R_drew)); exact HO430.out) hb); have n4_ := Aside0.mk (Kd.R_below (by (with_reducible repeat (first | apply Kd.R_alloc | apply Kd.R_drewN | apply Kd.R_drew)); exact HO435.out) hb); have n5_ := Aside0.mk (below_step (by repeat (first | (with_reducible first | exact HB.out | apply below_alloc | apply pw_below_drewN | apply below_drew1) | exact HB.out)) hb); clear HO_4; clear HO_6; clear HO_8; clear HO430; clear HO435; clear HB; have HO_4 := n0_; have HO_6 := n1_; have HO_8 := n2_; have HO430 := n3_; have HO435 := n4_; have HB := n5_; clear n0_ n1_ n2_ n3_ n4_ n5_; (try clear hb); (try clear hb2); (try clear hk); (try clear hi); have p437 : 0 ≤ (t410 : Int) := of_decide_eq_true (by first | (with_reducible assumption) | assumption); have q437 : t410 < (t409.length : Int) := of_decide_eq_true (by first | (with_reducible assumption) | assumption); obtain ⟨ad437, e437, hx437_0, hx437_1⟩ := at_T42 (Kd.Q_reads' HO_4.out).2.2 t410 p437 q437; obtain rfl : ad427 = ad437 := (by injection e437); replace p437 := eq_true p437; replace q437 := eq_true q437)); try go_wp2_with (first | (go_at_call 26; (with_reducible refine (impl_ContourOf.calls kj5 _ _ t415 t425 _ ?side1 ?side2 A24.out).mono ?_); (case side1 => repeat (first | exact (Kd.R_reads' HO_6.out).2.2 | (with_reducible refine Kd.C_alloc ?_ _) | (with_reducible refine Kd.C_drewN ?_ _) | (with_reducible refine Kd.C_drew ?_))); (case side2 => exact (Kd.R_reads' HO_6.out).2.1); rintro e w36 ⟨rfl, hb⟩; have n0_ := Aside0.mk (Kd.Q_below (by (with_reducible repeat (first | apply Kd.Q_alloc | apply Kd.Q_drewN | apply Kd.Q_drew)); exact HO_4.out) hb); have n1_ := Aside0.mk (Kd.R_below (by (with_reducible repeat (first | apply Kd.R_alloc | apply Kd.R_drewN | apply Kd.R_drew)); exact HO_6.out) hb); have n2_ := Aside0.mk (Kd.R_below (by (with_reducible repeat (first | apply Kd.R_alloc | apply Kd.R_drewN | apply Kd.R_drew)); exact HO_8.out) hb); have n3_ := Aside0.mk (below_step (by repeat (first | (with_reducible first | exact HB.out | apply below_alloc | apply pw_below_drewN | apply below_drew1) | exact HB.out)) hb); clear HO_4; clear HO_6; clear HO_8; clear HB; have HO_4 := n0_; have HO_6 := n1_; have HO_8 := n2_; have HB := n3_; clear n0_ n1_ n2_ n3_; (try clear hb); (try clear hb2); (try clear hk); (try clear hi)) | (go_at_call 25; (with_reducible refine (impl_NeumeName.calls t425 t426 _ ?side1 A25.out).mono ?_); (case side1 => exact GOk.sub (GOk.below HG.out (by repeat (first | (with_reducible first | exact HB.out | apply below_alloc | apply pw_below_drewN | apply below_drew1) | exact HB.out))) (by decide)); rintro e w37 ⟨rfl, hb⟩; have n0_ := Aside0.mk (Kd.Q_below (by (with_reducible repeat (first | apply Kd.Q_alloc | apply Kd.Q_drewN | apply Kd.Q_drew)); exact HO_4.out) hb); have n1_ := Aside0.mk (Kd.R_below (by (with_reducible repeat (first | apply Kd.R_alloc | apply Kd.R_drewN | apply Kd.R_drew)); exact HO_6.out) hb); have n2_ := Aside0.mk (Kd.R_below (by (with_reducible repeat (first | apply Kd.R_alloc | apply Kd.R_drewN | apply Kd.R_drew)); exact HO_8.out) hb); have n3_ := Aside0.mk (below_step (by repeat (first | (with_reducible first | exact HB.out | apply below_alloc | apply pw_below_drewN | apply below_drew1) | exact HB.out)) hb); clear HO_4; clear HO_6; clear HO_8; clear HB; have HO_4 := n0_; have HO_6 := n1_; have HO_8 := n2_; have HB := n3_; clear n0_ n1_ n2_ n3_; (try clear hb); (try clear hb2); (try clear hk); (try clear hi); have p427 : 0 ≤ (t410 : Int) := of_decide_eq_true (by first | (with_reducible assumption) | assumption); have q427 : t410 < (t409.length : Int) := of_decide_eq_true (by first | (with_reducible assumption) | assumption); obtain ⟨ad427, e427, hx427_0, hx427_1⟩ := at_T42 (Kd.Q_reads' HO_4.out).2.2 t410 p427 q427; cases e427; replace p427 := eq_true p427; replace q427 := eq_true q427) | ((with_reducible refine gate_dst (N := 65) rfl ?_); refine Kd.R_lit k42 _ 42 ?hg (N := 65) ?hd (xs := ([(⟨(rd_T42 t409 t410).f0, (rd_T42 t409 t410).f1⟩ : S42)] : List (S42))) (inner := [.int .i64 ((rd_T42 t409 t410).f0), .bool ((rd_T42 t409 t410).f1)]) (ok := fun _ => True) (okp := fun _ => True) ?hr ?hp (fun _ hk => hk) trivial (Below.refl _ _) (Nat.le_refl _) (by simp) ?_; (case hd => rfl); (case hg => rfl); (case hr => first | (go_simp; done) | (go_simp; rfl)); (case hp => exact (Reps.c2 (show Kd.M k42 _ _ _ (⟨(rd_T42 t409 t410).f0, (rd_T42 t409 t410).f1⟩ : S42) [.int .i64 ((rd_T42 t409 t410).f0), .bool ((rd_T42 t409 t410).f1)] from (k42_mkM _ _ _ (⟨(rd_T42 t409 t410).f0, (rd_T42 t409 t410).f1⟩ : S42) )) (Reps.none _ _))); intro v429 w38 ho39 hb hg_ hnew_; clear hg_ hnew_; (first | rw [← Ny428.out] at ho39 | (simp only [Int.reduceToNat] at ho39; rw [← Ny428.out] at ho39)); have n0_ := Aside0.mk (Kd.Q_elder' (by (with_reducible repeat (first | apply Kd.Q_alloc | apply Kd.Q_drewN | apply Kd.Q_drew)); exact HO_4.out) (Kd.R_base ho39) hb); have n1_ := Aside0.mk (Kd.R_below (by (with_reducible repeat (first | apply Kd.R_alloc | apply Kd.R_drewN | apply Kd.R_drew)); exact HO_6.out) hb); have n2_ := Aside0.mk (Kd.R_below (by (with_reducible repeat (first | apply Kd.R_alloc | apply Kd.R_drewN | apply Kd.R_drew)); exact HO_8.out) hb); have n3_ := Aside0.mk (Kd.R_lower (Kd.R_new' ho39 (Kd.Q_lt (by (with_reducible repeat (first | apply Kd.Q_alloc | apply Kd.Q_drewN | apply Kd.Q_drew)); exact HO_4.out))) (below_size (by repeat (first | (with_reducible first | exact HB.out | apply below_alloc | apply pw_below_drewN | apply below_drew1) | exact HB.out)))); have n4_ := Aside0.mk (below_step (by repeat (first | (with_reducible first | exact HB.out | apply below_alloc | apply pw_below_drewN | apply below_drew1) | exact HB.out)) hb); clear HO_4; clear HO_6; clear HO_8; clear HB; have HO_4 := n0_; have HO_6 := n1_; have HO_8 := n2_; have HO430 := n3_; have HB := n4_; clear n0_ n1_ n2_ n3_ n4_; clear hb ho39; obtain ⟨Ao40, co40, eo40⟩ := Kd.R_slice HO430.out; subst eo40) | (go_at_call 14; (with_reducible refine (impl_GroupsNames.calls kj5 _ _ t415 _ _ y428 t431 _ ?side1 ?side2 ?side3 ?side4 ?side5 A28.out).mono ?_); (case side1 => repeat (first | exact (Kd.R_reads' HO_6.out).2.2 | (with_reducible refine Kd.C_alloc ?_ _) | (with_reducible refine Kd.C_drewN ?_ _) | (with_reducible refine Kd.C_drew ?_))); (case side2 => exact (Kd.R_reads' HO_6.out).2.1); (case side3 => repeat (first | exact (Kd.R_reads' HO430.out).2.2 | (with_reducible refine Kd.C_alloc ?_ _) | (with_reducible refine Kd.C_drewN ?_ _) | (with_reducible refine Kd.C_drew ?_))); (case side4 => exact (Kd.R_reads' HO430.out).2.1); (case side5 => exact GOk.sub (GOk.below HG.out (by repeat (first | (with_reducible first | exact HB.out | apply below_alloc | apply pw_below_drewN | apply below_drew1) | exact HB.out))) (by decide)); rintro e w41 ⟨rfl, hb⟩; have n0_ := Aside0.mk (Kd.Q_below (by (with_reducible repeat (first | apply Kd.Q_alloc | apply Kd.Q_drewN | apply Kd.Q_drew)); exact HO_4.out) hb); have n1_ := Aside0.mk (Kd.R_below (by (with_reducible repeat (first | apply Kd.R_alloc | apply Kd.R_drewN | apply Kd.R_drew)); exact HO_6.out) hb); have n2_ := Aside0.mk (Kd.R_below (by (with_reducible repeat (first | apply Kd.R_alloc | apply Kd.R_drewN | apply Kd.R_drew)); exact HO_8.out) hb); have n3_ := Aside0.mk (Kd.R_below (by (with_reducible repeat (first | apply Kd.R_alloc | apply Kd.R_drewN | apply Kd.R_drew)); exact HO430.out) hb); have n4_ := Aside0.mk (below_step (by repeat (first | (with_reducible first | exact HB.out | apply below_alloc | apply pw_below_drewN | apply below_drew1) | exact HB.out)) hb); clear HO_4; clear HO_6; clear HO_8; clear HO430; clear HB; have HO_4 := n0_; have HO_6 := n1_; have HO_8 := n2_; have HO430 := n3_; have HB := n4_; clear n0_ n1_ n2_ n3_ n4_; (try clear hb); (try clear hb2); (try clear hk); (try clear hi); have p432 : 0 ≤ (t410 : Int) := of_decide_eq_true (by first | (with_reducible assumption) | assumption); have q432 : t410 < (t409.length : Int) := of_decide_eq_true (by first | (with_reducible assumption) | assumption); obtain ⟨ad432, e432, hx432_0, hx432_1⟩ := at_T42 (Kd.Q_reads' HO_4.out).2.2 t410 p432 q432; obtain rfl : ad427 = ad432 := (by injection e432); replace p432 := eq_true p432; replace q432 := eq_true q432) | ((with_reducible refine gate_dst (N := 74) rfl ?_); refine Kd.R_lit k42 _ 42 ?hg (N := 74) ?hd (xs := ([(⟨(rd_T42 t409 t410).f0, false⟩ : S42)] : List (S42))) (inner := [.int .i64 ((rd_T42 t409 t410).f0), .bool false]) (ok := fun _ => True) (okp := fun _ => True) ?hr ?hp (fun _ hk => hk) trivial (Below.refl _ _) (Nat.le_refl _) (by simp) ?_; (case hd => rfl); (case hg => rfl); (case hr => first | (go_simp; done) | (go_simp; rfl)); (case hp => exact (Reps.c2 (show Kd.M k42 _ _ _ (⟨(rd_T42 t409 t410).f0, false⟩ : S42) [.int .i64 ((rd_T42 t409 t410).f0), .bool false] from (k42_mkM _ _ _ (⟨(rd_T42 t409 t410).f0, false⟩ : S42) )) (Reps.none _ _))); intro v434 w42 ho43 hb hg_ hnew_; clear hg_ hnew_; (first | rw [← Ny433.out] at ho43 | (simp only [Int.reduceToNat] at ho43; rw [← Ny433.out] at ho43)); have n0_ := Aside0.mk (Kd.Q_elder' (by (with_reducible repeat (first | apply Kd.Q_alloc | apply Kd.Q_drewN | apply Kd.Q_drew)); exact HO_4.out) (Kd.R_base ho43) hb); have n1_ := Aside0.mk (Kd.R_below (by (with_reducible repeat (first | apply Kd.R_alloc | apply Kd.R_drewN | apply Kd.R_drew)); exact HO_6.out) hb); have n2_ := Aside0.mk (Kd.R_below (by (with_reducible repeat (first | apply Kd.R_alloc | apply Kd.R_drewN | apply Kd.R_drew)); exact HO_8.out) hb); have n3_ := Aside0.mk (Kd.R_elder' (by (with_reducible repeat (first | apply Kd.R_alloc | apply Kd.R_drewN | apply Kd.R_drew)); exact HO430.out) (Kd.R_base ho43) hb); have n4_ := Aside0.mk (Kd.R_lower (Kd.R_new' (Kd.R_new' ho43 (Kd.Q_lt (by (with_reducible repeat (first | apply Kd.Q_alloc | apply Kd.Q_drewN | apply Kd.Q_drew)); exact HO_4.out))) (Kd.R_lt (by (with_reducible repeat (first | apply Kd.R_alloc | apply Kd.R_drewN | apply Kd.R_drew)); exact HO430.out))) (below_size (by repeat (first | (with_reducible first | exact HB.out | apply below_alloc | apply pw_below_drewN | apply below_drew1) | exact HB.out)))); have n5_ := Aside0.mk (below_step (by repeat (first | (with_reducible first | exact HB.out | apply below_alloc | apply pw_below_drewN | apply below_drew1) | exact HB.out)) hb); clear HO_4; clear HO_6; clear HO_8; clear HO430; clear HB; have HO_4 := n0_; have HO_6 := n1_; have HO_8 := n2_; have HO430 := n3_; have HO435 := n4_; have HB := n5_; clear n0_ n1_ n2_ n3_ n4_ n5_; clear hb ho43; obtain ⟨Ao44, co44, eo44⟩ := Kd.R_slice HO435.out; subst eo44) | (go_at_call 14; (with_reducible refine (impl_GroupsNames.calls kj5 _ _ t415 _ _ y433 t436 _ ?side1 ?side2 ?side3 ?side4 ?side5 A29.out).mono ?_); (case side1 => repeat (first | exact (Kd.R_reads' HO_6.out).2.2 | (with_reducible refine Kd.C_alloc ?_ _) | (with_reducible refine Kd.C_drewN ?_ _) | (with_reducible refine Kd.C_drew ?_))); (case side2 => exact (Kd.R_reads' HO_6.out).2.1); (case side3 => repeat (first | exact (Kd.R_reads' HO435.out).2.2 | (with_reducible refine Kd.C_alloc ?_ _) | (with_reducible refine Kd.C_drewN ?_ _) | (with_reducible refine Kd.C_drew ?_))); (case side4 => exact (Kd.R_reads' HO435.out).2.1); (case side5 => exact GOk.sub (GOk.below HG.out (by repeat (first | (with_reducible first | exact HB.out | apply below_alloc | apply pw_below_drewN | apply below_drew1) | exact HB.out))) (by decide)); rintro e w45 ⟨rfl, hb⟩; have n0_ := Aside0.mk (Kd.Q_below (by (with_reducible repeat (first | apply Kd.Q_alloc | apply Kd.Q_drewN | apply Kd.Q_drew)); exact HO_4.out) hb); have n1_ := Aside0.mk (Kd.R_below (by (with_reducible repeat (first | apply Kd.R_alloc | apply Kd.R_drewN | apply Kd.R_drew)); exact HO_6.out) hb); have n2_ := Aside0.mk (Kd.R_below (by (with_reducible repeat (first | apply Kd.R_alloc | apply Kd.R_drewN | apply Kd.R_drew)); exact HO_8.out) hb); have n3_ := Aside0.mk (Kd.R_below (by (with_reducible repeat (first | apply Kd.R_alloc | apply Kd.R_drewN | apply Kd.R_drew)); exact HO430.out) hb); have n4_ := Aside0.mk (Kd.R_below (by (with_reducible repeat (first | apply Kd.R_alloc | apply Kd.R_drewN | apply Kd.R_drew)); exact HO435.out) hb); have n5_ := Aside0.mk (below_step (by repeat (first | (with_reducible first | exact HB.out | apply below_alloc | apply pw_below_drewN | apply below_drew1) | exact HB.out)) hb); clear HO_4; clear HO_6; clear HO_8; clear HO430; clear HO435; clear HB; have HO_4 := n0_; have HO_6 := n1_; have HO_8 := n2_; have HO430 := n3_; have HO435 := n4_; have HB := n5_; clear n0_ n1_ n2_ n3_ n4_ n5_; (try clear hb); (try clear hb2); (try clear hk); (try clear hi); have p437 : 0 ≤ (t410 : Int) := of_decide_eq_true (by first | (with_reducible assumption) | assumption); have q437 : t410 < (t409.length : Int) := of_decide_eq_true (by first | (with_reducible assumption) | assumption); obtain ⟨ad437, e437, hx437_0, hx437_1⟩ := at_T42 (Kd.Q_reads' HO_4.out).2.2 t410 p437 q437; obtain rfl : ad427 = ad437 := (by injection e437); replace p437 := eq_true p437; replace q437 := eq_true q437)))
   go_ret
   exact ⟨by first | rfl | (simp [errW_none, errW_some] <;> rfl) | (simp [*, errW_none, errW_some] <;> rfl), by repeat (first | (with_reducible first | exact HB.out | apply below_alloc | apply pw_below_drewN | apply below_drew1) | exact HB.out)⟩
def laws_FnGroupsCut.Pure : Prop := ∀ (l0 : List Int), l0.length ≤ maxLen → l0.length * 1 ≤ 140737488351232 → (∀ x ∈ l0, (Lit.int .u8 x).wf = true) → ∃ k, laws_FnGroupsCut.f k l0 = some true
end Go.Proofs.YtldepdaglapdeaaDoor.E
end
section
namespace Go.Proofs.YtldepdaglapdeaaDoor.Pur
open Go.RowKit Go.Proofs.YtldepdaglapdeaaDoorW.PrintWords
def EvP {α : Type} (g : Nat → Option α) (P : α → Prop) : Prop := ∃ r, Ev g r ∧ P r
section
variable {α β : Type}
theorem EvP.bind {g : Nat → Option α} {f : Nat → α → Option β} {P : α → Prop} {Q : β → Prop} (h : EvP g P) (k : ∀ a, P a → EvP (fun n => f n a) Q) : EvP (fun n => (g n).bind (f n)) Q := by
  obtain ⟨a, ha, hp⟩ := h
  obtain ⟨b, hb, hq⟩ := k a hp
  exact ⟨b, Ev.bind ha hb, hq⟩
theorem EvP.ret {P : α → Prop} {r : α} (h : P r) : EvP (fun _ => some r) P := ⟨r, Ev.now r, h⟩
theorem EvP.con {o : Option α} {P : α → Prop} {r : α} (h : o = some r) (hp : P r) : EvP (fun _ => o) P := by subst h; exact .ret hp
theorem EvP.ite {c : Prop} [Decidable c] {f g : Nat → Option α} {P : α → Prop} (h : c → EvP f P) (k : ¬ c → EvP g P) : EvP (fun n => if c then f n else g n) P := by
  by_cases hc : c
  · obtain ⟨r, hr, hp⟩ := h hc
    exact ⟨r, Ev.congr (fun n => if_pos hc) hr, hp⟩
  · obtain ⟨r, hr, hp⟩ := k hc
    exact ⟨r, Ev.congr (fun n => if_neg hc) hr, hp⟩
theorem EvP.yes {c : Prop} [Decidable c] {f g : Nat → Option α} {P : α → Prop} (hc : c) (h : EvP f P) : EvP (fun n => if c then f n else g n) P := .ite (fun _ => h) (fun k => absurd hc k)
theorem EvP.no {c : Prop} [Decidable c] {f g : Nat → Option α} {P : α → Prop} (hc : ¬ c) (h : EvP g P) : EvP (fun n => if c then f n else g n) P := .ite (fun k => absurd k hc) (fun _ => h)
theorem EvP.step {g f : Nat → Option α} {P : α → Prop} (h : ∀ k, g (k + 1) = f k) (k : EvP f P) : EvP g P := by
  obtain ⟨r, hr, hp⟩ := k
  exact ⟨r, Ev.step h hr, hp⟩
theorem EvP.succ {g : Nat → Option α} {P : α → Prop} (k : EvP (fun n => g (n + 1)) P) : EvP g P := EvP.step (fun _ => rfl) k
theorem EvP.mono {g : Nat → Option α} {P Q : α → Prop} (h : EvP g P) (k : ∀ r, P r → Q r) : EvP g Q := by
  obtain ⟨r, hr, hp⟩ := h
  exact ⟨r, hr, k r hp⟩
theorem EvP.rounds {g : Nat → Option α} {r : α} (h : EvP g (· = r)) : ∃ k, g k = some r := by
  obtain ⟨_, hr, rfl⟩ := h
  exact hr.rounds
end
structure Hd (p : Prop) : Prop where mk :: (out : p)
theorem w64 {i : Int} (h0 : -9223372036854775808 ≤ i) (h1 : i ≤ 9223372036854775807) : wrap64 i = i := by unfold wrap64; omega
theorem tmod_pos {a : Int} (b : Int) (h : 0 ≤ a) : Int.tmod a b = a % b := Int.tmod_eq_emod_of_nonneg h
theorem tdiv_pos {a : Int} (b : Int) (h : 0 ≤ a) : Int.tdiv a b = a / b := Int.tdiv_eq_ediv_of_nonneg h
theorem toNat_nat (n : Nat) : ((n : Int)).toNat = n := rfl
end Go.Proofs.YtldepdaglapdeaaDoor.Pur
end
section
namespace Go.Proofs.YtldepdaglapdeaaDoor.Pur
open Go.RowKit Go.Proofs.YtldepdaglapdeaaDoorW.PrintWords Go.Proofs.YtldepdaglapdeaaDoorW.PrintMore Go.Proofs.YtldepdaglapdeaaDoor.E
def okB (B : List Int) : Prop := B.length ≤ 2000 ∧ ∀ x ∈ B, 0 ≤ x ∧ x ≤ 255
theorem byte_range {x : Int} (h : (Lit.int .u8 x).wf = true) : 0 ≤ x ∧ x ≤ 255 := by
  simp [Lit.wf, IntKind.min, IntKind.max, IntKind.signed, IntKind.bits] at h
  omega
theorem okB_rd {B : List Int} (h : okB B) (i : Int) : 0 ≤ rd B i ∧ rd B i ≤ 255 := by
  unfold rd
  rw [List.getD_eq_getElem?_getD]
  cases e : B[i.toNat]? with
  | none => simp
  | some v => simpa using h.2 v (List.mem_of_getElem? e)
theorem open_code (l : List Int) (h : ∀ x ∈ l, (Lit.int .u8 x).wf = true) : EvP (fun _ => spec_l6Open.f l) (fun r => okB r.1 ∧ r.2 = 0) := by
  unfold spec_l6Open.f
  refine EvP.ite (fun h1 => EvP.yes (by omega) (EvP.ret ⟨⟨by simp; omega, fun x hx => byte_range (h x (List.mem_of_mem_take hx))⟩, rfl⟩)) (fun h1 => EvP.ret ⟨⟨by dsimp only; omega, fun x hx => byte_range (h x hx)⟩, rfl⟩)
theorem xor_nn {x y : Int} (hx : 0 ≤ x) (hx' : x < 4611686018427387904) (hy : 0 ≤ y) (hy' : y < 4611686018427387904) : 0 ≤ Go.bits .xor .i64 x y := by
  obtain ⟨a, rfl⟩ := Int.eq_ofNat_of_zero_le hx
  obtain ⟨b, rfl⟩ := Int.eq_ofNat_of_zero_le hy
  have ha : a < 2 ^ 62 := by omega
  have hb : b < 2 ^ 62 := by omega
  have hx : a ^^^ b < 2 ^ 62 := Nat.xor_lt_two_pow ha hb
  have ea : a % 2 ^ IntKind.i64.bits = a := Nat.mod_eq_of_lt (by simp [IntKind.bits]; omega)
  have eb : b % 2 ^ IntKind.i64.bits = b := Nat.mod_eq_of_lt (by simp [IntKind.bits]; omega)
  simp only [Go.bits, BitVec.ofInt_natCast, BitVec.toNat_xor, BitVec.toNat_ofNat, ea, eb]
  rw [IntKind.wrap_i64]
  omega
theorem mix_ok (E n : Int) (h0 : 0 ≤ E) (h1 : E < 4611686018427387904) (hn : 1 ≤ n) :
    0 ≤ Int.tmod (Go.bits .xor .i64 E (wrap64 (Int.tdiv E 64))) n ∧ Int.tmod (Go.bits .xor .i64 E (wrap64 (Int.tdiv E 64))) n < n := by
  have hd : Int.tdiv E 64 = E / 64 := tdiv_pos 64 h0
  have h2 := xor_nn h0 h1 (y := wrap64 (Int.tdiv E 64)) (by rw [hd, w64 (by omega) (by omega)]; omega) (by rw [hd, w64 (by omega) (by omega)]; omega)
  exact ⟨Int.tmod_nonneg n h2, Int.tmod_lt_of_pos _ (by omega)⟩
theorem mixE (r1 r2 p q : Int) (a1 : 0 ≤ r1 ∧ r1 ≤ 255) (a2 : 0 ≤ r2 ∧ r2 ≤ 255) (hp : 0 ≤ p ∧ p ≤ 1000000000) (hq : 0 ≤ q ∧ q ≤ 1000000000) :
    (wrap64 ((wrap64 ((wrap64 ((wrap64 ((wrap64 r1) * 131)) + (wrap64 ((wrap64 r2) * 1117)))) + (wrap64 (p * 29)))) + (wrap64 ((wrap64 q) * 53)))) = r1 * 131 + r2 * 1117 + p * 29 + q * 53 := by
  rw [w64 (i := r1) (by omega) (by omega), w64 (i := r2) (by omega) (by omega), w64 (i := q) (by omega) (by omega), w64 (i := r1 * 131) (by omega) (by omega), w64 (i := r2 * 1117) (by omega) (by omega), w64 (i := p * 29) (by omega) (by omega),
    w64 (i := q * 53) (by omega) (by omega), w64 (i := r1 * 131 + r2 * 1117) (by omega) (by omega), w64 (i := r1 * 131 + r2 * 1117 + p * 29) (by omega) (by omega), w64 (by omega) (by omega)]
theorem pick_ok {B : List Int} (hB : okB B) (p n : Int) (hp : 0 ≤ p ∧ p ≤ 100000000) (hn : 1 ≤ n ∧ n ≤ 1000000) : EvP (fun k => spec_l6Rd_pick.f k B p n) (fun r => 0 ≤ r.1 ∧ r.1 < n ∧ r.2 = p + 1) := by
  unfold spec_l6Rd_pick.f
  have e1 : wrap64 (p + 1) = p + 1 := w64 (by omega) (by omega)
  have e2 : wrap64 (p + 1 - 1) = p := by rw [w64 (by omega) (by omega)]; omega
  have hl := hB.1
  rw [e1]
  refine EvP.no (by omega) ?_
  refine EvP.succ ?_
  simp only [spec_l6Rd_pick.j0, e2]
  clear e1 e2
  refine EvP.ite (fun h0 => EvP.ret ⟨by omega, by dsimp only; omega, rfl⟩) (fun h0 => ?_)
  have hpos : 0 < (B.length : Int) := by
    rw [beq_iff_eq] at h0
    omega
  refine EvP.ite (fun h1 => ?_) (fun h1 => ?_)
  · have hr := okB_rd hB p
    refine EvP.yes (by omega) (EvP.no (by omega) (EvP.ret ⟨?_, ?_, rfl⟩))
    · rw [w64 (by omega) (by omega)]; exact Int.tmod_nonneg n hr.1
    · exact Int.tmod_lt_of_pos _ (by omega)
  · refine EvP.no (by omega) ?_
    have m1 : Int.tmod p (B.length : Int) = p % (B.length : Int) := tmod_pos _ hp.1
    have hm1 : 0 ≤ Int.tmod p (B.length : Int) ∧ Int.tmod p (B.length : Int) < (B.length : Int) := by rw [m1]; exact ⟨Int.emod_nonneg _ (by omega), Int.emod_lt_of_pos _ hpos⟩
    have e3 : wrap64 ((wrap64 (p * 7)) + 3) = p * 7 + 3 := by rw [w64 (i := p * 7) (by omega) (by omega), w64 (by omega) (by omega)]
    rw [e3]
    clear e3
    have hm2 : 0 ≤ Int.tmod (p * 7 + 3) (B.length : Int) ∧ Int.tmod (p * 7 + 3) (B.length : Int) < (B.length : Int) := by rw [tmod_pos _ (by omega)]; exact ⟨Int.emod_nonneg _ (by omega), Int.emod_lt_of_pos _ hpos⟩
    have hq : 0 ≤ Int.tdiv p (B.length : Int) ∧ Int.tdiv p (B.length : Int) ≤ 1000000000 := by
      rw [tdiv_pos _ hp.1]
      have := Int.ediv_le_self (B.length : Int) hp.1
      exact ⟨Int.ediv_nonneg hp.1 (by omega), by omega⟩
    have a1 := okB_rd hB (Int.tmod p (B.length : Int))
    have a2 := okB_rd hB (Int.tmod (p * 7 + 3) (B.length : Int))
    refine EvP.yes hm1.1 (EvP.yes hm1.2 (EvP.yes hm2.1 (EvP.yes hm2.2 (EvP.no (by omega) ?_))))
    rw [mixE _ _ p _ a1 a2 (by omega) hq]
    have := mix_ok (rd B (Int.tmod p (B.length : Int)) * 131 + rd B (Int.tmod (p * 7 + 3) (B.length : Int)) * 1117 + p * 29 + Int.tdiv p (B.length : Int) * 53) n (by omega) (by omega) hn.1
    exact EvP.ret ⟨this.1, this.2, rfl⟩
end Go.Proofs.YtldepdaglapdeaaDoor.Pur
end
section
namespace Go.Proofs.YtldepdaglapdeaaDoor.Pur
open Go.RowKit Go.Proofs.YtldepdaglapdeaaDoorW.PrintWords Go.Proofs.YtldepdaglapdeaaDoorW.PrintMore Go.Proofs.YtldepdaglapdeaaDoor.E
theorem step_in {v : Int} : 1 ≤ mx 1 (mn 15 v) ∧ mx 1 (mn 15 v) ≤ 15 := by unfold mx mn; omega
theorem melody_loop {B : List Int} (hB : okB B) (n : Int) (hn : 0 ≤ n ∧ n ≤ 200) : ∀ (d : Nat) (i : Int) (acc : List S56) (s p : Int), 0 ≤ i → i + d = n → (acc.length : Int) = i → 1 ≤ s → s ≤ 15 → 0 ≤ p → p ≤ 1000000 - 10 * d →
    EvP (fun k => spec_l91Melody.l0 k acc n s i B p) (fun r => (r.1.length : Int) = n ∧ 0 ≤ r.2 ∧ r.2 ≤ p + 2 * d + 2) := by
  intro d
  induction d with
  | zero =>
    intro i acc s p hi hd ha hs0 hs1 hp0 hp1
    refine EvP.succ ?_
    simp only [spec_l91Melody.l0]
    refine EvP.no (by omega) ?_
    refine EvP.ite (fun hpos => ?_) (fun _ => EvP.ret ⟨by dsimp only; omega, hp0, by dsimp only; omega⟩)
    refine EvP.bind (pick_ok hB p 50 (by omega) (by omega)) (fun r hr => ?_)
    refine EvP.ite (fun _ => ?_) (fun _ => EvP.ite (fun _ => ?_) (fun _ => EvP.ret ⟨by dsimp only; omega, by dsimp only; omega, by dsimp only; omega⟩))
    · refine EvP.bind (P := (· = [(-1), 21, 20])) (EvP.con rfl rfl) (fun _ e => ?_)
      subst e
      refine EvP.bind (pick_ok hB r.2 3 (by omega) (by omega)) (fun q hq => ?_)
      have h3 : (([(-1), 21, 20] : List Int).length : Int) = 3 := rfl
      exact EvP.yes hq.1 (EvP.yes (by omega) (EvP.yes (by omega) (EvP.ret ⟨by simp; omega, by dsimp only; omega, by dsimp only; omega⟩)))
    · rw [w64 (by omega) (by omega)]
      exact EvP.yes (by omega) (EvP.yes (by omega) (EvP.ret ⟨by simp; omega, by dsimp only; omega, by dsimp only; omega⟩))
  | succ d ih =>
    intro i acc s p hi hd ha hs0 hs1 hp0 hp1
    refine EvP.succ ?_
    simp only [spec_l91Melody.l0]
    refine EvP.yes (by omega) ?_
    refine EvP.bind (P := (· = Int.tmod s 7)) (EvP.con rfl rfl) (fun _ e => ?_)
    subst e
    have ei : Hd (wrap64 (i + 1) = i + 1) := ⟨w64 (by omega) (by omega)⟩
    refine EvP.ite (fun _ => ?_) (fun _ => ?_)
    · refine EvP.bind (pick_ok hB p 3 (by omega) (by omega)) (fun r hr => ?_)
      refine EvP.yes (by omega) ?_
      refine EvP.bind (pick_ok hB r.2 5 (by omega) (by omega)) (fun q hq => ?_)
      rw [ei.out]
      have sn := step_in (v := wrap64 ((wrap64 (s + q.1)) - 2))
      refine (ih (i + 1) _ _ q.2 (by omega) (by omega) (by simp; omega) sn.1 sn.2 (by omega) (by omega)).mono (fun r' h => ⟨h.1, h.2.1, by omega⟩)
    · refine EvP.yes (by omega) ?_
      refine EvP.bind (pick_ok hB p 5 (by omega) (by omega)) (fun q hq => ?_)
      rw [ei.out]
      have sn := step_in (v := wrap64 ((wrap64 (s + q.1)) - 2))
      refine (ih (i + 1) _ _ q.2 (by omega) (by omega) (by simp; omega) sn.1 sn.2 (by omega) (by omega)).mono (fun r' h => ⟨h.1, h.2.1, by omega⟩)
theorem melody_ok {B : List Int} (hB : okB B) (p most : Int) (hp : 0 ≤ p ∧ p ≤ 100000) (hm : 0 ≤ most ∧ most ≤ 100) :
    EvP (fun k => spec_l91Melody.f k B p most) (fun r => (r.1.length : Int) ≤ most ∧ 0 ≤ r.2 ∧ r.2 ≤ p + 2 * most + 4) := by
  unfold spec_l91Melody.f
  rw [w64 (by omega) (by omega)]
  refine EvP.bind (pick_ok hB p (most + 1) (by omega) (by omega)) (fun r hr => ?_)
  refine EvP.bind (pick_ok hB r.2 5 (by omega) (by omega)) (fun q hq => ?_)
  rw [w64 (by omega) (by omega)]
  obtain ⟨d, hd⟩ := Int.eq_ofNat_of_zero_le hr.1
  refine (melody_loop hB r.1 (by omega) d 0 [] _ q.2 (by omega) (by omega) rfl (by omega) (by omega) (by omega) (by omega)).mono (fun r' h => ⟨by omega, h.2.1, by omega⟩)
end Go.Proofs.YtldepdaglapdeaaDoor.Pur
end
section
namespace Go.Proofs.YtldepdaglapdeaaDoor.E
open Go.RowKit Go.Proofs.YtldepdaglapdeaaDoorW.PrintWords Go.Proofs.YtldepdaglapdeaaDoorW.PrintLast Go.Proofs.YtldepdaglapdeaaDoorW.PrintMore
attribute [local go_sem] max2_int min2_int max_two min_two max_three min_three max_four min_four
set_option linter.unusedVariables false
set_option linter.unusedSimpArgs false
attribute [local go_sem] str_leq_ str_gtr_ str_geq_
def spec_l6Rd_of.f (k : Nat) (s0_0 : List Int) (s0_1 : Int) (l1 : List ByteArray) : Option (ByteArray × Int) := (spec_l6Rd_pick.f k s0_0 s0_1 (l1.length : Int)).bind fun bt438 => (if 0 ≤ bt438.1 then (if bt438.1 < (l1.length : Int) then (some (rdOf ByteArray.empty l1 bt438.1, bt438.2)) else (none)) else (none))
end Go.Proofs.YtldepdaglapdeaaDoor.E
end
section
namespace Go.Proofs.YtldepdaglapdeaaDoor.Pur
open Go.RowKit Go.Proofs.YtldepdaglapdeaaDoorW.PrintWords Go.Proofs.YtldepdaglapdeaaDoorW.PrintMore Go.Proofs.YtldepdaglapdeaaDoor.E
theorem at_ok {B : List Int} (hB : okB B) (p n : Int) (hp : 0 ≤ p ∧ p ≤ 1000000) (hn : 0 ≤ n ∧ n ≤ 100000) : EvP (fun k => spec_l91At.f k B p n) (fun r => -1 ≤ r.1 ∧ r.1 ≤ n ∧ 0 ≤ r.2 ∧ r.2 ≤ p + 2) := by
  unfold spec_l91At.f
  have bad : ∀ q : Int, 0 ≤ q → q ≤ p + 1 → EvP (fun k => spec_l91At.j0 k n true B q) (fun r => -1 ≤ r.1 ∧ r.1 ≤ n ∧ 0 ≤ r.2 ∧ r.2 ≤ p + 2) := by
    intro q h0 h1
    refine EvP.succ ?_
    simp only [spec_l91At.j0]
    refine EvP.yes trivial ?_
    refine EvP.bind (P := (· = [(-1), n])) (EvP.con rfl rfl) (fun _ e => ?_)
    subst e
    refine EvP.bind (pick_ok hB q 2 (by omega) (by omega)) (fun r hr => ?_)
    have h2 : (([(-1), n] : List Int).length : Int) = 2 := rfl
    refine EvP.yes hr.1 (EvP.yes (by omega) (EvP.ret ?_))
    have : r.1 = 0 ∨ r.1 = 1 := by omega
    rcases this with e | e
    · rw [e]; exact ⟨by show -1 ≤ (-1 : Int); omega, by show (-1 : Int) ≤ n; omega, by dsimp only; omega, by dsimp only; omega⟩
    · rw [e]; exact ⟨by show -1 ≤ n; omega, by show n ≤ n; omega, by dsimp only; omega, by dsimp only; omega⟩
  refine EvP.ite (fun _ => bad p hp.1 (by omega)) (fun h0 => ?_)
  refine EvP.bind (pick_ok hB p 20 (by omega) (by omega)) (fun r hr => ?_)
  by_cases hz : r.1 = 0
  · rw [beq_iff_eq.mpr hz]
    exact bad r.2 (by omega) (by omega)
  · rw [beq_eq_false_iff_ne.mpr hz]
    refine EvP.succ ?_
    simp only [spec_l91At.j0]
    refine EvP.no (by decide) ?_
    refine EvP.bind (pick_ok hB r.2 n (by omega) (by omega)) (fun q hq => EvP.ret ⟨by dsimp only; omega, by dsimp only; omega, by dsimp only; omega, by dsimp only; omega⟩)
end Go.Proofs.YtldepdaglapdeaaDoor.Pur
end
section
namespace Go.Proofs.YtldepdaglapdeaaDoor.Pur
open Go.RowKit Go.Proofs.YtldepdaglapdeaaDoorW.PrintWords Go.Proofs.YtldepdaglapdeaaDoor.E
def okT (t : S56) : Bool := decide (0 ≤ t.f0) && decide (t.f0 ≤ 20) && (!t.f1 || decide (t.f0 % 7 = 2))
def okM (l : List S56) : Bool := l.all okT && decide (l.length ≤ 24)
theorem spec_valid (t : S56) : spec_ToneValid.f t.f0 t.f1 = some (okT t) := by
  obtain ⟨s, b⟩ := t
  unfold spec_ToneValid.f spec_l6In.f spec_l1Letter.f okT
  by_cases h0 : s ≥ 0
  · rw [if_pos h0]
    by_cases h1 : s ≤ 20
    · cases b <;> simp [h0, h1, tmod_pos, Bool.beq_eq_decide_eq]
    · simp [h0, h1]
  · simp [h0]
theorem impl_valid (t : S56) : impl_Tone_valid.f t.f0 t.f1 = some (okT t) := by
  obtain ⟨s, b⟩ := t
  unfold impl_Tone_valid.f okT
  by_cases h0 : s ≥ 0
  · rw [if_pos h0]
    by_cases h1 : s ≤ 20
    · cases b <;> simp [h0, h1, tmod_pos, Bool.beq_eq_decide_eq]
    · simp [h0, h1]
  · simp [h0]
theorem rdT_lt {l : List S56} {i : Nat} (h : i < l.length) : rd_T56 l (i : Int) = l[i] := by
  unfold rd_T56
  rw [toNat_nat, List.getD_eq_getElem?_getD, List.getElem?_eq_getElem h]
  rfl
theorem all_drop {l : List S56} {i : Nat} (h : i < l.length) : (l.drop i).all okT = (okT l[i] && (l.drop (i + 1)).all okT) := by
  rw [List.drop_eq_getElem_cons h, List.all_cons]
theorem spec_melody_loop (l : List S56) (hl : l.length < 9223372036854775807) : ∀ d i : Nat, i + d = l.length → EvP (fun k => spec_MelodyValid.l0 k l (i : Int)) (· = ((l.drop i).all okT && decide (l.length ≤ 24))) := by
  intro d
  induction d with
  | zero =>
    intro i hi
    refine EvP.succ ?_
    simp only [spec_MelodyValid.l0]
    refine (EvP.no (by omega) (EvP.ret ?_))
    rw [List.drop_of_length_le (by omega)]
    simp only [List.all_nil, Bool.true_and]
    by_cases h : l.length ≤ 24
    · have : (l.length : Int) ≤ 24 := by omega
      simp [h, this]
    · have : ¬ (l.length : Int) ≤ 24 := by omega
      simp [h, this]
  | succ d ih =>
    intro i hi
    have hlt : i < l.length := by omega
    refine EvP.step (fun k => rfl) (EvP.yes (by omega) (EvP.yes (by omega) ?_))
    rw [rdT_lt hlt, all_drop hlt]
    refine EvP.bind (P := (· = okT l[i])) (EvP.con (spec_valid _) rfl) (fun _ e => ?_)
    subst e
    refine EvP.ite (fun h => ?_) (fun h => EvP.ret ?_)
    · rw [w64 (by omega) (by omega), h, Bool.true_and]
      exact ih (i + 1) (by omega)
    · simp [h]
theorem spec_melody (l : List S56) (hl : l.length < 9223372036854775807) : EvP (fun k => spec_MelodyValid.f k l) (· = okM l) := spec_melody_loop l hl l.length 0 (by omega)
theorem impl_melody_loop (l : List S56) (hl : l.length ≤ 24) : ∀ d i : Nat, i + d = l.length → EvP (fun k => impl_MelodyValid.l0 k l (l.length : Int) (i : Int)) (· = (l.drop i).all okT) := by
  intro d
  induction d with
  | zero =>
    intro i hi
    refine EvP.step (fun k => rfl) (EvP.no (by omega) (EvP.ret ?_))
    rw [List.drop_of_length_le (by omega)]
    rfl
  | succ d ih =>
    intro i hi
    have hlt : i < l.length := by omega
    refine EvP.step (fun k => rfl) (EvP.yes (by omega) (EvP.yes (by omega) ?_))
    try refine EvP.yes (by omega) ?_
    rw [rdT_lt hlt, all_drop hlt]
    refine EvP.bind (P := (· = okT l[i])) (EvP.con (impl_valid _) rfl) (fun _ e => ?_)
    subst e
    refine EvP.ite (fun h => ?_) (fun h => EvP.ret ?_)
    · rw [w64 (by omega) (by omega), h, Bool.true_and]
      exact ih (i + 1) (by omega)
    · simp [h]
theorem impl_melody (l : List S56) : EvP (fun k => impl_MelodyValid.f k l) (· = okM l) := by
  unfold impl_MelodyValid.f
  refine EvP.ite (fun h => EvP.ret ?_) (fun h => ?_)
  · simp [okM]; intro; omega
  · have hl : l.length ≤ 24 := by omega
    refine (impl_melody_loop l hl l.length 0 (by omega)).mono (fun r e => ?_)
    rw [e]
    simp [okM, hl]
end Go.Proofs.YtldepdaglapdeaaDoor.Pur
end
section
namespace Go.Proofs.YtldepdaglapdeaaDoor.E
open Go.RowKit Go.Proofs.YtldepdaglapdeaaDoorW.PrintWords Go.Proofs.YtldepdaglapdeaaDoorW.PrintLast Go.Proofs.YtldepdaglapdeaaDoorW.PrintMore
attribute [local go_sem] max2_int min2_int max_two min_two max_three min_three max_four min_four
set_option linter.unusedVariables false
set_option linter.unusedSimpArgs false
attribute [local go_sem] str_leq_ str_gtr_ str_geq_
def spec_ContourValid.l0 : Nat → ByteArray → Int → Option (Bool)
 | 0, _, _ => none
 | k + 1, x0, x3 => if x3 < (x0.size : Int) then (if 0 ≤ x3 then (if (bt x0 x3) = 117 then (spec_ContourValid.l0 k x0 (wrap64 (x3 + 1))) else (if (bt x0 x3) = 100 then (spec_ContourValid.l0 k x0 (wrap64 (x3 + 1))) else (if (bt x0 x3) = 115 then (spec_ContourValid.l0 k x0 (wrap64 (x3 + 1))) else (some false)))) else (none)) else (some (decide ((x0.size : Int) < 24)))
def spec_ContourValid.f (k : Nat) (a0 : ByteArray) : Option (Bool) := spec_ContourValid.l0 k a0 0
end Go.Proofs.YtldepdaglapdeaaDoor.E
end
section
namespace Go.Proofs.YtldepdaglapdeaaDoor.E
open Go.RowKit Go.Proofs.YtldepdaglapdeaaDoorW.PrintWords Go.Proofs.YtldepdaglapdeaaDoorW.PrintLast Go.Proofs.YtldepdaglapdeaaDoorW.PrintMore
attribute [local go_sem] max2_int min2_int max_two min_two max_three min_three max_four min_four
set_option linter.unusedVariables false
set_option linter.unusedSimpArgs false
attribute [local go_sem] str_leq_ str_gtr_ str_geq_
def spec_NeumeName.j0 : Nat → ByteArray → Bool → Option (ByteArray)
 | 0, _, _ => none
 | k + 1, x0, x10 => if x10 = true then (some (⟨#[]⟩ : ByteArray)) else (if x0.toList = ([] : List UInt8) then (some (⟨#[112, 117, 110, 99, 116, 117, 109]⟩ : ByteArray)) else (if x0.toList = ([117] : List UInt8) then (some (⟨#[112, 101, 115]⟩ : ByteArray)) else (if x0.toList = ([100] : List UInt8) then (some (⟨#[99, 108, 105, 118, 105, 115]⟩ : ByteArray)) else (if x0.toList = ([117, 100] : List UInt8) then (some (⟨#[116, 111, 114, 99, 117, 108, 117, 115]⟩ : ByteArray)) else (if x0.toList = ([100, 117] : List UInt8) then (some (⟨#[112, 111, 114, 114, 101, 99, 116, 117, 115]⟩ : ByteArray)) else (if x0.toList = ([117, 117] : List UInt8) then (some (⟨#[115, 99, 97, 110, 100, 105, 99, 117, 115]⟩ : ByteArray)) else (if x0.toList = ([100, 100] : List UInt8) then (some (⟨#[99, 108, 105, 109, 97, 99, 117, 115]⟩ : ByteArray)) else (if 6 + x0.size ≤ 9223372036854775807 then (some ((⟨#[103, 114, 111, 117, 112, 45]⟩ : ByteArray) ++ x0)) else (none)))))))))
def spec_NeumeName.f (k : Nat) (a0 : ByteArray) : Option (ByteArray) := (spec_ContourValid.f k a0).bind fun t111 => (if t111 = true then (spec_NeumeName.j0 k a0 (decide ((a0.size : Int) ≥ 4))) else (spec_NeumeName.j0 k a0 true))
end Go.Proofs.YtldepdaglapdeaaDoor.E
end
section
namespace Go.Proofs.YtldepdaglapdeaaDoor.E
open Go.RowKit Go.Proofs.YtldepdaglapdeaaDoorW.PrintWords Go.Proofs.YtldepdaglapdeaaDoorW.PrintLast Go.Proofs.YtldepdaglapdeaaDoorW.PrintMore
attribute [local go_sem] max2_int min2_int max_two min_two max_three min_three max_four min_four
set_option linter.unusedVariables false
set_option linter.unusedSimpArgs false
attribute [local go_sem] str_leq_ str_gtr_ str_geq_
def spec_l3Way.f (a0 : Int) (a1 : Int) : Option (ByteArray) := if a1 > a0 then (some (⟨#[117]⟩ : ByteArray)) else (if a1 < a0 then (some (⟨#[100]⟩ : ByteArray)) else (some (⟨#[115]⟩ : ByteArray)))
end Go.Proofs.YtldepdaglapdeaaDoor.E
end
section
namespace Go.Proofs.YtldepdaglapdeaaDoor.E
open Go.RowKit Go.Proofs.YtldepdaglapdeaaDoorW.PrintWords Go.Proofs.YtldepdaglapdeaaDoorW.PrintLast Go.Proofs.YtldepdaglapdeaaDoorW.PrintMore
attribute [local go_sem] max2_int min2_int max_two min_two max_three min_three max_four min_four
set_option linter.unusedVariables false
set_option linter.unusedSimpArgs false
attribute [local go_sem] str_leq_ str_gtr_ str_geq_
def spec_l3Contour.l0 : Nat → List (S56) → ByteArray → Int → Option (ByteArray)
 | 0, _, _, _ => none
 | k + 1, x0, x3, x4 => if x4 < (x0.length : Int) then (if 0 ≤ (wrap64 (x4 - 1)) then (if (wrap64 (x4 - 1)) < (x0.length : Int) then (if 0 ≤ x4 then ((spec_l3Way.f ((rd_T56 x0 (wrap64 (x4 - 1))).f0) ((rd_T56 x0 x4).f0)).bind fun t114 => (if x3.size + t114.size ≤ 9223372036854775807 then (spec_l3Contour.l0 k x0 (x3 ++ t114) (wrap64 (x4 + 1))) else (none))) else (none)) else (none)) else (none)) else (some x3)
def spec_l3Contour.f (k : Nat) (l0 : List (S56)) : Option (ByteArray) := spec_l3Contour.l0 k l0 (⟨#[]⟩ : ByteArray) 1
end Go.Proofs.YtldepdaglapdeaaDoor.E
end
section
namespace Go.Proofs.YtldepdaglapdeaaDoor.Pur
open Go Go.RowKit Go.Proofs.YtldepdaglapdeaaDoorW.PrintWords Go.Proofs.YtldepdaglapdeaaDoorW.PrintMore Go.Proofs.YtldepdaglapdeaaDoor.E
abbrev TnG := S56
theorem ba_ext {a b : ByteArray} (h : a.data.toList = b.data.toList) : a = b := by
  cases a; cases b
  congr 1
  exact Array.toList_inj.mp h
theorem app_data (a b : ByteArray) : (a ++ b).data.toList = a.data.toList ++ b.data.toList := by rw [ByteArray.data_append, Array.toList_append]
theorem list_len (t : ByteArray) : t.data.toList.length = t.size := Array.length_toList
theorem list_eq (t : ByteArray) : t.toList = t.data.toList := Go.ByteArray.toList_eq t
theorem dropWhile_nil {α : Type} (p : α → Bool) : ∀ l : List α, l.dropWhile p = [] ↔ l.all p = true
  | [] => by simp
  | a :: l => by
    by_cases h : p a = true
    · rw [List.dropWhile_cons_of_pos h, dropWhile_nil p l, List.all_cons, h, Bool.true_and]
    · rw [List.dropWhile_cons_of_neg h, List.all_cons, Bool.eq_false_iff.mpr h, Bool.false_and]; simp
theorem dropWhile_head {α : Type} (p : α → Bool) : ∀ l : List α, l.dropWhile p = [] ∨ ∃ a l', l.dropWhile p = a :: l' ∧ p a = false
  | [] => .inl rfl
  | a :: l => by
    by_cases h : p a = true
    · rw [List.dropWhile_cons_of_pos h]; exact dropWhile_head p l
    · rw [List.dropWhile_cons_of_neg h]; exact .inr ⟨a, l, rfl, Bool.eq_false_iff.mpr h⟩
theorem trim_nil (l cs : List UInt8) : Lib.trimS l cs = [] ↔ l.all (cs.contains ·) = true := by
  unfold Lib.trimS Lib.trimLeftS Lib.trimRightS
  rw [dropWhile_nil, List.all_reverse]
  refine ⟨fun h => ?_, fun h => ?_⟩
  · rcases dropWhile_head (cs.contains ·) l.reverse with e | ⟨a, l', e, ha⟩
    · rw [dropWhile_nil, List.all_reverse] at e; exact e
    · rw [e, List.all_cons, ha, Bool.false_and] at h; exact absurd h (by decide)
  · have : l.reverse.dropWhile (cs.contains ·) = [] := (dropWhile_nil _ _).mpr (by rw [List.all_reverse]; exact h)
    rw [this]; rfl
theorem trim_some (t c : ByteArray) (ht : t.size ≤ 9223372036854775806) (hc : c.size < 4294967281) (ha : c.data.toList.all (fun b => decide (b.toNat < 128)) = true) : strings_Trim.f t c = some ⟨(Lib.trimS t.data.toList c.data.toList).toArray⟩ := by
  unfold strings_Trim.f
  rw [if_pos (by omega), if_pos hc, if_pos ha]
def udsB (b : UInt8) : Bool := ([117, 100, 115] : List UInt8).contains b
def okC (c : ByteArray) : Bool := c.data.toList.all udsB && decide (c.size ≤ 23)
theorem impl_cvalid (c : ByteArray) : impl_ContourValid.f c = some (okC c) := by
  unfold impl_ContourValid.f okC
  by_cases h : c.size ≤ 23
  · rw [if_pos (by omega), trim_some c _ (by omega) (by decide) (by decide)]
    simp only [Option.bind_some]
    rw [list_eq, decide_eq_true h, Bool.and_true]
    congr 1
    have ht := trim_nil c.data.toList [117, 100, 115]
    show (Lib.trimS c.data.toList [117, 100, 115] == []) = c.data.toList.all udsB
    rw [Bool.eq_iff_iff, beq_iff_eq, ht]
    rfl
  · rw [if_neg (by omega), decide_eq_false h, Bool.and_false]
def nnm (c : ByteArray) : ByteArray := if c.data.toList = [] then ⟨#[112, 117, 110, 99, 116, 117, 109]⟩ else if c.data.toList = [117] then ⟨#[112, 101, 115]⟩ else if c.data.toList = [100] then ⟨#[99, 108, 105, 118, 105, 115]⟩ else if c.data.toList = [117, 100] then ⟨#[116, 111, 114, 99, 117, 108, 117, 115]⟩ else if c.data.toList = [100, 117] then ⟨#[112, 111, 114, 114, 101, 99, 116, 117, 115]⟩ else if c.data.toList = [117, 117] then ⟨#[115, 99, 97, 110, 100, 105, 99, 117, 115]⟩ else if c.data.toList = [100, 100] then ⟨#[99, 108, 105, 109, 97, 99, 117, 115]⟩ else (⟨#[103, 114, 111, 117, 112, 45]⟩ : ByteArray) ++ c
def nameB (c : ByteArray) : ByteArray := if okC c = true ∧ c.size ≤ 3 then nnm c else ⟨#[]⟩
theorem ite_eqv {α : Type} {p q : Prop} [Decidable p] [Decidable q] {a b : Option α} {x y : α} (h : p ↔ q) (h1 : a = some x) (h2 : b = some y) : (if p then a else b) = some (if q then x else y) := by
  by_cases hq : q
  · rw [if_pos hq, if_pos (h.mpr hq), h1]
  · rw [if_neg hq, if_neg (fun hp => hq (h.mp hp)), h2]
theorem nn_is (c : ByteArray) (h : c.size ≤ 3) : nnLoop c 7 0 = some (nnm c) := by
  have e : ∀ l : List UInt8, ((⟨l.toArray⟩ : ByteArray).toList = c.toList) ↔ c.data.toList = l := by
    intro l
    rw [list_eq, list_eq]
    exact eq_comm
  unfold nnm
  simp only [nnLoop, Nat.zero_add, Nat.reduceAdd, conN, namN, List.getD_cons_zero, List.getD_cons_succ]
  refine ite_eqv (e []) rfl (ite_eqv (e [117]) rfl (ite_eqv (e [100]) rfl (ite_eqv (e [117, 100]) rfl (ite_eqv (e [100, 117]) rfl (ite_eqv (e [117, 117]) rfl (ite_eqv (e [100, 100]) rfl ?_))))))
  rw [if_pos (by omega)]
theorem impl_nn (c : ByteArray) : impl_NeumeName.f c = some (nameB c) := by
  unfold impl_NeumeName.f nameB
  rw [impl_cvalid]
  simp only [Option.bind_some]
  by_cases h : okC c = true
  · rw [if_pos h]
    by_cases h2 : c.size ≤ 3
    · rw [if_neg (by omega), if_pos ⟨h, h2⟩, nn_is c h2]
    · rw [if_pos (by omega), if_neg (fun q => h2 q.2)]
  · rw [if_neg h, if_neg (fun q => h q.1)]
def conL (l : List TnG) : List UInt8 := Ways.waysB (l.map (·.f0))
def con (l : List TnG) : ByteArray := ⟨(conL l).toArray⟩
theorem conL_len (l : List TnG) : (conL l).length = l.length - 1 := by
  unfold conL Ways.waysB
  simp
theorem wayB_uds (a b : Int) : udsB (Ways.wayB a b) = true := by
  unfold Ways.wayB
  split
  · rfl
  · split <;> rfl
theorem conL_uds (l : List TnG) : (conL l).all udsB = true := by
  unfold conL Ways.waysB
  rw [List.all_eq_true]
  intro x hx
  obtain ⟨i, _, rfl⟩ := List.mem_map.mp hx
  exact wayB_uds _ _
theorem con_size (l : List TnG) : (con l).size = l.length - 1 := by
  have := list_len (con l)
  rw [← this]
  exact conL_len l
theorem con_ok {l : List TnG} (h : l.length ≤ 24) : okC (con l) = true := by
  unfold okC
  rw [con_size, decide_eq_true (by omega), Bool.and_true]
  exact conL_uds l
theorem impl_con (l : List TnG) (h : l.length ≤ 1000000) : impl_melody_contour.f l = some (con l) := by
  unfold impl_melody_contour.f
  rw [if_pos h]
  rfl
end Go.Proofs.YtldepdaglapdeaaDoor.Pur
end
section
namespace Go.Proofs.YtldepdaglapdeaaDoor.E
open Go.RowKit Go.Proofs.YtldepdaglapdeaaDoorW.PrintWords Go.Proofs.YtldepdaglapdeaaDoorW.PrintLast Go.Proofs.YtldepdaglapdeaaDoorW.PrintMore
attribute [local go_sem] max2_int min2_int max_two min_two max_three min_three max_four min_four
set_option linter.unusedVariables false
set_option linter.unusedSimpArgs false
attribute [local go_sem] str_leq_ str_gtr_ str_geq_
def impl_GroupsValid.f (k : Nat) (l0 : List (S56)) (l1 : List (S42)) : Option (Bool) := (impl_groupsOf.f k l0 l1).bind fun bt230 => (some bt230.2)
end Go.Proofs.YtldepdaglapdeaaDoor.E
end
section
namespace Go.Proofs.YtldepdaglapdeaaDoor.Pur
open Go.RowKit Go.Proofs.YtldepdaglapdeaaDoorW.PrintWords Go.Proofs.YtldepdaglapdeaaDoorW.PrintMore Go.Proofs.YtldepdaglapdeaaDoor.E
abbrev MlG := S42
abbrev GpG := S73
theorem rdG_lt {l : List MlG} {i : Nat} (h : i < l.length) : rd_T42 l (i : Int) = l[i] := by
  unfold rd_T42
  rw [toNat_nat, List.getD_eq_getElem?_getD, List.getElem?_eq_getElem h]
  rfl
theorem rdP_lt {l : List GpG} {i : Nat} (h : i < l.length) : rd_T73 l (i : Int) = l[i] := by
  unfold rd_T73
  rw [toNat_nat, List.getD_eq_getElem?_getD, List.getElem?_eq_getElem h]
  rfl
theorem okM_parts {l : List TnG} (h : okM l = true) : l.all okT = true ∧ l.length ≤ 24 := by
  unfold okM at h
  simpa using h
def sumG : List MlG → Int
  | [] => 0
  | g :: gs => g.f0 + sumG gs
def okS (g : MlG) : Bool := decide (1 ≤ g.f0) && decide (g.f0 ≤ 4)
theorem okS_iff (g : MlG) : okS g = true ↔ 1 ≤ g.f0 ∧ g.f0 ≤ 4 := by
  unfold okS
  rw [Bool.and_eq_true, decide_eq_true_eq, decide_eq_true_eq]
theorem sum_low : ∀ gs : List MlG, gs.all okS = true → (gs.length : Int) ≤ sumG gs ∧ sumG gs ≤ 4 * (gs.length : Int)
  | [], _ => by simp [sumG]
  | g :: gs, h => by
    rw [List.all_cons, Bool.and_eq_true] at h
    have h1 := (okS_iff g).mp h.1
    have h2 := sum_low gs h.2
    simp only [sumG, List.length_cons]
    omega
def cutG : List TnG → List MlG → Option (List GpG)
  | m, [] => if m.length = 0 then some [] else none
  | m, g :: gs => if 1 ≤ g.f0 ∧ g.f0 ≤ 4 ∧ g.f0 ≤ (m.length : Int) then (cutG (m.drop g.f0.toNat) gs).map (⟨m.take g.f0.toNat, g.f1⟩ :: ·) else none
theorem cut_some : ∀ (gs : List MlG) (m : List TnG), (cutG m gs).isSome = (gs.all okS && decide (sumG gs = (m.length : Int)))
  | [], m => by
    unfold cutG
    rw [List.all_nil, Bool.true_and]
    split
    · rename_i h; rw [h]; rfl
    · rename_i h
      have : ¬ sumG [] = (m.length : Int) := by simp only [sumG]; omega
      rw [decide_eq_false this]; rfl
  | g :: gs, m => by
    unfold cutG
    rw [List.all_cons]
    split
    · rename_i h
      obtain ⟨h1, h2, h3⟩ := h
      rw [Option.isSome_map, cut_some gs, (okS_iff g).mpr ⟨h1, h2⟩, Bool.true_and]
      congr 1
      rw [decide_eq_decide, List.length_drop]
      simp only [sumG]
      omega
    · rename_i h
      symm
      rw [Option.isSome_none, Bool.and_eq_false_iff, Bool.and_eq_false_iff]
      by_cases hg : okS g = true
      · by_cases ha : gs.all okS = true
        · right
          have h1 := (okS_iff g).mp hg
          have h2 := sum_low gs ha
          apply decide_eq_false
          simp only [sumG]
          omega
        · exact .inl (.inr (Bool.eq_false_iff.mpr ha))
      · exact .inl (.inl (Bool.eq_false_iff.mpr hg))
def grp (m : List TnG) (gs : List MlG) : Option (List GpG) := if okM m = true then cutG m gs else none
theorem grp_some (m : List TnG) (gs : List MlG) : (grp m gs).isSome = (okM m && (gs.all okS && decide (sumG gs = (m.length : Int)))) := by
  unfold grp
  by_cases h : okM m = true
  · rw [if_pos h, h, Bool.true_and, cut_some]
  · rw [if_neg h, Bool.eq_false_iff.mpr h, Bool.false_and]; rfl
theorem grp_of {m : List TnG} {gs : List MlG} {l : List GpG} (h : grp m gs = some l) : okM m = true ∧ m.length ≤ 24 ∧ gs.all okS = true ∧ sumG gs = (m.length : Int) ∧ gs.length ≤ m.length ∧ cutG m gs = some l := by
  have h1 := grp_some m gs
  rw [h] at h1
  have h1 := h1.symm
  rw [Option.isSome_some, Bool.and_eq_true, Bool.and_eq_true, decide_eq_true_eq] at h1
  obtain ⟨a, b, c⟩ := h1
  have h2 := sum_low gs b
  refine ⟨a, (okM_parts a).2, b, c, by omega, ?_⟩
  unfold grp at h
  rw [if_pos a] at h
  exact h
theorem cut_len : ∀ (gs : List MlG) (m : List TnG) (l : List GpG), cutG m gs = some l → l.length = gs.length
  | [], m, l, h => by
    unfold cutG at h
    split at h
    · obtain rfl := Option.some.inj h; rfl
    · exact absurd h (by simp)
  | g :: gs, m, l, h => by
    unfold cutG at h
    split at h
    · obtain ⟨l', h', rfl⟩ := Option.map_eq_some_iff.mp h
      rw [List.length_cons, List.length_cons, cut_len gs _ _ h']
    · exact absurd h (by simp)
theorem cut_at : ∀ (gs : List MlG) (m : List TnG) (l : List GpG), cutG m gs = some l → ∀ (i : Nat) (g : MlG), gs[i]? = some g →
    ∃ b : Nat, (b : Int) = sumG (gs.take i) ∧ b + g.f0.toNat ≤ m.length ∧ 1 ≤ g.f0 ∧ g.f0 ≤ 4 ∧ l[i]? = some ⟨(m.take (b + g.f0.toNat)).drop b, g.f1⟩
  | [], m, l, h, i, g, hi => by simp at hi
  | g' :: gs, m, l, h, i, g, hi => by
    unfold cutG at h
    split at h
    · rename_i hc
      obtain ⟨l', h', rfl⟩ := Option.map_eq_some_iff.mp h
      cases i with
      | zero =>
        obtain rfl : g' = g := by simpa using hi
        refine ⟨0, rfl, by omega, hc.1, hc.2.1, ?_⟩
        rw [Nat.zero_add, List.drop_zero]
        rfl
      | succ i =>
        obtain ⟨b, hb, hl, h1, h4, he⟩ := cut_at gs _ _ h' i g (by simpa using hi)
        rw [List.length_drop] at hl
        refine ⟨g'.f0.toNat + b, ?_, by omega, h1, h4, ?_⟩
        · rw [List.take_succ_cons]
          simp only [sumG]
          omega
        · have hx : ∀ (m : List TnG) (s b f : Nat), ((m.drop s).take (b + f)).drop b = (m.take (s + b + f)).drop (s + b) := by
            intro m s b f
            rw [List.drop_take, List.drop_take, List.drop_drop]
            congr 1
            omega
          rw [List.getElem?_cons_succ, he, hx]
    · exact absurd h (by simp)
theorem impl_groups_loop (gs : List MlG) (hg : gs.length ≤ 1048576) : ∀ (d i : Nat) (acc : List GpG) (m : List TnG), i + d = gs.length → acc.length + m.length ≤ 24 →
    EvP (fun k => impl_groupsOf.l0 k acc m gs (gs.length : Int) (i : Int)) (fun r => (∀ l, cutG m (gs.drop i) = some l → r = (acc ++ l, true)) ∧ (cutG m (gs.drop i) = none → r.2 = false)) := by
  intro d
  induction d with
  | zero =>
    intro i acc m hi hm
    refine EvP.succ ?_
    simp only [impl_groupsOf.l0]
    refine EvP.no (by omega) (EvP.ret ?_)
    rw [List.drop_of_length_le (by omega)]
    simp only [cutG]
    by_cases h : m.length = 0
    · rw [if_pos h, h]
      refine ⟨fun l e => ?_, fun e => absurd e (by simp)⟩
      obtain rfl := Option.some.inj e
      rw [List.append_nil]
      rfl
    · rw [if_neg h]
      refine ⟨fun l e => absurd e (by simp), fun _ => ?_⟩
      have : ¬ (m.length : Int) = 0 := by omega
      exact beq_eq_false_iff_ne.mpr this
  | succ d ih =>
    intro i acc m hi hm
    have hlt : i < gs.length := by omega
    have e1 : Hd (wrap64 ((i : Int) + 1) = ((i + 1 : Nat) : Int)) := ⟨w64 (by omega) (by omega)⟩
    refine EvP.succ ?_
    simp only [impl_groupsOf.l0]
    refine EvP.yes (by omega) (EvP.yes (by omega) (EvP.yes (by omega) ?_))
    rw [rdG_lt hlt, List.drop_eq_getElem_cons hlt, e1.out]
    obtain ⟨g, hgg⟩ : ∃ g, gs[i] = g := ⟨_, rfl⟩
    rw [hgg]
    simp only [cutG]
    have bad : ∀ r : List GpG × Bool, r.2 = false → ¬ (1 ≤ g.f0 ∧ g.f0 ≤ 4 ∧ g.f0 ≤ (m.length : Int)) → (∀ l, (if 1 ≤ g.f0 ∧ g.f0 ≤ 4 ∧ g.f0 ≤ (m.length : Int) then (cutG (m.drop g.f0.toNat) (gs.drop (i + 1))).map (⟨m.take g.f0.toNat, g.f1⟩ :: ·) else none) = some l → r = (acc ++ l, true)) ∧ ((if 1 ≤ g.f0 ∧ g.f0 ≤ 4 ∧ g.f0 ≤ (m.length : Int) then (cutG (m.drop g.f0.toNat) (gs.drop (i + 1))).map (⟨m.take g.f0.toNat, g.f1⟩ :: ·) else none) = none → r.2 = false) := by
      intro r hr hn
      rw [if_neg hn]
      exact ⟨fun l e => absurd e (by simp), fun _ => hr⟩
    refine EvP.ite (fun h => EvP.ret (bad _ rfl (by omega))) (fun h1 => ?_)
    refine EvP.ite (fun h => EvP.ret (bad _ rfl (by omega))) (fun h2 => ?_)
    refine EvP.ite (fun h => EvP.ret (bad _ rfl (by omega))) (fun h3 => ?_)
    refine EvP.yes (by omega) (EvP.yes (by omega) (EvP.yes (by omega) ?_))
    refine (ih (i + 1) _ _ (by omega) (by rw [List.length_append, List.length_drop]; simp only [List.length_cons, List.length_nil]; omega)).mono (fun r hr => ?_)
    rw [if_pos ⟨by omega, by omega, by omega⟩]
    refine ⟨fun l e => ?_, fun e => ?_⟩
    · obtain ⟨l', e', rfl⟩ := Option.map_eq_some_iff.mp e
      rw [hr.1 l' e', List.append_assoc]
      rfl
    · exact hr.2 (Option.map_eq_none_iff.mp e)
theorem impl_groups (m : List TnG) (gs : List MlG) (hg : gs.length ≤ 1048576) : EvP (fun k => impl_groupsOf.f k m gs) (fun r => (∀ l, grp m gs = some l → r = (l, true)) ∧ (grp m gs = none → r.2 = false)) := by
  simp only [impl_groupsOf.f]
  refine EvP.bind (impl_melody m) (fun _ e => ?_)
  subst e
  unfold grp
  refine EvP.ite (fun h => ?_) (fun h => EvP.ret ?_)
  · rw [if_pos h]
    have := (okM_parts h).2
    exact impl_groups_loop gs hg gs.length 0 [] m (by omega) (by simpa using this)
  · rw [if_neg h]
    exact ⟨fun l e => absurd e (by simp), fun _ => rfl⟩
theorem in_ok (g : MlG) : spec_l6In.f g.f0 1 4 = some (okS g) := by
  unfold spec_l6In.f okS
  by_cases h : g.f0 ≥ 1
  · rw [if_pos h, decide_eq_true (show 1 ≤ g.f0 from h), Bool.true_and]
  · rw [if_neg h, decide_eq_false (show ¬ 1 ≤ g.f0 from h), Bool.false_and]
theorem spec_gvalid_loop (m : List TnG) (gs : List MlG) (hm : m.length ≤ 1000000000) (hg : gs.length ≤ 24) : ∀ (d i : Nat) (s : Int), i + d = gs.length → 0 ≤ s → s ≤ 4 * (i : Int) →
    EvP (fun k => spec_GroupsValid.l0 k m gs s (i : Int)) (· = ((gs.drop i).all okS && decide (s + sumG (gs.drop i) = (m.length : Int)))) := by
  intro d
  induction d with
  | zero =>
    intro i s hi h0 h1
    refine EvP.succ ?_
    simp only [spec_GroupsValid.l0]
    refine EvP.no (by omega) (EvP.ret ?_)
    rw [List.drop_of_length_le (by omega)]
    simp only [List.all_nil, Bool.true_and, sumG, Int.add_zero]
    rfl
  | succ d ih =>
    intro i s hi h0 h1
    have hlt : i < gs.length := by omega
    have e1 : Hd (wrap64 ((i : Int) + 1) = ((i + 1 : Nat) : Int)) := ⟨w64 (by omega) (by omega)⟩
    refine EvP.succ ?_
    simp only [spec_GroupsValid.l0]
    refine EvP.yes (by omega) (EvP.yes (by omega) ?_)
    rw [rdG_lt hlt, List.drop_eq_getElem_cons hlt, e1.out, List.all_cons]
    obtain ⟨g, hgg⟩ : ∃ g, gs[i] = g := ⟨_, rfl⟩
    rw [hgg]
    refine EvP.bind (P := (· = okS g)) (EvP.con (in_ok g) rfl) (fun _ e => ?_)
    subst e
    refine EvP.ite (fun h => ?_) (fun h => EvP.ret ?_)
    · have hh := (okS_iff g).mp h
      rw [w64 (by omega) (by omega), h, Bool.true_and]
      refine (ih (i + 1) _ (by omega) (by omega) (by omega)).mono (fun r hr => ?_)
      rw [hr]
      congr 1
      rw [decide_eq_decide]
      simp only [sumG]
      omega
    · rw [Bool.eq_false_iff.mpr h]
      rfl
theorem spec_gvalid (m : List TnG) (gs : List MlG) (hm : m.length ≤ 1000000000) (hg : gs.length ≤ 1048576) : EvP (fun k => spec_GroupsValid.f k m gs) (· = (grp m gs).isSome) := by
  simp only [spec_GroupsValid.f]
  refine EvP.bind (spec_melody m (by omega)) (fun _ e => ?_)
  subst e
  rw [grp_some]
  refine EvP.ite (fun h => ?_) (fun h => ?_)
  · have hl := (okM_parts h).2
    rw [h, Bool.true_and]
    refine EvP.succ ?_
    simp only [spec_GroupsValid.j0]
    refine EvP.ite (fun h2 => EvP.ret ?_) (fun h2 => ?_)
    · have h3 := of_decide_eq_true h2
      symm
      rw [Bool.and_eq_false_iff]
      by_cases ha : gs.all okS = true
      · right
        have := sum_low gs ha
        apply decide_eq_false
        omega
      · exact .inl (Bool.eq_false_iff.mpr ha)
    · have h3 : ¬ (gs.length : Int) > 24 := fun e => h2 (decide_eq_true e)
      refine (spec_gvalid_loop m gs hm (by omega) gs.length 0 0 (by omega) (by omega) (by omega)).mono (fun r hr => ?_)
      rw [hr, List.drop_zero, Int.zero_add]
  · rw [Bool.eq_false_iff.mpr h, Bool.false_and]
    refine EvP.succ ?_
    simp only [spec_GroupsValid.j0]
    exact EvP.yes trivial (EvP.ret rfl)
theorem spec_begin_loop (gs : List MlG) (n : Nat) (hn : n ≤ gs.length) (hg : gs.length ≤ 24) (ha : gs.all okS = true) : ∀ (d i : Nat) (s : Int), i + d = n → s = sumG (gs.take i) → 0 ≤ s → s ≤ 4 * (i : Int) →
    EvP (fun k => spec_l3Begin.l0 k gs (n : Int) s (i : Int)) (· = sumG (gs.take n)) := by
  intro d
  induction d with
  | zero =>
    intro i s hi hs h0 h1
    refine EvP.succ ?_
    simp only [spec_l3Begin.l0]
    obtain rfl : i = n := by omega
    exact EvP.no (by omega) (EvP.ret hs)
  | succ d ih =>
    intro i s hi hs h0 h1
    have hlt : i < gs.length := by omega
    have e1 : Hd (wrap64 ((i : Int) + 1) = ((i + 1 : Nat) : Int)) := ⟨w64 (by omega) (by omega)⟩
    have hh := (okS_iff gs[i]).mp (List.all_eq_true.mp ha _ (List.getElem_mem hlt))
    refine EvP.succ ?_
    simp only [spec_l3Begin.l0]
    refine EvP.yes (by omega) (EvP.yes (by omega) (EvP.yes (by omega) ?_))
    rw [rdG_lt hlt, e1.out, w64 (by omega) (by omega)]
    refine ih (i + 1) _ (by omega) ?_ (by omega) (by omega)
    have hsum : ∀ (a : List MlG) (g : MlG), sumG (a ++ [g]) = sumG a + g.f0 := by
      intro a g
      induction a with
      | nil => simp [sumG]
      | cons x xs ih => simp only [List.cons_append, sumG, ih]; omega
    rw [List.take_succ_eq_append_getElem hlt, hsum, hs]
theorem spec_begin (gs : List MlG) (n : Nat) (hn : n ≤ gs.length) (hg : gs.length ≤ 24) (ha : gs.all okS = true) : EvP (fun k => spec_l3Begin.f k gs (n : Int)) (· = sumG (gs.take n)) := spec_begin_loop gs n hn hg ha n 0 0 (by omega) rfl (by omega) (by omega)
end Go.Proofs.YtldepdaglapdeaaDoor.Pur
end
section
namespace Go.Proofs.YtldepdaglapdeaaDoor.E
open Go.RowKit Go.Proofs.YtldepdaglapdeaaDoorW.PrintWords Go.Proofs.YtldepdaglapdeaaDoorW.PrintLast Go.Proofs.YtldepdaglapdeaaDoorW.PrintMore
attribute [local go_sem] max2_int min2_int max_two min_two max_three min_three max_four min_four
set_option linter.unusedVariables false
set_option linter.unusedSimpArgs false
attribute [local go_sem] str_leq_ str_gtr_ str_geq_
def spec_l3Name.f (k : Nat) (l0 : List (S56)) (a1 : Bool) : Option (ByteArray) := (spec_l3Contour.f k l0).bind fun t115 => ((spec_NeumeName.f k t115).bind fun t116 => (if a1 = true then (if 0 < (t116.size : Int) then ((some (([((bt t116 0) - 32) % 256] : List Int) : List Int)).bind fun y117 => (if 1 ≤ (t116.size : Int) then (if (strOfNums y117).size + (t116.extract 1 t116.size).size ≤ 9223372036854775807 then (some ((strOfNums y117) ++ (t116.extract 1 t116.size))) else (none)) else (none))) else (none)) else (some t116)))
def spec_l3Name.T3 : Bool × List (List Nat × List Nat) := (true, [([], []), ([0], [0]), ([1], [1]), ([2], [2]), ([3], [3]), ([], []), ([5], [5]), ([4, 6], [4, 6]), ([7, 0, 1, 2, 3, 4, 5, 6, 7], [7])])
def spec_l3Name.B3 : List Nat := [0, 1, 3, 7, 15, 0, 32, 127, 255]
end Go.Proofs.YtldepdaglapdeaaDoor.E
end
section
namespace Go.Proofs.YtldepdaglapdeaaDoor.E
open Go.RowKit Go.Proofs.YtldepdaglapdeaaDoorW.PrintWords Go.Proofs.YtldepdaglapdeaaDoorW.PrintLast Go.Proofs.YtldepdaglapdeaaDoorW.PrintMore
attribute [local go_sem] max2_int min2_int max_two min_two max_three min_three max_four min_four
set_option linter.unusedVariables false
set_option linter.unusedSimpArgs false
attribute [local go_sem] str_leq_ str_gtr_ str_geq_
mutual
def spec_GroupsNames.l0 : Nat → List (S56) → List (S42) → ByteArray → Int → Option (ByteArray)
 | 0, _, _, _, _ => none
 | k + 1, x0, x1, x5, x6 => if x6 < (x1.length : Int) then ((spec_GroupsValid.f k x0 x1).bind fun t115 => (spec_GroupsNames.j1 k x0 x1 x5 x6 t115)) else (spec_GroupsNames.j1 k x0 x1 x5 x6 false)
def spec_GroupsNames.j1 : Nat → List (S56) → List (S42) → ByteArray → Int → Bool → Option (ByteArray)
 | 0, _, _, _, _, _ => none
 | k + 1, x0, x1, x5, x6, x16 => if x16 = true then (if x6 > 0 then (if x5.size + 1 ≤ 9223372036854775807 then ((spec_l3Begin.f k x1 x6).bind fun t116 => (if 0 ≤ x6 then (if x6 < (x1.length : Int) then (if 0 ≤ t116 then (if t116 ≤ (wrap64 (t116 + ((rd_T42 x1 x6).f0))) then (if (wrap64 (t116 + ((rd_T42 x1 x6).f0))) ≤ (x0.length : Int) then ((spec_l3Name.f k ((x0.take ((wrap64 (t116 + ((rd_T42 x1 x6).f0))) : Int).toNat).drop (t116 : Int).toNat) ((rd_T42 x1 x6).f1)).bind fun t123 => (if (x5 ++ (⟨#[32]⟩ : ByteArray)).size + t123.size ≤ 9223372036854775807 then (spec_GroupsNames.l0 k x0 x1 ((x5 ++ (⟨#[32]⟩ : ByteArray)) ++ t123) (wrap64 (x6 + 1))) else (none))) else (none)) else (none)) else (none)) else (none)) else (none))) else (none)) else ((spec_l3Begin.f k x1 x6).bind fun t124 => (if 0 ≤ x6 then (if x6 < (x1.length : Int) then (if 0 ≤ t124 then (if t124 ≤ (wrap64 (t124 + ((rd_T42 x1 x6).f0))) then (if (wrap64 (t124 + ((rd_T42 x1 x6).f0))) ≤ (x0.length : Int) then ((spec_l3Name.f k ((x0.take ((wrap64 (t124 + ((rd_T42 x1 x6).f0))) : Int).toNat).drop (t124 : Int).toNat) ((rd_T42 x1 x6).f1)).bind fun t131 => (if x5.size + t131.size ≤ 9223372036854775807 then (spec_GroupsNames.l0 k x0 x1 (x5 ++ t131) (wrap64 (x6 + 1))) else (none))) else (none)) else (none)) else (none)) else (none)) else (none)))) else (some x5)
end
def spec_GroupsNames.f (k : Nat) (l0 : List (S56)) (l1 : List (S42)) : Option (ByteArray) := spec_GroupsNames.l0 k l0 l1 (⟨#[]⟩ : ByteArray) 0
def spec_GroupsNames.T8 : Bool × List (List Nat × List Nat) := (true, [([], []), ([], []), ([], []), ([], []), ([], []), ([], []), ([4, 5], [4, 5]), ([6], [6]), ([7], [7]), ([3, 8], [3, 8]), ([1, 2, 9], [1, 2, 9]), ([], []), ([], []), ([11, 12], [11, 12]), ([13], [13]), ([14], [14]), ([10, 15], [10, 15]), ([0, 16], [0, 16]), ([17, 16, 0, 1, 2, 3, 4, 5, 6, 7, 8, 9, 10, 11, 12, 13, 14, 15, 16, 17], [0, 17])])
def spec_GroupsNames.B8 : List Nat := [0, 0, 0, 0, 0, 0, 48, 112, 240, 504, 1022, 0, 0, 6144, 14336, 30720, 65534, 131071, 262143]
end Go.Proofs.YtldepdaglapdeaaDoor.E
end
section
namespace Go.Proofs.YtldepdaglapdeaaDoor.E
open Go.RowKit Go.Proofs.YtldepdaglapdeaaDoorW.PrintWords Go.Proofs.YtldepdaglapdeaaDoorW.PrintLast Go.Proofs.YtldepdaglapdeaaDoorW.PrintMore
attribute [local go_sem] max2_int min2_int max_two min_two max_three min_three max_four min_four
set_option linter.unusedVariables false
set_option linter.unusedSimpArgs false
attribute [local go_sem] str_leq_ str_gtr_ str_geq_
def spec_GroupsRead.f (k : Nat) (l0 : List (S56)) (l1 : List (S42)) (a2 : ByteArray) : Option (Bool) := (spec_GroupsValid.f k l0 l1).bind fun t228 => (if t228 = true then ((spec_GroupsNames.f k l0 l1).bind fun t229 => (some (t229.toList == a2.toList))) else (some false))
end Go.Proofs.YtldepdaglapdeaaDoor.E
end
section
namespace Go.Proofs.YtldepdaglapdeaaDoor.E
open Go.RowKit Go.Proofs.YtldepdaglapdeaaDoorW.PrintWords Go.Proofs.YtldepdaglapdeaaDoorW.PrintLast Go.Proofs.YtldepdaglapdeaaDoorW.PrintMore
attribute [local go_sem] max2_int min2_int max_two min_two max_three min_three max_four min_four
set_option linter.unusedVariables false
set_option linter.unusedSimpArgs false
attribute [local go_sem] str_leq_ str_gtr_ str_geq_
def impl_GroupsRead.f (k : Nat) (l0 : List (S56)) (l1 : List (S42)) (a2 : ByteArray) : Option (Bool) := (impl_GroupsValid.f k l0 l1).bind fun t234 => (if t234 = true then ((impl_GroupsNames.f k l0 l1).bind fun t235 => (some (a2.toList == t235.toList))) else (some false))
end Go.Proofs.YtldepdaglapdeaaDoor.E
end
section
namespace Go.Proofs.YtldepdaglapdeaaDoor.Pur
open Go Go.RowKit Go.Proofs.YtldepdaglapdeaaDoorW.PrintWords Go.Proofs.YtldepdaglapdeaaDoorW.PrintMore Go.Proofs.YtldepdaglapdeaaDoor.E
def isHead (u : UInt8) : Prop := u = 112 ∨ u = 99 ∨ u = 116 ∨ u = 115 ∨ u = 103
theorem nnm_head (c : ByteArray) : ∃ u l, (nnm c).data.toList = u :: l ∧ isHead u := by
  unfold nnm isHead
  repeat' split
  all_goals exact ⟨_, _, rfl, by decide⟩
theorem nnm_size (c : ByteArray) (h : c.size ≤ 3) : (nnm c).size ≤ 9 := by
  unfold nnm
  repeat' split
  all_goals first | decide | skip
  rw [ByteArray.size_append]
  have : (⟨#[103, 114, 111, 117, 112, 45]⟩ : ByteArray).size = 6 := rfl
  omega
def liqB (n : ByteArray) : ByteArray := match n.data.toList with
  | [] => ⟨#[]⟩
  | u :: l => ⟨((u - 32) :: l).toArray⟩
def gname (g : GpG) : ByteArray := if g.f1 = true then liqB (nnm (con g.f0)) else nnm (con g.f0)
theorem liq_data {n : ByteArray} {u : UInt8} {l : List UInt8} (h : n.data.toList = u :: l) : (liqB n).data.toList = (u - 32) :: l := by
  unfold liqB
  rw [h]
theorem ext0 {n : ByteArray} {u : UInt8} {l : List UInt8} (h : n.data.toList = u :: l) : (n.extract 0 1).data.toList = [u] := by
  rw [ByteArray.data_extract, Array.toList_extract, List.extract_eq_take_drop, h]
  rfl
theorem ext1 {n : ByteArray} {u : UInt8} {l : List UInt8} (h : n.data.toList = u :: l) : (n.extract 1 n.size).data.toList = l := by
  have hs := list_len n
  rw [h, List.length_cons] at hs
  rw [ByteArray.data_extract, Array.toList_extract, List.extract_eq_take_drop, h, ← hs]
  simp
theorem head_up {u : UInt8} (h : isHead u) : Go.Lib.toUpperA [u] = [u - 32] ∧ u.toNat < 128 ∧ 32 ≤ u.toNat ∧ UInt8.ofNat (((u.toNat : Int) - 32) % 256).toNat = u - 32 ∧ u - 32 ≠ u ∧ u - 32 ≠ 32 := by
  unfold isHead at h
  rcases h with rfl | rfl | rfl | rfl | rfl <;> decide
theorem impl_gname (l : List TnG) (b : Bool) (hl : l.length ≤ 4) : impl_group_name.f l b = some (gname ⟨l, b⟩) := by
  have hc : (con l).size ≤ 3 := by rw [con_size]; omega
  have hn : nameB (con l) = nnm (con l) := if_pos ⟨con_ok (by omega), hc⟩
  have hz := nnm_size _ hc
  obtain ⟨u, t, hd, hu⟩ := nnm_head (con l)
  have hs := list_len (nnm (con l))
  rw [hd, List.length_cons] at hs
  obtain ⟨h1, h2, h3, _, _, _⟩ := head_up hu
  unfold impl_group_name.f
  rw [impl_con l (by omega), Option.bind_some, impl_nn, Option.bind_some, hn]
  unfold gname
  cases b with
  | false => rfl
  | true =>
    have e0 := ext0 hd
    have e1 := ext1 hd
    have z0 : ((nnm (con l)).extract 0 1).size = 1 := by rw [← list_len, e0]; rfl
    have z1 : ((nnm (con l)).extract 1 (nnm (con l)).size).size ≤ 9 := by rw [← list_len, e1]; omega
    have hup : strings_ToUpper.f ((nnm (con l)).extract 0 1) = some ⟨(Go.Lib.toUpperA [u]).toArray⟩ := by
      unfold strings_ToUpper.f
      rw [if_pos (by omega), e0, if_pos (by simp [h2])]
    have zz : (⟨(Go.Lib.toUpperA [u]).toArray⟩ : ByteArray).size = 1 := by rw [h1]; rfl
    rw [if_pos rfl, if_pos (by decide), if_pos (by omega), hup, Option.bind_some, if_pos (by omega)]
    refine congrArg some (ba_ext ?_)
    rw [app_data, e1, if_pos rfl, liq_data hd, h1]
    rfl
theorem gname_size (g : GpG) (h : g.f0.length ≤ 4) : (gname g).size ≤ 9 := by
  have hc : (con g.f0).size ≤ 3 := by rw [con_size]; omega
  have hz := nnm_size _ hc
  obtain ⟨u, t, hd, _⟩ := nnm_head (con g.f0)
  unfold gname
  split
  · rw [← list_len, liq_data hd]
    rw [← list_len, hd] at hz
    exact hz
  · exact hz
theorem gname_t (l : List TnG) : gname ⟨l, true⟩ = liqB (nnm (con l)) := rfl
theorem gname_f (l : List TnG) : gname ⟨l, false⟩ = nnm (con l) := rfl
theorem gname_flip (l : List TnG) (b : Bool) : ∃ u v t, (gname ⟨l, b⟩).data.toList = u :: t ∧ (gname ⟨l, !b⟩).data.toList = v :: t ∧ u ≠ v := by
  obtain ⟨u, t, hd, hu⟩ := nnm_head (con l)
  have h5 := (head_up hu).2.2.2.2.1
  cases b with
  | false => exact ⟨u, u - 32, t, by rw [gname_f]; exact hd, by rw [Bool.not_false, gname_t]; exact liq_data hd, fun e => h5 e.symm⟩
  | true => exact ⟨u - 32, u, t, by rw [gname_t]; exact liq_data hd, by rw [Bool.not_true, gname_f]; exact hd, h5⟩
def tailN : List ByteArray → List UInt8
  | [] => []
  | t :: ts => 32 :: (t.data.toList ++ tailN ts)
def joinN : List ByteArray → List UInt8
  | [] => []
  | t :: ts => t.data.toList ++ tailN ts
theorem tailN_len : ∀ l : List ByteArray, (∀ t ∈ l, t.size ≤ 9) → (tailN l).length ≤ 10 * l.length
  | [], _ => Nat.le_refl _
  | t :: ts, h => by
    have h1 := tailN_len ts (fun x hx => h x (List.mem_cons_of_mem _ hx))
    have h2 := h t (List.mem_cons_self ..)
    simp only [tailN, List.length_cons, List.length_append, list_len]
    omega
theorem joinN_len (l : List ByteArray) (h : ∀ t ∈ l, t.size ≤ 9) : (joinN l).length ≤ 10 * l.length := by
  cases l with
  | nil => exact Nat.le_refl _
  | cons t ts =>
    have h1 := tailN_len ts (fun x hx => h x (List.mem_cons_of_mem _ hx))
    have h2 := h t (List.mem_cons_self ..)
    simp only [joinN, List.length_cons, List.length_append, list_len]
    omega
theorem join_tail : ∀ (t : ByteArray) (l : List ByteArray), ([32] : List UInt8).intercalate ((t :: l).map (·.data.toList)) = t.data.toList ++ tailN l
  | t, [] => by simp [List.intercalate, tailN]
  | t, u :: r => by
    have h := join_tail u r
    simp only [List.map_cons, List.intercalate, List.intersperse, List.flatten_cons, tailN] at h ⊢
    rw [h]
    simp
theorem join_is (l : List ByteArray) : ([32] : List UInt8).intercalate (l.map (·.data.toList)) = joinN l := by
  cases l with
  | nil => rfl
  | cons t r => exact join_tail t r
def gnm (m : List TnG) (gs : List MlG) : List UInt8 := match grp m gs with
  | none => []
  | some l => joinN (l.map gname)
theorem gnm_some {m : List TnG} {gs : List MlG} {l : List GpG} (h : grp m gs = some l) : gnm m gs = joinN (l.map gname) := by unfold gnm; rw [h]
theorem gnm_none {m : List TnG} {gs : List MlG} (h : grp m gs = none) : gnm m gs = [] := by unfold gnm; rw [h]
theorem grp_small {m : List TnG} {gs : List MlG} {l : List GpG} (h : grp m gs = some l) : l.length = gs.length ∧ l.length ≤ 24 ∧ ∀ g ∈ l, g.f0.length ≤ 4 := by
  obtain ⟨_, h1, _, _, h2, hc⟩ := grp_of h
  have hl := cut_len gs m l hc
  refine ⟨hl, by omega, fun g hg => ?_⟩
  obtain ⟨i, hi, rfl⟩ := List.mem_iff_getElem.mp hg
  obtain ⟨b, _, _, _, h4, he⟩ := cut_at gs m l hc i gs[i] (List.getElem?_eq_getElem (by omega))
  rw [List.getElem?_eq_getElem hi] at he
  rw [Option.some.inj he]
  simp only [List.length_drop, List.length_take]
  omega
theorem impl_gnames_loop (l : List GpG) (hl : l.length ≤ 24) (h4 : ∀ g ∈ l, g.f0.length ≤ 4) : ∀ (d i : Nat), i + d = l.length → EvP (fun k => impl_GroupsNames.l0 k ((l.map gname).take i) l (l.length : Int) (i : Int)) (· = ⟨(joinN (l.map gname)).toArray⟩) := by
  intro d
  induction d with
  | zero =>
    intro i hi
    refine EvP.succ ?_
    simp only [impl_GroupsNames.l0]
    refine EvP.no (by omega) ?_
    rw [List.take_of_length_le (by rw [List.length_map]; omega)]
    have hj := join_is (l.map gname)
    have hz : (⟨#[32]⟩ : ByteArray).data.toList = [32] := rfl
    have hm := joinN_len (l.map gname) (fun t ht => by
      obtain ⟨g, hg, rfl⟩ := List.mem_map.mp ht
      exact gname_size g (h4 g hg))
    rw [List.length_map] at hm
    refine EvP.bind (P := (· = ⟨(joinN (l.map gname)).toArray⟩)) (EvP.con ?_ rfl) (fun _ e => EvP.ret e)
    unfold strings_Join.f Go.Lib.join
    rw [hz, hj, if_pos (by rw [List.length_map]; omega), if_pos (by omega)]
  | succ d ih =>
    intro i hi
    have hlt : i < l.length := by omega
    have e1 : Hd (wrap64 ((i : Int) + 1) = ((i + 1 : Nat) : Int)) := ⟨w64 (by omega) (by omega)⟩
    refine EvP.succ ?_
    simp only [impl_GroupsNames.l0]
    refine EvP.yes (by omega) (EvP.yes (by omega) (EvP.yes (by omega) ?_))
    rw [rdP_lt hlt, e1.out]
    refine EvP.bind (P := (· = gname l[i])) (EvP.con (impl_gname _ _ (h4 _ (List.getElem_mem hlt))) rfl) (fun _ e => ?_)
    subst e
    refine EvP.yes (by rw [List.length_take, List.length_map]; omega) ?_
    have := List.take_succ_eq_append_getElem (l := l.map gname) (i := i) (by rw [List.length_map]; exact hlt)
    rw [List.getElem_map] at this
    rw [← this]
    exact ih (i + 1) (by omega)
theorem impl_gnames (m : List TnG) (gs : List MlG) (hg : gs.length ≤ 1048576) : EvP (fun k => impl_GroupsNames.f k m gs) (· = ⟨(gnm m gs).toArray⟩) := by
  simp only [impl_GroupsNames.f]
  refine EvP.bind (impl_groups m gs hg) (fun r e => ?_)
  cases h : grp m gs with
  | none =>
    rw [e.2 h, gnm_none h]
    exact EvP.no (by decide) (EvP.ret rfl)
  | some l =>
    rw [e.1 l h, gnm_some h]
    obtain ⟨_, h2, h3⟩ := grp_small h
    exact EvP.yes rfl (impl_gnames_loop l h2 h3 l.length 0 (by omega))
end Go.Proofs.YtldepdaglapdeaaDoor.Pur
end
section
namespace Go.Proofs.YtldepdaglapdeaaDoor.E
open Go.RowKit Go.Proofs.YtldepdaglapdeaaDoorW.PrintWords Go.Proofs.YtldepdaglapdeaaDoorW.PrintLast Go.Proofs.YtldepdaglapdeaaDoorW.PrintMore
attribute [local go_sem] max2_int min2_int max_two min_two max_three min_three max_four min_four
set_option linter.unusedVariables false
set_option linter.unusedSimpArgs false
attribute [local go_sem] str_leq_ str_gtr_ str_geq_
def laws_toTone.f (a0_0 : Int) (a0_1 : Bool) : Option (Int × Bool) := some (a0_0, a0_1)
end Go.Proofs.YtldepdaglapdeaaDoor.E
end
section
namespace Go.Proofs.YtldepdaglapdeaaDoor.E
open Go.RowKit Go.Proofs.YtldepdaglapdeaaDoorW.PrintWords Go.Proofs.YtldepdaglapdeaaDoorW.PrintLast Go.Proofs.YtldepdaglapdeaaDoorW.PrintMore
attribute [local go_sem] max2_int min2_int max_two min_two max_three min_three max_four min_four
set_option linter.unusedVariables false
set_option linter.unusedSimpArgs false
attribute [local go_sem] str_leq_ str_gtr_ str_geq_
def laws_toToneS.l0 : Nat → List (S64) → List (S56) → Int → Option ((List (S56)))
 | 0, _, _, _ => none
 | k + 1, x0, x3, x4 => if x4 < (x0.length : Int) then (if 0 ≤ x4 then ((laws_toTone.f ((rd_T64 x0 x4).f0) ((rd_T64 x0 x4).f1)).bind fun bt139 => (if x4 < (x3.length : Int) then (laws_toToneS.l0 k x0 (x3.set (x4 : Int).toNat (⟨bt139.1, bt139.2⟩ : S56)) (wrap64 (x4 + 1))) else (none))) else (none)) else (some x3)
def laws_toToneS.f (k : Nat) (l0 : List (S64)) : Option ((List (S56))) := if 0 ≤ (l0.length : Int) then (if ((l0.length : Int) : Int).toNat ≤ 17592186044416 then (laws_toToneS.l0 k l0 (List.replicate ((l0.length : Int) : Int).toNat z56) 0) else (none)) else (none)
end Go.Proofs.YtldepdaglapdeaaDoor.E
end
section
namespace Go.Proofs.YtldepdaglapdeaaDoor.E
open Go.RowKit Go.Proofs.YtldepdaglapdeaaDoorW.PrintWords Go.Proofs.YtldepdaglapdeaaDoorW.PrintLast Go.Proofs.YtldepdaglapdeaaDoorW.PrintMore
attribute [local go_sem] max2_int min2_int max_two min_two max_three min_three max_four min_four
set_option linter.unusedVariables false
set_option linter.unusedSimpArgs false
attribute [local go_sem] str_leq_ str_gtr_ str_geq_
def laws_szToneS.f (l0 : List (S64)) (a1 : Int) : Option (Int) := if (wrap64 (a1 - (l0.length : Int))) < 0 then (some (-1)) else (some (wrap64 (a1 - (l0.length : Int))))
end Go.Proofs.YtldepdaglapdeaaDoor.E
end
section
namespace Go.Proofs.YtldepdaglapdeaaDoor.E
open Go.RowKit Go.Proofs.YtldepdaglapdeaaDoorW.PrintWords Go.Proofs.YtldepdaglapdeaaDoorW.PrintLast Go.Proofs.YtldepdaglapdeaaDoorW.PrintMore
attribute [local go_sem] max2_int min2_int max_two min_two max_three min_three max_four min_four
set_option linter.unusedVariables false
set_option linter.unusedSimpArgs false
attribute [local go_sem] str_leq_ str_gtr_ str_geq_
def laws_eqTone.f (a0_0 : Int) (a0_1 : Bool) (a1_0 : Int) (a1_1 : Bool) : Option (Bool) := if a0_0 = a1_0 then (if (a0_1 != a1_1) = true then (some false) else (some true)) else (some false)
end Go.Proofs.YtldepdaglapdeaaDoor.E
end
section
namespace Go.Proofs.YtldepdaglapdeaaDoor.E
open Go.RowKit Go.Proofs.YtldepdaglapdeaaDoorW.PrintWords Go.Proofs.YtldepdaglapdeaaDoorW.PrintLast Go.Proofs.YtldepdaglapdeaaDoorW.PrintMore
attribute [local go_sem] max2_int min2_int max_two min_two max_three min_three max_four min_four
set_option linter.unusedVariables false
set_option linter.unusedSimpArgs false
attribute [local go_sem] str_leq_ str_gtr_ str_geq_
def laws_eqToneS.l0 : Nat → List (S56) → List (S56) → Int → Option (Bool)
 | 0, _, _, _ => none
 | k + 1, x0, x1, x5 => if x5 < (x0.length : Int) then (if 0 ≤ x5 then (if x5 < (x1.length : Int) then ((laws_eqTone.f ((rd_T56 x0 x5).f0) ((rd_T56 x0 x5).f1) ((rd_T56 x1 x5).f0) ((rd_T56 x1 x5).f1)).bind fun t198 => (if t198 = true then (laws_eqToneS.l0 k x0 x1 (wrap64 (x5 + 1))) else (some false))) else (none)) else (none)) else (some true)
def laws_eqToneS.f (k : Nat) (l0 : List (S56)) (l1 : List (S56)) : Option (Bool) := if (l0.length : Int) = (l1.length : Int) then (laws_eqToneS.l0 k l0 l1 0) else (some false)
def laws_eqToneS.T6 : Bool × List (List Nat × List Nat) := (true, [([], []), ([], []), ([0, 1], [0, 1]), ([2], [2]), ([], []), ([], []), ([4, 5], [4, 5]), ([6], [6]), ([3, 7], [3, 7]), ([8], [8])])
def laws_eqToneS.B6 : List Nat := [0, 0, 3, 7, 0, 0, 48, 112, 255, 511]
end Go.Proofs.YtldepdaglapdeaaDoor.E
end
section
namespace Go.Proofs.YtldepdaglapdeaaDoor.Pur
open Go.RowKit Go.Proofs.YtldepdaglapdeaaDoorW.PrintWords Go.Proofs.YtldepdaglapdeaaDoor.E
abbrev Tn' := S56
def cv (t : S64) : S56 := ⟨t.f0, t.f1⟩
end Go.Proofs.YtldepdaglapdeaaDoor.Pur
end
section
namespace Go.Proofs.YtldepdaglapdeaaDoor.E
open Go.RowKit Go.Proofs.YtldepdaglapdeaaDoorW.PrintWords Go.Proofs.YtldepdaglapdeaaDoorW.PrintLast Go.Proofs.YtldepdaglapdeaaDoorW.PrintMore
attribute [local go_sem] max2_int min2_int max_two min_two max_three min_three max_four min_four
set_option linter.unusedVariables false
set_option linter.unusedSimpArgs false
attribute [local go_sem] str_leq_ str_gtr_ str_geq_
def laws_toMelisma.f (a0_0 : Int) (a0_1 : Bool) : Option (Int × Bool) := some (a0_0, a0_1)
end Go.Proofs.YtldepdaglapdeaaDoor.E
end
section
namespace Go.Proofs.YtldepdaglapdeaaDoor.E
open Go.RowKit Go.Proofs.YtldepdaglapdeaaDoorW.PrintWords Go.Proofs.YtldepdaglapdeaaDoorW.PrintLast Go.Proofs.YtldepdaglapdeaaDoorW.PrintMore
attribute [local go_sem] max2_int min2_int max_two min_two max_three min_three max_four min_four
set_option linter.unusedVariables false
set_option linter.unusedSimpArgs false
attribute [local go_sem] str_leq_ str_gtr_ str_geq_
def laws_toMelismaS.l0 : Nat → List (S66) → List (S42) → Int → Option ((List (S42)))
 | 0, _, _, _ => none
 | k + 1, x0, x3, x4 => if x4 < (x0.length : Int) then (if 0 ≤ x4 then ((laws_toMelisma.f ((rd_T66 x0 x4).f0) ((rd_T66 x0 x4).f1)).bind fun bt149 => (if x4 < (x3.length : Int) then (laws_toMelismaS.l0 k x0 (x3.set (x4 : Int).toNat (⟨bt149.1, bt149.2⟩ : S42)) (wrap64 (x4 + 1))) else (none))) else (none)) else (some x3)
def laws_toMelismaS.f (k : Nat) (l0 : List (S66)) : Option ((List (S42))) := if 0 ≤ (l0.length : Int) then (if ((l0.length : Int) : Int).toNat ≤ 17592186044416 then (laws_toMelismaS.l0 k l0 (List.replicate ((l0.length : Int) : Int).toNat z42) 0) else (none)) else (none)
end Go.Proofs.YtldepdaglapdeaaDoor.E
end
section
namespace Go.Proofs.YtldepdaglapdeaaDoor.E
open Go.RowKit Go.Proofs.YtldepdaglapdeaaDoorW.PrintWords Go.Proofs.YtldepdaglapdeaaDoorW.PrintLast Go.Proofs.YtldepdaglapdeaaDoorW.PrintMore
attribute [local go_sem] max2_int min2_int max_two min_two max_three min_three max_four min_four
set_option linter.unusedVariables false
set_option linter.unusedSimpArgs false
attribute [local go_sem] str_leq_ str_gtr_ str_geq_
def laws_szMelismaS.f (l0 : List (S66)) (a1 : Int) : Option (Int) := if (wrap64 (a1 - (l0.length : Int))) < 0 then (some (-1)) else (some (wrap64 (a1 - (l0.length : Int))))
end Go.Proofs.YtldepdaglapdeaaDoor.E
end
section
namespace Go.Proofs.YtldepdaglapdeaaDoor.E
open Go.RowKit Go.Proofs.YtldepdaglapdeaaDoorW.PrintWords Go.Proofs.YtldepdaglapdeaaDoorW.PrintLast Go.Proofs.YtldepdaglapdeaaDoorW.PrintMore
attribute [local go_sem] max2_int min2_int max_two min_two max_three min_three max_four min_four
set_option linter.unusedVariables false
set_option linter.unusedSimpArgs false
attribute [local go_sem] str_leq_ str_gtr_ str_geq_
def laws_eqMelisma.f (a0_0 : Int) (a0_1 : Bool) (a1_0 : Int) (a1_1 : Bool) : Option (Bool) := if a0_0 = a1_0 then (if (a0_1 != a1_1) = true then (some false) else (some true)) else (some false)
end Go.Proofs.YtldepdaglapdeaaDoor.E
end
section
namespace Go.Proofs.YtldepdaglapdeaaDoor.E
open Go.RowKit Go.Proofs.YtldepdaglapdeaaDoorW.PrintWords Go.Proofs.YtldepdaglapdeaaDoorW.PrintLast Go.Proofs.YtldepdaglapdeaaDoorW.PrintMore
attribute [local go_sem] max2_int min2_int max_two min_two max_three min_three max_four min_four
set_option linter.unusedVariables false
set_option linter.unusedSimpArgs false
attribute [local go_sem] str_leq_ str_gtr_ str_geq_
def laws_eqMelismaS.l0 : Nat → List (S42) → List (S42) → Int → Option (Bool)
 | 0, _, _, _ => none
 | k + 1, x0, x1, x5 => if x5 < (x0.length : Int) then (if 0 ≤ x5 then (if x5 < (x1.length : Int) then ((laws_eqMelisma.f ((rd_T42 x0 x5).f0) ((rd_T42 x0 x5).f1) ((rd_T42 x1 x5).f0) ((rd_T42 x1 x5).f1)).bind fun t203 => (if t203 = true then (laws_eqMelismaS.l0 k x0 x1 (wrap64 (x5 + 1))) else (some false))) else (none)) else (none)) else (some true)
def laws_eqMelismaS.f (k : Nat) (l0 : List (S42)) (l1 : List (S42)) : Option (Bool) := if (l0.length : Int) = (l1.length : Int) then (laws_eqMelismaS.l0 k l0 l1 0) else (some false)
def laws_eqMelismaS.T6 : Bool × List (List Nat × List Nat) := (true, [([], []), ([], []), ([0, 1], [0, 1]), ([2], [2]), ([], []), ([], []), ([4, 5], [4, 5]), ([6], [6]), ([3, 7], [3, 7]), ([8], [8])])
def laws_eqMelismaS.B6 : List Nat := [0, 0, 3, 7, 0, 0, 48, 112, 255, 511]
end Go.Proofs.YtldepdaglapdeaaDoor.E
end
section
namespace Go.Proofs.YtldepdaglapdeaaDoor.Pur
open Go.RowKit Go.Proofs.YtldepdaglapdeaaDoorW.PrintWords Go.Proofs.YtldepdaglapdeaaDoor.E
abbrev Ml' := S42
def cvG (t : S66) : S42 := ⟨t.f0, t.f1⟩
end Go.Proofs.YtldepdaglapdeaaDoor.Pur
end
section
namespace Go.Proofs.YtldepdaglapdeaaDoor.E
open Go.RowKit Go.Proofs.YtldepdaglapdeaaDoorW.PrintWords Go.Proofs.YtldepdaglapdeaaDoorW.PrintLast Go.Proofs.YtldepdaglapdeaaDoorW.PrintMore
attribute [local go_sem] max2_int min2_int max_two min_two max_three min_three max_four min_four
set_option linter.unusedVariables false
set_option linter.unusedSimpArgs false
attribute [local go_sem] str_leq_ str_gtr_ str_geq_
def laws_FnExactGroupsNames.f (k : Nat) (l0 : List (S64)) (l1 : List (S66)) : Option (Bool) := (laws_szToneS.f l0 1048576).bind fun t204 => (if t204 < 0 then (some true) else ((laws_szMelismaS.f l1 t204).bind fun t205 => (if t205 < 0 then (some true) else ((laws_toToneS.f k l0).bind fun t206 => ((laws_toMelismaS.f k l1).bind fun t209 => ((spec_GroupsNames.f k t206 t209).bind fun t212 => ((laws_toToneS.f k l0).bind fun t213 => ((laws_toMelismaS.f k l1).bind fun t216 => ((impl_GroupsNames.f k t213 t216).bind fun t219 => (if t219.toList = t212.toList then ((laws_toToneS.f k l0).bind fun t220 => ((laws_eqToneS.f k t213 t220).bind fun t223 => (if t223 = true then ((laws_toMelismaS.f k l1).bind fun t224 => ((laws_eqMelismaS.f k t216 t224).bind fun t227 => (if t227 = true then (some true) else (none)))) else (none)))) else (none)))))))))))
end Go.Proofs.YtldepdaglapdeaaDoor.E
end
section
namespace Go.Proofs.YtldepdaglapdeaaDoor.E
open Go.RowKit Go.Proofs.YtldepdaglapdeaaDoorW.PrintWords Go.Proofs.YtldepdaglapdeaaDoorW.PrintLast Go.Proofs.YtldepdaglapdeaaDoorW.PrintMore
attribute [local go_sem] max2_int min2_int max_two min_two max_three min_three max_four min_four
set_option linter.unusedVariables false
set_option linter.unusedSimpArgs false
attribute [local go_sem] str_leq_ str_gtr_ str_geq_
def laws_FnExactGroupsRead.f (k : Nat) (l0 : List (S64)) (l1 : List (S66)) (a2 : ByteArray) : Option (Bool) := if (a2.size : Int) > 1048576 then (some true) else ((laws_szToneS.f l0 1048576).bind fun t236 => (if t236 < 0 then (some true) else ((laws_szMelismaS.f l1 t236).bind fun t237 => (if t237 < 0 then (some true) else ((laws_toToneS.f k l0).bind fun t238 => ((laws_toMelismaS.f k l1).bind fun t241 => ((spec_GroupsRead.f k t238 t241 a2).bind fun t244 => ((laws_toToneS.f k l0).bind fun t245 => ((laws_toMelismaS.f k l1).bind fun t248 => ((impl_GroupsRead.f k t245 t248 a2).bind fun t251 => (if (t251 != t244) = true then (none) else ((laws_toToneS.f k l0).bind fun t252 => ((laws_eqToneS.f k t245 t252).bind fun t255 => (if t255 = true then ((laws_toMelismaS.f k l1).bind fun t256 => ((laws_eqMelismaS.f k t248 t256).bind fun t259 => (if t259 = true then (some true) else (none)))) else (none)))))))))))))))
end Go.Proofs.YtldepdaglapdeaaDoor.E
end
section
namespace Go.Proofs.YtldepdaglapdeaaDoor.Pur
open Go.RowKit Go.Proofs.YtldepdaglapdeaaDoorW.PrintWords Go.Proofs.YtldepdaglapdeaaDoorW.PrintMore Go.Proofs.YtldepdaglapdeaaDoor.E
def gread (m : List TnG) (gs : List MlG) (t : ByteArray) : Bool := (grp m gs).isSome && decide (t = ⟨(gnm m gs).toArray⟩)
end Go.Proofs.YtldepdaglapdeaaDoor.Pur
end
section
namespace Go.Proofs.YtldepdaglapdeaaDoor.E
open Go.RowKit Go.Proofs.YtldepdaglapdeaaDoorW.PrintWords Go.Proofs.YtldepdaglapdeaaDoorW.PrintLast Go.Proofs.YtldepdaglapdeaaDoorW.PrintMore
attribute [local go_sem] max2_int min2_int max_two min_two max_three min_three max_four min_four
set_option linter.unusedVariables false
set_option linter.unusedSimpArgs false
attribute [local go_sem] str_leq_ str_gtr_ str_geq_
def spec_DrawGroupsNames.f (k : Nat) (l0 : List Int) : Option ((List (S56)) × (List (S42))) := (spec_l6Open.f l0).bind fun bt322 => ((spec_l91Groups.f k bt322.1 bt322.2).bind fun bt325 => (some (bt325.1, bt325.2.1)))
end Go.Proofs.YtldepdaglapdeaaDoor.E
end
section
namespace Go.Proofs.YtldepdaglapdeaaDoor.E
open Go.RowKit Go.Proofs.YtldepdaglapdeaaDoorW.PrintWords Go.Proofs.YtldepdaglapdeaaDoorW.PrintLast Go.Proofs.YtldepdaglapdeaaDoorW.PrintMore
attribute [local go_sem] max2_int min2_int max_two min_two max_three min_three max_four min_four
set_option linter.unusedVariables false
set_option linter.unusedSimpArgs false
attribute [local go_sem] str_leq_ str_gtr_ str_geq_
def spec_DrawGroupsRead.f (k : Nat) (l0 : List Int) : Option ((List (S56)) × (List (S42)) × ByteArray) := (spec_l6Open.f l0).bind fun bt530 => ((spec_l91Groups.f k bt530.1 bt530.2).bind fun bt533 => ((spec_GroupsNames.f k bt533.1 bt533.2.1).bind fun t540 => ((spec_l6Rd_pick.f k bt530.1 bt533.2.2 4).bind fun bt541 => (if bt541.1 = 0 then ((spec_l6Rd_of.f k bt530.1 bt541.2 (([(⟨#[32]⟩ : ByteArray), (⟨#[112, 117, 110, 99, 116, 117, 109]⟩ : ByteArray), (⟨#[32, 112, 101, 115]⟩ : ByteArray)] : List ByteArray))).bind fun bt546 => (if t540.size + bt546.1.size ≤ 9223372036854775807 then (some (bt533.1, bt533.2.1, t540 ++ bt546.1)) else (none))) else (some (bt533.1, bt533.2.1, t540))))))
end Go.Proofs.YtldepdaglapdeaaDoor.E
end
section
namespace Go.Proofs.YtldepdaglapdeaaDoor.Pur
open Go Go.RowKit Go.Proofs.YtldepdaglapdeaaDoorW.PrintWords Go.Proofs.YtldepdaglapdeaaDoorW.PrintMore Go.Proofs.YtldepdaglapdeaaDoor.E
theorem mn_four {a : Int} (h : 1 ≤ a) : 1 ≤ mn a 4 ∧ mn a 4 ≤ a ∧ mn a 4 ≤ 4 := by unfold mn; omega
theorem groups_loop {B : List Int} (hB : okB B) (m : List TnG) : ∀ (n : Nat) (x p : Int) (acc : List MlG), x ≤ n → 0 ≤ x → n ≤ 100 → acc.length + n ≤ 100 → 0 ≤ p → p ≤ 1000000 - 10 * n →
    EvP (fun k => spec_l91Groups.l0 k m acc x B p) (fun r => r.1 = m ∧ r.2.1.length ≤ acc.length + n ∧ 0 ≤ r.2.2 ∧ r.2.2 ≤ p + 2 * n + 2) := by
  intro n
  induction n with
  | zero =>
    intro x p acc hx h0 hn ha hp0 hp1
    refine EvP.succ ?_
    simp only [spec_l91Groups.l0]
    refine EvP.no (by omega) ?_
    refine EvP.ite (fun hpos => ?_) (fun _ => EvP.ret ⟨rfl, by dsimp only; omega, hp0, by dsimp only; omega⟩)
    refine EvP.bind (pick_ok hB p 30 (by omega) (by omega)) (fun r hr => ?_)
    refine EvP.ite (fun _ => ?_) (fun _ => EvP.ite (fun _ => ?_) (fun _ => EvP.ret ⟨rfl, by dsimp only; omega, by dsimp only; omega, by dsimp only; omega⟩))
    · refine EvP.bind (P := (· = [0, 5, (-1)])) (EvP.con rfl rfl) (fun _ e => ?_)
      subst e
      refine EvP.bind (pick_ok hB r.2 3 (by omega) (by omega)) (fun q hq => ?_)
      have h3 : (([0, 5, (-1)] : List Int).length : Int) = 3 := rfl
      exact EvP.yes hq.1 (EvP.yes (by omega) (EvP.yes (by omega) (EvP.ret ⟨rfl, by simp, by dsimp only; omega, by dsimp only; omega⟩)))
    · exact EvP.yes (by omega) (EvP.ret ⟨rfl, by simp, by dsimp only; omega, by dsimp only; omega⟩)
  | succ n ih =>
    intro x p acc hx h0 hn ha hp0 hp1
    by_cases hpos : x > 0
    · refine EvP.succ ?_
      simp only [spec_l91Groups.l0]
      refine EvP.yes hpos ?_
      have h4 := mn_four (a := x) (by omega)
      refine EvP.bind (pick_ok hB p (mn x 4) (by omega) (by omega)) (fun r hr => ?_)
      refine EvP.bind (pick_ok hB r.2 4 (by omega) (by omega)) (fun q hq => ?_)
      refine EvP.yes (by omega) ?_
      have e1 : wrap64 (1 + r.1) = 1 + r.1 := w64 (by omega) (by omega)
      have e2 : wrap64 (x - (1 + r.1)) = x - (1 + r.1) := w64 (by omega) (by omega)
      rw [e1, e2]
      clear e1 e2
      have hl : (acc ++ [(⟨1 + r.1, q.1 == 0⟩ : MlG)]).length = acc.length + 1 := by rw [List.length_append]; rfl
      refine (ih _ q.2 _ (by omega) (by omega) (by omega) (by rw [hl]; omega) (by omega) (by omega)).mono (fun r' h => ?_)
      rw [hl] at h
      exact ⟨h.1, by omega, h.2.2.1, by omega⟩
    · refine (ih x p acc (by omega) h0 (by omega) (by omega) hp0 (by omega)).mono (fun r' h => ⟨h.1, by omega, h.2.2.1, by omega⟩)
theorem groups_ok {B : List Int} (hB : okB B) (p : Int) (hp : 0 ≤ p ∧ p ≤ 1000) : EvP (fun k => spec_l91Groups.f k B p) (fun r => r.1.length ≤ 10 ∧ r.2.1.length ≤ 10 ∧ 0 ≤ r.2.2 ∧ r.2.2 ≤ p + 100) := by
  simp only [spec_l91Groups.f]
  refine EvP.bind (melody_ok hB p 10 (by omega) (by omega)) (fun r hr => ?_)
  refine (groups_loop hB r.1 10 (r.1.length : Int) r.2 [] (by omega) (by omega) (by omega) (by simp) (by omega) (by omega)).mono (fun r' h => ?_)
  have h2 := h.2.1
  rw [List.length_nil] at h2
  exact ⟨by rw [h.1]; omega, by omega, h.2.2.1, by omega⟩
theorem draw_gcut (l : List Int) (h : ∀ x ∈ l, (Lit.int .u8 x).wf = true) : EvP (fun k => spec_DrawGroupsCut.f k l) (fun r => r.1.length ≤ 10 ∧ r.2.1.length ≤ 10 ∧ -1 ≤ r.2.2 ∧ r.2.2 ≤ 10) := by
  simp only [spec_DrawGroupsCut.f]
  refine EvP.bind (open_code l h) (fun r hr => ?_)
  refine EvP.bind (groups_ok hr.1 r.2 (by omega)) (fun q hq => ?_)
  refine EvP.bind (at_ok hr.1 q.2.2 (q.2.1.length : Int) (by omega) (by omega)) (fun a ha => EvP.ret ⟨hq.1, hq.2.1, ha.1, by have := ha.2.1; dsimp only; omega⟩)
end Go.Proofs.YtldepdaglapdeaaDoor.Pur
end
section
namespace Go.Proofs.YtldepdaglapdeaaDoor.E
open Go.RowKit Go.Proofs.YtldepdaglapdeaaDoorW.PrintWords Go.Proofs.YtldepdaglapdeaaDoorW.PrintLast Go.Proofs.YtldepdaglapdeaaDoorW.PrintMore
attribute [local go_sem] max2_int min2_int max_two min_two max_three min_three max_four min_four
set_option linter.unusedVariables false
set_option linter.unusedSimpArgs false
attribute [local go_sem] str_leq_ str_gtr_ str_geq_
def laws_names.l0 : Nat → ByteArray → Int → Int → Option (Int)
 | 0, _, _, _ => none
 | k + 1, x0, x3, x4 => if x4 < (x0.size : Int) then (if 0 ≤ x4 then (if (bt x0 x4) = 32 then (laws_names.l0 k x0 (wrap64 (x3 + 1)) (wrap64 (x4 + 1))) else (laws_names.l0 k x0 x3 (wrap64 (x4 + 1)))) else (none)) else (some x3)
def laws_names.f (k : Nat) (a0 : ByteArray) : Option (Int) := if a0.toList = ([] : List UInt8) then (some 0) else (laws_names.l0 k a0 1 0)
end Go.Proofs.YtldepdaglapdeaaDoor.E
end
section
namespace Go.Proofs.YtldepdaglapdeaaDoor.E
open Go.RowKit Go.Proofs.YtldepdaglapdeaaDoorW.PrintWords Go.Proofs.YtldepdaglapdeaaDoorW.PrintLast Go.Proofs.YtldepdaglapdeaaDoorW.PrintMore
attribute [local go_sem] max2_int min2_int max_two min_two max_three min_three max_four min_four
set_option linter.unusedVariables false
set_option linter.unusedSimpArgs false
attribute [local go_sem] str_leq_ str_gtr_ str_geq_
mutual
def laws_FnGroups.j0 : Nat → List (S56) → List (S42) → ByteArray → ByteArray → Bool → Option (Bool)
 | 0, _, _, _, _, _ => none
 | k + 1, x3, x4, x5, x6, x31 => if x31 = true then (some (x5.toList == x6.toList)) else (laws_FnGroups.l0 k x3 x4 x5 (([] : List (S56))) 0)
def laws_FnGroups.l0 : Nat → List (S56) → List (S42) → ByteArray → List (S56) → Int → Option (Bool)
 | 0, _, _, _, _, _ => none
 | k + 1, x3, x4, x5, x7, x8 => if x8 < (x4.length : Int) then ((impl_GroupsCut.f k x3 x4 x8).bind fun bt353 => (if bt353.2 = true then (if 0 ≤ x8 then (if (bt353.1.length : Int) = ((rd_T42 x4 x8).f0) then (if x7.length + bt353.1.length < 8796093022208 then (laws_FnGroups.l0 k x3 x4 x5 (x7 ++ bt353.1) (wrap64 (x8 + 1))) else (none)) else (none)) else (none)) else (none))) else ((laws_sameTones.f k x7 x3).bind fun t361 => (if t361 = true then ((laws_names.f k x5).bind fun t362 => (if t362 = (x4.length : Int) then ((impl_GroupsRead.f k x3 x4 x5).bind fun t363 => (some t363)) else (none))) else (none)))
end
def laws_FnGroups.f (k : Nat) (l0 : List Int) : Option (Bool) := if (l0.length : Int) > 1048576 then (some true) else ((spec_DrawGroupsNames.f k l0).bind fun bt342 => ((impl_GroupsNames.f k bt342.1 bt342.2).bind fun t348 => ((spec_GroupsNames.f k bt342.1 bt342.2).bind fun t349 => (if t348.toList = t349.toList then (laws_FnGroups.j0 k bt342.1 bt342.2 t348 t349 (t348.toList == ([] : List UInt8))) else (laws_FnGroups.j0 k bt342.1 bt342.2 t348 t349 true)))))
def laws_FnGroups.Pure : Prop := ∀ (l0 : List Int), l0.length ≤ maxLen → l0.length * 1 ≤ 140737488351232 → (∀ x ∈ l0, (Lit.int .u8 x).wf = true) → ∃ k, laws_FnGroups.f k l0 = some true
end Go.Proofs.YtldepdaglapdeaaDoor.E
end
section
namespace Go.Proofs.YtldepdaglapdeaaDoor.E
open Go.RowKit Go.Proofs.YtldepdaglapdeaaDoorW.PrintWords Go.Proofs.YtldepdaglapdeaaDoorW.PrintLast Go.Proofs.YtldepdaglapdeaaDoorW.PrintMore
attribute [local go_sem] max2_int min2_int max_two min_two max_three min_three max_four min_four
set_option linter.unusedVariables false
set_option linter.unusedSimpArgs false
attribute [local go_sem] str_leq_ str_gtr_ str_geq_
mutual
def laws_FnGroupsRead.j0 : Nat → List Int → List Int → Bool → Option (Bool)
 | 0, _, _, _ => none
 | k + 1, x0, x1, x19 => if x19 = true then (some true) else ((spec_DrawGroupsRead.f k x0).bind fun bt548 => ((impl_GroupsRead.f k bt548.1 bt548.2.1 bt548.2.2).bind fun t555 => ((spec_GroupsRead.f k bt548.1 bt548.2.1 bt548.2.2).bind fun t556 => (if (t555 != t556) = true then (laws_FnGroupsRead.j1 k x1 bt548.1 bt548.2.1 bt548.2.2 t555 t556 true) else (laws_FnGroupsRead.j1 k x1 bt548.1 bt548.2.1 bt548.2.2 t555 t556 (!t555))))))
def laws_FnGroupsRead.j1 : Nat → List Int → List (S56) → List (S42) → ByteArray → Bool → Bool → Bool → Option (Bool)
 | 0, _, _, _, _, _, _, _ => none
 | k + 1, x1, x5, x6, x7, x8, x9, x40 => if x40 = true then (some (x8 == x9)) else (if (x6.length : Int) = 0 then (if x7.toList = ([] : List UInt8) then (some ((x5.length : Int) == 0)) else (none)) else ((some (([] : List (S42)) : List (S42))).bind fun y557 => (if y557.length + x6.length < 8796093022208 then ((some (y557 ++ x6 : List (S42))).bind fun y560 => (if 0 ≤ ((x1.length : Int) % (x6.length : Int)) then (if ((x1.length : Int) % (x6.length : Int)) < (y560.length : Int) then (if x7.size + 4 ≤ 9223372036854775807 then ((impl_GroupsRead.f k x5 x6 (x7 ++ (⟨#[32, 112, 101, 115]⟩ : ByteArray))).bind fun t565 => (if t565 = true then (none) else ((impl_GroupsRead.f k x5 (y560.set (((x1.length : Int) % (x6.length : Int)) : Int).toNat (⟨(rd_T42 y560 ((x1.length : Int) % (x6.length : Int))).f0, !((rd_T42 y560 ((x1.length : Int) % (x6.length : Int))).f1)⟩ : S42)) x7).bind fun t566 => (some (!t566))))) else (none)) else (none)) else (none))) else (none))))
end
def laws_FnGroupsRead.f (k : Nat) (l0 : List Int) (l1 : List Int) : Option (Bool) := if (l0.length : Int) > 1048576 then (laws_FnGroupsRead.j0 k l0 l1 true) else (laws_FnGroupsRead.j0 k l0 l1 (decide ((l1.length : Int) > 1048576)))
def laws_FnGroupsRead.Pure : Prop := ∀ (l0 : List Int) (l1 : List Int), l0.length ≤ maxLen → l0.length * 1 ≤ 140737488351232 → (∀ x ∈ l0, (Lit.int .u8 x).wf = true) → l1.length ≤ maxLen → l1.length * 1 ≤ 140737488351232 → (∀ x ∈ l1, (Lit.int .u8 x).wf = true) → ∃ k, laws_FnGroupsRead.f k l0 l1 = some true
end Go.Proofs.YtldepdaglapdeaaDoor.E
end
section
namespace Go.Proofs.YtldepdaglapdeaaDoor.Pur
open Go Go.RowKit Go.Proofs.YtldepdaglapdeaaDoorW.PrintWords Go.Proofs.YtldepdaglapdeaaDoorW.PrintMore Go.Proofs.YtldepdaglapdeaaDoor.E
theorem same_loop (l : List TnG) (hl : l.length ≤ 1000000) : ∀ d i : Nat, i + d = l.length → EvP (fun k => laws_sameTones.l0 k l l (i : Int)) (· = true) := by
  intro d
  induction d with
  | zero =>
    intro i hi
    refine EvP.succ ?_
    simp only [laws_sameTones.l0]
    exact EvP.no (by omega) (EvP.ret rfl)
  | succ d ih =>
    intro i hi
    refine EvP.succ ?_
    simp only [laws_sameTones.l0]
    refine EvP.yes (by omega) (EvP.yes (by omega) (EvP.yes (by omega) (EvP.no (by simp) ?_)))
    rw [w64 (by omega) (by omega)]
    exact ih (i + 1) (by omega)
theorem same_ok (l : List TnG) (hl : l.length ≤ 1000000) : EvP (fun k => laws_sameTones.f k l l) (· = true) := by
  unfold laws_sameTones.f
  exact EvP.yes rfl (same_loop l hl l.length 0 (by omega))
def gcut (m : List TnG) (gs : List MlG) (a : Int) : List TnG × Bool := match grp m gs with
  | none => ([], false)
  | some l => if 0 ≤ a ∧ a < (l.length : Int) then ((rd_T73 l a).f0, true) else ([], false)
theorem gcut_none {m : List TnG} {gs : List MlG} (h : grp m gs = none) (a : Int) : gcut m gs a = ([], false) := by unfold gcut; rw [h]
theorem gcut_some {m : List TnG} {gs : List MlG} {l : List GpG} (h : grp m gs = some l) (a : Int) : gcut m gs a = if 0 ≤ a ∧ a < (l.length : Int) then ((rd_T73 l a).f0, true) else ([], false) := by unfold gcut; rw [h]
theorem impl_gcut (m : List TnG) (gs : List MlG) (a : Int) (hg : gs.length ≤ 1048576) : EvP (fun k => impl_GroupsCut.f k m gs a) (· = gcut m gs a) := by
  simp only [impl_GroupsCut.f]
  refine EvP.bind (impl_groups m gs hg) (fun r e => ?_)
  cases h : grp m gs with
  | none =>
    rw [e.2 h, gcut_none h]
    exact EvP.no (by decide) (EvP.ret rfl)
  | some l =>
    rw [e.1 l h, gcut_some h]
    dsimp only
    obtain ⟨_, _, h4⟩ := grp_small h
    refine EvP.yes rfl ?_
    refine EvP.ite (fun h1 => EvP.ret (by rw [if_neg (by omega)])) (fun h1 => ?_)
    refine EvP.ite (fun h2 => EvP.ret (by rw [if_neg (by omega)])) (fun h2 => ?_)
    refine EvP.yes (by omega) (EvP.yes (by omega) ?_)
    obtain ⟨n, rfl⟩ := Int.eq_ofNat_of_zero_le (show 0 ≤ a by omega)
    have hn : n < l.length := by omega
    rw [if_pos ⟨by omega, by omega⟩]
    have hs := h4 _ (List.getElem_mem hn)
    rw [rdP_lt hn]
    refine EvP.bind (P := (· = l[n].f0)) (EvP.con (show impl_copiedTones.f _ = _ from if_pos (by omega)) rfl) (fun _ e => ?_)
    subst e
    exact EvP.ret rfl
theorem spec_gcut (m : List TnG) (gs : List MlG) (a : Int) (hm : m.length ≤ 1000000000) (hg : gs.length ≤ 1048576) : EvP (fun k => spec_GroupsCut.f k m gs a) (· = gcut m gs a) := by
  simp only [spec_GroupsCut.f]
  refine EvP.bind (spec_gvalid m gs hm hg) (fun _ e => ?_)
  subst e
  cases h : grp m gs with
  | none =>
    rw [gcut_none h]
    exact EvP.no (by decide) (EvP.ret rfl)
  | some l =>
    rw [gcut_some h]
    obtain ⟨hlen, h24, h4⟩ := grp_small h
    obtain ⟨_, h1, ha, _, h2, hc⟩ := grp_of h
    refine EvP.yes rfl ?_
    rw [w64 (i := (gs.length : Int) - 1) (by omega) (by omega)]
    have hin : spec_l6In.f a 0 ((gs.length : Int) - 1) = some (decide (0 ≤ a ∧ a < (l.length : Int))) := by
      unfold spec_l6In.f
      by_cases h0 : a ≥ 0
      · rw [if_pos h0]
        congr 1
        rw [decide_eq_decide]
        omega
      · rw [if_neg h0, decide_eq_false (by omega)]
    refine EvP.bind (P := (· = decide (0 ≤ a ∧ a < (l.length : Int)))) (EvP.con hin rfl) (fun _ e => ?_)
    subst e
    refine EvP.ite (fun hh => ?_) (fun hh => EvP.ret (by rw [if_neg (fun q => hh (decide_eq_true q))]))
    have hh := of_decide_eq_true hh
    rw [if_pos hh]
    obtain ⟨n, rfl⟩ := Int.eq_ofNat_of_zero_le hh.1
    have hn : n < l.length := by omega
    have hn' : n < gs.length := by omega
    have hs := h4 _ (List.getElem_mem hn)
    rw [rdP_lt hn, rdG_lt hn']
    obtain ⟨b, hb, hl, h3, h5, he⟩ := cut_at gs m l hc n gs[n] (List.getElem?_eq_getElem hn')
    refine EvP.bind (spec_begin gs n (by omega) (by omega) ha) (fun _ e => ?_)
    subst e
    rw [← hb]
    refine EvP.bind (P := (· = ([] : List TnG))) (EvP.ret rfl) (fun _ e => ?_)
    subst e
    have e1 : Hd (wrap64 ((b : Int) + gs[n].f0) = ((b + gs[n].f0.toNat : Nat) : Int)) := ⟨by rw [w64 (by omega) (by omega)]; omega⟩
    rw [e1.out]
    refine EvP.yes (by omega) (EvP.yes (by omega) (EvP.yes (by omega) (EvP.yes (by omega) (EvP.yes (by omega) ?_))))
    rw [toNat_nat, toNat_nat]
    rw [List.getElem?_eq_getElem hn] at he
    have he := Option.some.inj he
    rw [he] at hs ⊢
    simp only [List.nil_append] at hs ⊢
    refine EvP.bind (P := (· = (m.take (b + gs[n].f0.toNat)).drop b)) (EvP.ret rfl) (fun _ e => ?_)
    subst e
    refine EvP.yes (by rw [List.length_nil]; omega) (EvP.ret rfl)
theorem gcut_at {m : List TnG} {gs : List MlG} {l : List GpG} (h : grp m gs = some l) (i : Nat) (hi : i < l.length) : gcut m gs (i : Int) = (l[i].f0, true) := by
  rw [gcut_some h, if_pos ⟨by omega, by omega⟩, rdP_lt hi]
end Go.Proofs.YtldepdaglapdeaaDoor.Pur
end
section
namespace Go.Proofs.YtldepdaglapdeaaDoor.Pur
open Go Go.RowKit Go.Proofs.YtldepdaglapdeaaDoorW.PrintWords Go.Proofs.YtldepdaglapdeaaDoorW.PrintMore Go.Proofs.YtldepdaglapdeaaDoor.E
theorem grp_one (c : List TnG) (s : Int) (b : Bool) (hc : okM c = true) (hs : s = (c.length : Int)) (h1 : 1 ≤ c.length) (h4 : c.length ≤ 4) : grp c [⟨s, b⟩] = some [⟨c, b⟩] := by
  subst hs
  unfold grp
  rw [if_pos hc]
  simp only [cutG]
  rw [if_pos ⟨by omega, by omega, by omega⟩, toNat_nat, List.drop_length, List.take_length]
  rfl
theorem gnm_one {c : List TnG} {s : Int} {b : Bool} (h : grp c [⟨s, b⟩] = some [⟨c, b⟩]) : (⟨(gnm c [⟨s, b⟩]).toArray⟩ : ByteArray) = gname ⟨c, b⟩ := by
  rw [gnm_some h]
  apply ba_ext
  simp [joinN, tailN]
theorem okM_part {m : List TnG} (h : okM m = true) (a b : Nat) : okM ((m.take a).drop b) = true := by
  obtain ⟨h1, h2⟩ := okM_parts h
  unfold okM
  rw [Bool.and_eq_true]
  refine ⟨?_, decide_eq_true (by rw [List.length_drop, List.length_take]; omega)⟩
  rw [List.all_eq_true] at h1 ⊢
  exact fun x hx => h1 x (List.mem_of_mem_take (List.mem_of_mem_drop hx))
theorem ext_tail {x y : ByteArray} {u v : UInt8} {t : List UInt8} (hx : x.data.toList = u :: t) (hy : y.data.toList = v :: t) : x.extract 1 x.size = y.extract 1 y.size := by
  apply ba_ext
  rw [ext1 hx, ext1 hy]
theorem contour_of (c : List TnG) (h : okM c = true) : EvP (fun k => impl_ContourOf.f k c) (· = con c) := by
  simp only [impl_ContourOf.f]
  refine EvP.bind (impl_melody c) (fun _ e => ?_)
  subst e
  have := (okM_parts h).2
  refine EvP.yes h ?_
  exact EvP.bind (P := (· = con c)) (EvP.con (impl_con c (by omega)) rfl) (fun _ e => EvP.ret e)
theorem law_gcut (l : List Int) (_ : (l.length : Int) ≤ 9223372036854775807) (hb : ∀ x ∈ l, (Lit.int .u8 x).wf = true) : ∃ k, laws_FnGroupsCut.f k l = some true := by
  refine EvP.rounds ?_
  simp only [laws_FnGroupsCut.f]
  refine EvP.ite (fun _ => EvP.ret rfl) (fun _ => ?_)
  refine EvP.bind (draw_gcut l hb) (fun r hr => ?_)
  obtain ⟨m, gs, a⟩ := r
  dsimp only at hr ⊢
  obtain ⟨hm, hg, ha1, ha2⟩ := hr
  refine EvP.bind (impl_gcut m gs a (by omega)) (fun _ e => ?_)
  subst e
  refine EvP.bind (spec_gcut m gs a (by omega) (by omega)) (fun _ e => ?_)
  subst e
  have hsz : (gcut m gs a).1.length ≤ 10 := by
    unfold gcut
    cases h : grp m gs with
    | none => exact Nat.zero_le _
    | some ls =>
      dsimp only
      split
      · rename_i hh
        obtain ⟨n, rfl⟩ := Int.eq_ofNat_of_zero_le hh.1
        have hn : n < ls.length := by omega
        have := (grp_small h).2.2 _ (List.getElem_mem hn)
        rw [rdP_lt hn]
        dsimp only
        omega
      · exact Nat.zero_le _
  refine EvP.no (by simp) ?_
  refine EvP.bind (same_ok _ (by omega)) (fun _ e => ?_)
  subst e
  refine EvP.yes rfl (EvP.succ ?_)
  simp only [laws_FnGroupsCut.j0]
  refine EvP.ite (fun _ => ?_) (fun hx => ?_)
  · refine EvP.yes (by simp) ?_
    exact EvP.bind (same_ok _ (by omega)) (fun _ e => EvP.ret e)
  · have h2 : (gcut m gs a).2 = true := by
      cases h : (gcut m gs a).2 with
      | true => rfl
      | false => rw [h] at hx; exact absurd rfl hx
    cases h : grp m gs with
    | none => rw [gcut_none h] at h2; cases h2
    | some ls =>
      rw [gcut_some h] at h2
      split at h2
      · rename_i hh
        obtain ⟨n, rfl⟩ := Int.eq_ofNat_of_zero_le hh.1
        have hn : n < ls.length := by omega
        rw [gcut_at h n hn]
        dsimp only
        obtain ⟨hlen, h24, h4⟩ := grp_small h
        obtain ⟨hok, h1, hall, _, _, hc⟩ := grp_of h
        have hn' : n < gs.length := by omega
        obtain ⟨b, hb, hl, h3, h5, he⟩ := cut_at gs m ls hc n gs[n] (List.getElem?_eq_getElem hn')
        rw [List.getElem?_eq_getElem hn] at he
        have he := Option.some.inj he
        have hcok : okM ls[n].f0 = true := by rw [he]; exact okM_part hok _ _
        have hs : gs[n].f0 = (ls[n].f0.length : Int) := by
          rw [he]
          simp only [List.length_drop, List.length_take]
          omega
        rw [rdG_lt hn']
        obtain ⟨g, hgg⟩ : ∃ g, gs[n] = g := ⟨_, rfl⟩
        obtain ⟨c, hcc⟩ : ∃ c, ls[n].f0 = c := ⟨_, rfl⟩
        rw [hgg] at h3 h5
        rw [hgg, hcc] at hs
        rw [hcc] at hcok
        rw [hgg, hcc]
        have o1 : ∀ b, (⟨(gnm c [⟨g.f0, b⟩]).toArray⟩ : ByteArray) = gname ⟨c, b⟩ := fun b => gnm_one (grp_one c g.f0 b hcok hs (by omega) (by omega))
        refine EvP.bind (contour_of c hcok) (fun _ e => ?_)
        subst e
        have hcs : (con c).size ≤ 3 := by rw [con_size]; omega
        have hn2 : nameB (con c) = nnm (con c) := if_pos ⟨con_ok (by omega), hcs⟩
        refine EvP.bind (P := (· = gname ⟨c, false⟩)) (EvP.con ((impl_nn _).trans (congrArg some (hn2.trans (gname_f c).symm))) rfl) (fun _ e => ?_)
        subst e
        refine EvP.yes (by omega) (EvP.yes (by omega) ?_)
        refine EvP.bind (impl_gnames c [⟨g.f0, g.f1⟩] (by simp)) (fun _ e => ?_)
        subst e
        refine EvP.bind (impl_gnames c [⟨g.f0, false⟩] (by simp)) (fun _ e => ?_)
        subst e
        rw [o1, o1]
        obtain ⟨u, v, t, hu, hv, huv⟩ := gname_flip c false
        have hv : (gname ⟨c, true⟩).data.toList = v :: t := hv
        have su : 1 ≤ (gname ⟨c, false⟩).size := by rw [← list_len, hu]; simp
        have sv : 1 ≤ (gname ⟨c, true⟩).size := by rw [← list_len, hv]; simp
        refine EvP.no (by rw [list_eq, hu]; simp) (EvP.yes rfl ?_)
        cases hf : g.f1 with
        | false =>
          exact EvP.yes (by simp) (EvP.yes (by omega) (EvP.yes (by omega) (EvP.ret (by simp))))
        | true =>
          refine EvP.yes ?_ (EvP.yes (by omega) (EvP.yes (by omega) (EvP.ret ?_)))
          · rw [list_eq, list_eq, hu, hv]
            have : ¬ v = u := fun e => huv e.symm
            simp [this]
          · rw [ext_tail hv hu]
            simp
      · cases h2
end Go.Proofs.YtldepdaglapdeaaDoor.Pur
end
section
namespace Go.Proofs.YtldepdaglapdeaaDoor.Head
set_option maxRecDepth 100000
theorem and_t {a b : Bool} (h : a = true) (k : b = true) : (a && b) = true := by rw [h, k]; rfl
theorem mayEnter_of {P : Program} {l : List String} {W rest : List (List Char)} (h : behindMainWord (wordsSigns P.initOrder.toList) = W) (hc : ∃ c r, W = c :: r ∧ (c == "gc".toList || c == "spec".toList) = false ∧ (c == "carried".toList) = false) (hs : stripLifts liftWords W = (l, "cut".toList :: rest))
    (hl : (l.contains "finals" || !P.laysLater) = true) (hb : (l.contains "reflectrows" || !P.bearsReflect) = true) (hr : (l.contains "reflectrows" || !l.contains "leanrows") = true) (hd : P.doorFits l = true) : P.mayEnter = true := by
  obtain ⟨c, r, rfl, h1, h2⟩ := hc
  unfold Program.mayEnter
  rw [h]
  dsimp only
  rw [hs, hl, hb, hr, hd, h1, h2]
  simp
theorem headLifts_of {P : Program} {l : List String} {W rest : List (List Char)} (h : behindMainWord (wordsSigns P.initOrder.toList) = W) (hs : stripLifts liftWords W = (l, "cut".toList :: rest)) : P.headLifts = l := by
  unfold Program.headLifts
  rw [h]
  dsimp only
  rw [hs]
  simp
theorem liftsFinal_of {P : Program} {l : List String} {W rest : List (List Char)} (h : behindMainWord (wordsSigns P.initOrder.toList) = W) (hc : ∃ c r, W = c :: r ∧ (c == "gc".toList || c == "spec".toList) = false ∧ (c == "carried".toList) = false) (hs : stripLifts liftWords W = (l, "cut".toList :: rest)) : P.liftsFinal = l.contains "finals" := by
  unfold Program.liftsFinal
  rw [headLifts_of h hs, h]
  obtain ⟨c, r, rfl, h1, h2⟩ := hc
  have h3 : ((c :: r).head? == some "carried".toList) = false := by
    rw [beq_eq_false_iff_ne] at h2 ⊢
    exact fun e => h2 (Option.some.inj e)
  dsimp only
  rw [h3, Bool.false_and, Bool.false_or]
theorem make_of {P : Program} {rest : List (List Char)} (h : behindMainWord (wordsSigns P.initOrder.toList) = "cut".toList :: rest) : P.make = some .cut := by
  unfold Program.make
  rw [h]
  dsimp only
  rw [if_neg (by decide), if_pos (by simp)]
theorem mainIs_of {P : Program} {s : List Char} {rest : List (List Char)} (h : wordsSigns P.initOrder.toList = "harness".toList :: s :: rest) (hs : isSumSigns s = true) : P.mainIs = some (true, s) := by
  unfold Program.mainIs
  rw [h]
  dsimp only
  rw [hs]
  simp
def io : List Nat := [104, 97, 114, 110, 101, 115, 115, 32, 57, 99, 50, 99, 97, 51, 98, 50, 56, 49, 102, 102, 56, 98, 49, 57, 101, 56, 57, 55, 53, 51, 99, 51, 53, 97, 56, 57, 48, 52, 57, 102, 98, 48, 54, 100, 51, 100, 50, 98, 49, 50, 97, 100, 102, 57, 52, 55, 99, 51, 100, 99, 50, 55, 56, 54, 50, 48, 54, 55, 57, 52, 52, 56, 32, 99, 117, 116, 32, 97, 116, 32, 108, 111, 111, 112, 46, 101, 120, 97, 109, 112, 108, 101, 47, 110, 101, 117, 109, 101, 115, 47, 108, 97, 119, 115, 46, 70, 110, 69, 120, 97, 99, 116, 71, 114, 111, 117, 112, 115, 78, 97, 109, 101, 115, 32, 108, 111, 111, 112, 46, 101, 120, 97, 109, 112, 108, 101, 47, 110, 101, 117, 109, 101, 115, 47, 108, 97, 119, 115, 46, 70, 110, 69, 120, 97, 99, 116, 71, 114, 111, 117, 112, 115, 82, 101, 97, 100, 32, 108, 111, 111, 112, 46, 101, 120, 97, 109, 112, 108, 101, 47, 110, 101, 117, 109, 101, 115, 47, 108, 97, 119, 115, 46, 70, 110, 71, 114, 111, 117, 112, 115, 32, 108, 111, 111, 112, 46, 101, 120, 97, 109, 112, 108, 101, 47, 110, 101, 117, 109, 101, 115, 47, 108, 97, 119, 115, 46, 70, 110, 71, 114, 111, 117, 112, 115, 67, 117, 116, 32, 108, 111, 111, 112, 46, 101, 120, 97, 109, 112, 108, 101, 47, 110, 101, 117, 109, 101, 115, 47, 108, 97, 119, 115, 46, 70, 110, 78, 101, 117, 109, 101, 67, 111, 110, 116, 111, 117, 114, 32, 108, 111, 111, 112, 46, 101, 120, 97, 109, 112, 108, 101, 47, 110, 101, 117, 109, 101, 115, 47, 108, 97, 119, 115, 46, 70, 110, 71, 114, 111, 117, 112, 115, 82, 101, 97, 100]
def ws : List (List Nat) := [[104, 97, 114, 110, 101, 115, 115], [57, 99, 50, 99, 97, 51, 98, 50, 56, 49, 102, 102, 56, 98, 49, 57, 101, 56, 57, 55, 53, 51, 99, 51, 53, 97, 56, 57, 48, 52, 57, 102, 98, 48, 54, 100, 51, 100, 50, 98, 49, 50, 97, 100, 102, 57, 52, 55, 99, 51, 100, 99, 50, 55, 56, 54, 50, 48, 54, 55, 57, 52, 52, 56], [99, 117, 116], [97, 116], [108, 111, 111, 112, 46, 101, 120, 97, 109, 112, 108, 101, 47, 110, 101, 117, 109, 101, 115, 47, 108, 97, 119, 115, 46, 70, 110, 69, 120, 97, 99, 116, 71, 114, 111, 117, 112, 115, 78, 97, 109, 101, 115], [108, 111, 111, 112, 46, 101, 120, 97, 109, 112, 108, 101, 47, 110, 101, 117, 109, 101, 115, 47, 108, 97, 119, 115, 46, 70, 110, 69, 120, 97, 99, 116, 71, 114, 111, 117, 112, 115, 82, 101, 97, 100], [108, 111, 111, 112, 46, 101, 120, 97, 109, 112, 108, 101, 47, 110, 101, 117, 109, 101, 115, 47, 108, 97, 119, 115, 46, 70, 110, 71, 114, 111, 117, 112, 115], [108, 111, 111, 112, 46, 101, 120, 97, 109, 112, 108, 101, 47, 110, 101, 117, 109, 101, 115, 47, 108, 97, 119, 115, 46, 70, 110, 71, 114, 111, 117, 112, 115, 67, 117, 116], [108, 111, 111, 112, 46, 101, 120, 97, 109, 112, 108, 101, 47, 110, 101, 117, 109, 101, 115, 47, 108, 97, 119, 115, 46, 70, 110, 78, 101, 117, 109, 101, 67, 111, 110, 116, 111, 117, 114], [108, 111, 111, 112, 46, 101, 120, 97, 109, 112, 108, 101, 47, 110, 101, 117, 109, 101, 115, 47, 108, 97, 119, 115, 46, 70, 110, 71, 114, 111, 117, 112, 115, 82, 101, 97, 100]]
def ch (w : List Nat) : List Char := w.map Char.ofNat
theorem io_is : Tryd.prog.initOrder = String.ofList (ch io) := by kernel_rfl
theorem io_ws : wordsSigns (ch io) = ws.map ch := by kernel_rfl
theorem io_all : wordsSigns Tryd.prog.initOrder.toList = ws.map ch := by rw [io_is, String.toList_ofList, io_ws]
theorem be : behindMainWord (ws.map ch) = (ws.drop 2).map ch := by kernel_rfl
theorem io_be : behindMainWord (wordsSigns Tryd.prog.initOrder.toList) = (ws.drop 2).map ch := by rw [io_all, be]
theorem first : ∃ c r, (ws.drop 2).map ch = c :: r ∧ (c == "gc".toList || c == "spec".toList) = false ∧ (c == "carried".toList) = false := ⟨ch (ws.getD 2 []), (ws.drop 3).map ch, by kernel_rfl, by kernel_rfl, by kernel_rfl⟩
theorem st : stripLifts liftWords ((ws.drop 2).map ch) = ([], "cut".toList :: ((ws.drop 3).map ch)) := by kernel_rfl
theorem ll : ([].contains "finals" || !Tryd.prog.laysLater) = true := by kernel_rfl
theorem br : ([].contains "reflectrows" || !Tryd.prog.bearsReflect) = true := by kernel_rfl
theorem rr : ([].contains "reflectrows" || ![].contains "leanrows") = true := by kernel_rfl
theorem df : Tryd.prog.doorFits [] = true := by kernel_rfl
theorem mayE : Tryd.prog.mayEnter = true := mayEnter_of io_be first st ll br rr df
theorem finE : Tryd.prog.liftsFinal = [].contains "finals" := liftsFinal_of io_be first st
theorem mainE : Tryd.prog.mainIs = some (true, ch [57, 99, 50, 99, 97, 51, 98, 50, 56, 49, 102, 102, 56, 98, 49, 57, 101, 56, 57, 55, 53, 51, 99, 51, 53, 97, 56, 57, 48, 52, 57, 102, 98, 48, 54, 100, 51, 100, 50, 98, 49, 50, 97, 100, 102, 57, 52, 55, 99, 51, 100, 99, 50, 55, 56, 54, 50, 48, 54, 55, 57, 52, 52, 56]) := mainIs_of (rest := (ws.drop 2).map ch) (io_all.trans (by kernel_rfl)) (by kernel_rfl)
theorem makeE : Tryd.prog.make = some .cut := make_of (io_be.trans (by kernel_rfl : (ws.drop 2).map ch = "cut".toList :: ((ws.drop 3).map ch)))
end Go.Proofs.YtldepdaglapdeaaDoor.Head
end
section
namespace Go.Proofs.YtldepdaglapdeaaDoor.Pur
open Go.RowKit Go.ChangeShapes Go.Deep Go.Proofs.YtldepdaglapdeaaDoorW.PrintWords Go.Proofs.YtldepdaglapdeaaDoor.E
theorem open_rowP {P : Program} {H : Type} {enc : TypeId × Value → H} {W : World} {α : Type} [Inhabited α] {d : Kd α} {p : α → Prop} {t e : TypeId} {fuel : Nat} {cs : List Value} {x : DataW H × List MemPlace} (ht : P.underlying t = some (.slice e)) (hc : P.cellsOf e = d.sz)
    (o : ∀ (fuel : Nat) (cs : List Value) (x : DataW H × List MemPlace), DataW.trod enc P W 0 (fun _ => true) true fuel e cs = some x → ∃ y, d.K W y cs ∧ p y)
    (h : DataW.trod enc P W 0 (fun _ => true) true fuel t cs = some x) : ∃ (A : Option Addr) (c : Nat) (l : List α), cs = [.slice A l.length c] ∧ l.length ≤ c ∧ (l.length : Int) ≤ 9223372036854775807 ∧ d.C W A l.length l ∧ ∀ y ∈ l, p y := by
  rcases open_slice ht h with ⟨rfl, _⟩ | ⟨a, len, cap, m, n, D, Pl, rfl, _, hl, hm, hmm, _, hx⟩
  · exact ⟨none, 0, [], rfl, Nat.le_refl _, by simp, ⟨rfl, by simp, fun h => absurd h (by simp)⟩, fun y hy => by cases hy⟩
  · have hlm : len ≤ m := by rw [hmm]; simp; omega
    unfold maxLen at hm
    obtain ⟨Y, hY⟩ := choose_lt (α := α) (n := len) (p := fun i y => ∃ cs', W.cells? 0 (a.add (i * P.cellsOf e)) (P.cellsOf e) = some cs' ∧ d.K W y cs' ∧ p y) (fun i hi => by
      obtain ⟨cs', h1, h2⟩ := hx i (by omega)
      obtain ⟨y, hy, hp⟩ := o _ _ _ h2
      exact ⟨y, cs', h1, hy, hp⟩)
    have hlen : ((List.range len).map Y).length = len := by simp
    refine ⟨some a, cap, (List.range len).map Y, by rw [hlen], by rw [hlen]; exact hl, by rw [hlen]; omega, ⟨rfl, by rw [hlen]; omega, fun _ => ⟨a, rfl, fun j q hj => ?_⟩⟩, fun y hy => ?_⟩
    · obtain ⟨hj1, hj2⟩ := List.getElem?_eq_some_iff.1 hj
      rw [hlen] at hj1
      simp only [List.getElem_map, List.getElem_range] at hj2
      subst hj2
      obtain ⟨cs', h1, h2, _⟩ := hY j hj1
      obtain ⟨_, g1, g2⟩ := World.cells?_some h1
      refine ⟨cs', by rw [g1, hc], h2, fun i u hu => ?_⟩
      have := g2 i (by rw [← g1]; exact (List.getElem?_eq_some_iff.1 hu).1)
      rw [Go.Deep.add_add, hc, hu] at this
      exact this
    · obtain ⟨j, hj, rfl⟩ := List.mem_map.mp hy
      obtain ⟨_, _, _, hp⟩ := hY j (List.mem_range.mp hj)
      exact hp
theorem open_intsR {P : Program} {H : Type} {enc : TypeId × Value → H} {W : World} {k : IntKind} {t e : TypeId} {fuel : Nat} {cs : List Value} {x : DataW H × List MemPlace} (ht : P.underlying t = some (.slice e)) (he : P.underlying e = some (.int k)) (hc : P.cellsOf e = 1) (h : DataW.trod enc P W 0 (fun _ => true) true fuel t cs = some x) :
    ∃ (A : Option Addr) (c : Nat) (l : List Int), cs = [.slice A l.length c] ∧ l.length ≤ c ∧ (l.length : Int) ≤ 9223372036854775807 ∧ (Kd.int k).C W A l.length l ∧ ∀ y ∈ l, (Lit.int k y).wf = true :=
  open_rowP ht hc (fun fuel cs x h => by
    obtain ⟨s, rfl, _, hs⟩ := DataW.trod_int he h
    exact ⟨s, rfl, hs⟩) h
end Go.Proofs.YtldepdaglapdeaaDoor.Pur
end
section
namespace Go.Proofs.YtldepdaglapdeaaDoor.Pur
open Go
variable {H : Type} {enc : TypeId × Value → H}
theorem handed_shaped_and {a : Assume} {C : Checked} {os : Os} {f : FuncId} {fn : Func} {s : ChangeSpec} {conds : List PathCond} {apart fresh handsOn again : Bool} {X : World → Array Value → Prop}
    (hX : ∀ (w w' : World) (args : Array Value), w.heap = w'.heap → X w args → X w' args)
    (own : ownKnob C.prog.godebug = none) (started : os.Started) (noInit : C.prog.inits.idxOf? f = none) (hfn : C.prog.funcs[f]? = some fn)
    (witness : ∃ (w : World) (tape : Tape) (i : Input), w.os = os ∧ (w.forCall tape i).Shaped C.prog ∧ i.vars = [] ∧ Input.okWide C.prog (w.forCall tape i) .any w.heap.size f i ∧
      ((s.pre enc C.prog fn conds apart (w.forCall tape i).memory i.args ∧ X (w.forCall tape i).memory i.args) ∧ sizedMet enc C.prog fn (OpenSpec.ofChange s) apart (w.forCall tape i).memory i.args) ∧ a.holds C.prog (lone (Frame.enter C.prog f i.args .normal) [] (w.forCall tape i)))
    (contract : ∀ (W : World) (base : Nat) (args : Array Value) (ds gs : List (DataW H)) (before : List MemPlace),
      (∀ (j : Nat) t v, fn.params[j]? = some t → args[j]? = some v → Value.okWide C.prog W .any base t v) →
      DataW.Whole enc C.prog fn.params.toList s.vars apart W args.toList ds gs before →
      conds.all (PathCond.test C.prog ⟨fn.params.toList, ds, s.plain.varTypes C.prog, gs⟩) = true →
      (DataW.weightsEach C.prog (fn.params.toList ++ s.plain.varTypes C.prog) (ds ++ gs)).all (· ≤ reachBytes) = true → X W args → W.ShapedOpen C.prog →
      a.holds C.prog (lone (Frame.enter C.prog f args .normal) [] W) →
      Calls C.prog f args W fun e W' => ∃ v, e = .returned v ∧ s.post enc C.prog fn apart fresh handsOn again W args v W') :
    ReturnsInHanded a C os f .any (fun w args => (s.pre enc C.prog fn conds apart w args ∧ X w args) ∧ sizedMet enc C.prog fn (OpenSpec.ofChange s) apart w args) (s.post enc C.prog fn apart fresh handsOn again) := by
  refine returnsInHanded_of_calls own started noInit witness ?_
  intro w tape i _ hsh _ hok hpre hholds
  obtain ⟨_, _, _, fn', hfn', _, _, _, _, hval⟩ := hok
  have e : fn' = fn := Option.some.inj (hfn'.symm.trans hfn)
  subst e
  obtain ⟨⟨⟨ds, gs, before, hw, hc⟩, hx⟩, hz⟩ := hpre
  have hw' := DataW.Whole.of_heap (w' := w.forCall tape i) (by rfl) hw
  refine (contract (w.forCall tape i) w.heap.size i.args ds gs before hval hw' hc (hz.weights hw) (hX _ _ _ (by rfl) hx) hsh hholds).mono fun e W' ⟨v, he, hp⟩ => ?_
  subst he
  exact ChangeSpec.post_blind hp
end Go.Proofs.YtldepdaglapdeaaDoor.Pur
end
section
namespace Go.Proofs.YtldepdaglapdeaaDoor.Pur
open Go.Proofs.YtldepdaglapdeaaDoor.E Go Go.RowKit Go.ChangeShapes
theorem laid_mem {P : Program} {W : World} {n : String} {d : DataW Unit} : ∀ {l : List (String × DataW Unit)} {ps : List MemPlace}, DataW.LaidVars P W l ps → (n, d) ∈ l →
    ∃ g t cs fuel p, P.globalNamed n = some g ∧ (P.globals[g]?).map (·.type) = some t ∧ W.var? P n = some cs ∧ DataW.trod (fun _ => ()) P W 0 (fun _ => true) false fuel t cs.toList = some (d, p)
  | [], _, _, h => by cases h
  | (n', d') :: r, ps, ⟨g, t, cs, fuel, p, q, h1, h2, h3, h4, h5, _⟩, h => by
    rcases List.mem_cons.mp h with e | e
    · cases e
      exact ⟨g, t, cs, fuel, p, h1, h2, h3, h4⟩
    · exact laid_mem h5 e
theorem vars_cons {H : Type} {enc : TypeId × Value → H} {P : Program} {w : World} {sp : Nat → Bool} {n : String} {ns : List String} {gs : List (DataW H)} {ps : List MemPlace} (h : DataW.TrodVars enc P w sp (n :: ns) gs ps) : ∃ g gs' q, gs = g :: gs' ∧ DataW.TrodVars enc P w sp ns gs' q := by
  cases gs with
  | nil => exact h.elim
  | cons g r =>
    obtain ⟨_, _, _, _, _, q, _, _, _, _, hs, _⟩ := h
    exact ⟨g, r, q, rfl, hs⟩
theorem vars_nil {H : Type} {enc : TypeId × Value → H} {P : Program} {w : World} {sp : Nat → Bool} {gs : List (DataW H)} {ps : List MemPlace} (h : DataW.TrodVars enc P w sp [] gs ps) : gs = [] := by
  cases gs with
  | nil => rfl
  | cons _ _ => exact h.elim
theorem laid_vars {P : Program} {l : List (String × DataW Unit)} {W : World} (h : laidMetH P l W) (hp : (l.all fun x => x.2.handleName?.isNone) = true) : ∃ ps, DataW.LaidVars P W l ps := by
  rw [MakeChecks.laidMetH_plain _ _ _ hp] at h
  obtain ⟨ps, h, _⟩ := h
  exact ⟨ps, h⟩
theorem ba_of_list {s : ByteArray} {l : List UInt8} (h : s.data.toList = l) : s = ⟨l.toArray⟩ := by
  obtain ⟨⟨d⟩⟩ := s
  subst h
  rfl
theorem cells_r : Tryd.prog.cellsOf 86 = 2 := by kernel_rfl
theorem cells_r7 : Tryd.prog.cellsOf 87 = 14 := by kernel_rfl
theorem row_read {P : Program} {H : Type} {enc : TypeId × Value → H} {W : World} {base fuel : Nat} {spare : Nat → Bool} {held : Bool} {t : TypeId} {f0 f1 : Field} {cs : List Value} {x : DataW H × List MemPlace} {a b : List UInt8} (ht : P.underlying t = some (.struct #[f0, f1])) (h0 : P.underlying f0.type = some .string) (h1 : P.underlying f1.type = some .string)
    (c0 : P.cellsOf f0.type = 1) (c1 : P.cellsOf f1.type = 1) (ct : P.cellsOf t = 2) (o0 : f0.offset = 0) (o1 : f1.offset = 1) (h : DataW.trod enc P W base spare held fuel t cs = some x) (hx : x.1 = .agg [.lit (.string a), .lit (.string b)]) : cs = [.string ⟨a.toArray⟩, .string ⟨b.toArray⟩] := by
  obtain ⟨y0, y1, n, rfl, hl, e0, e1⟩ := trod_struct2 ht h
  rw [ct] at hl
  rw [c0, o0] at e0
  rw [c1, o1] at e1
  obtain ⟨s0, q0, rfl, _⟩ := DataW.trod_string h0 e0
  obtain ⟨s1, q1, rfl, _⟩ := DataW.trod_string h1 e1
  match cs, hl with
  | [u, v], _ =>
    simp at q0 q1 hx
    rw [q0, q1, ba_of_list hx.1, ba_of_list hx.2]
theorem heap_of_var {P : Program} {W : World} {n : String} {g : Nat} {cs : Array Value} (hg : P.globalNamed n = some g) (h : W.var? P n = some cs) : ∃ t fr, W.heap[g]? = some (.cells cs t fr) := by
  unfold World.var? at h
  rw [hg, Option.bind_some] at h
  split at h
  · rename_i c t fr he
    obtain rfl := Option.some.inj h
    exact ⟨t, fr, he⟩
  · cases h
theorem take2 {α : Type} {l : List α} {i : Nat} {a b : α} (h : (l.drop (i * 2)).take 2 = [a, b]) : l[i * 2]? = some a ∧ l[i * 2 + 1]? = some b := by
  have h0 := congrArg (·[0]?) h
  have h1 := congrArg (·[1]?) h
  simp only [List.getElem?_take, List.getElem?_drop] at h0 h1
  exact ⟨by simpa using h0, by simpa using h1⟩
theorem seven {α : Type} {l : List α} (h : l.length = 7) : ∃ c0 c1 c2 c3 c4 c5 c6, l = [c0, c1, c2, c3, c4, c5, c6] := by
  match l, h with
  | [a, b, c, d, e, f, g], _ => exact ⟨a, b, c, d, e, f, g, rfl⟩
theorem rows_cells {W : World} {l : List (String × DataW Unit)} {ps : List MemPlace} (h : DataW.LaidVars Tryd.prog W l ps) (hm : ("loop.example/neumes/impl.neumeRows", Rows.laid_loop_example_neumes_impl_neumeRows) ∈ l) :
    W.var? Tryd.prog "loop.example/neumes/impl.neumeRows" = some rowsN.toArray := by
  obtain ⟨g, t, cs, fuel, p, hg, ht, hvar, hd⟩ := laid_mem h hm
  obtain rfl := Option.some.inj ((show Tryd.prog.globalNamed "loop.example/neumes/impl.neumeRows" = some 0 by kernel_rfl).symm.trans hg)
  obtain rfl := Option.some.inj ((show (Tryd.prog.globals[0]?).map (·.type) = some 87 by kernel_rfl).symm.trans ht)
  rw [hvar]
  congr 1
  obtain ⟨l⟩ := cs
  obtain ⟨xs, m, _, hx, hl, hn, hi⟩ := DataW.trod_array Tryd.underlying87 hd
  rw [cells_r7] at hl
  have hx1 := (Prod.mk.inj hx).1
  obtain ⟨x0, x1, x2, x3, x4, x5, x6, rfl⟩ := seven hn
  simp only [Rows.laid_loop_example_neumes_impl_neumeRows, List.map_cons, List.map_nil, DataW.agg.injEq, List.cons.injEq, and_true] at hx1
  obtain ⟨y0, y1, y2, y3, y4, y5, y6⟩ := hx1
  have rd : ∀ (i : Nat) (x : DataW Unit × List MemPlace) (a b : List UInt8), i < 7 → [x0, x1, x2, x3, x4, x5, x6][i]? = some x → x.1 = .agg [.lit (.string a), .lit (.string b)] → l[i * 2]? = some (.string ⟨a.toArray⟩) ∧ l[i * 2 + 1]? = some (.string ⟨b.toArray⟩) := by
    intro i x a b h7 hix hxx
    have := hi i h7
    rw [hix, cells_r] at this
    exact take2 (row_read Tryd.underlying86 (by kernel_rfl) (by kernel_rfl) (by kernel_rfl) (by kernel_rfl) (by kernel_rfl) rfl rfl this hxx)
  have z0 := rd 0 x0 _ _ (by decide) rfl y0.symm
  have z1 := rd 1 x1 _ _ (by decide) rfl y1.symm
  have z2 := rd 2 x2 _ _ (by decide) rfl y2.symm
  have z3 := rd 3 x3 _ _ (by decide) rfl y3.symm
  have z4 := rd 4 x4 _ _ (by decide) rfl y4.symm
  have z5 := rd 5 x5 _ _ (by decide) rfl y5.symm
  have z6 := rd 6 x6 _ _ (by decide) rfl y6.symm
  have : l = rowsN := by
    apply List.ext_getElem?
    intro i
    match i with
    | 0 => exact z0.1
    | 1 => exact z0.2
    | 2 => exact z1.1
    | 3 => exact z1.2
    | 4 => exact z2.1
    | 5 => exact z2.2
    | 6 => exact z3.1
    | 7 => exact z3.2
    | 8 => exact z4.1
    | 9 => exact z4.2
    | 10 => exact z5.1
    | 11 => exact z5.2
    | 12 => exact z6.1
    | 13 => exact z6.2
    | i + 14 =>
      have hl' : l.length = 14 := hl
      rw [List.getElem?_eq_none (by omega), List.getElem?_eq_none (by have : rowsN.length = 14 := rfl; omega)]
  rw [this]
theorem gok_rows {W : World} {l : List (String × DataW Unit)} (h : laidMetH Tryd.prog l W) (hp : (l.all fun x => x.2.handleName?.isNone) = true) (hm : ("loop.example/neumes/impl.neumeRows", Rows.laid_loop_example_neumes_impl_neumeRows) ∈ l) : GOk [0] W := by
  obtain ⟨ps, hv⟩ := laid_vars h hp
  intro n hn
  obtain rfl := List.mem_singleton.mp hn
  exact heap_of_var (by kernel_rfl) (rows_cells hv hm)
end Go.Proofs.YtldepdaglapdeaaDoor.Pur
end
section
namespace Go.Proofs.YtldepdaglapdeaaDoor.fnGroupsCut
open Go.ChangeShapes Go.WideShapes Go.ChangeAt Go.RowKit
open Go.ChangeMaps (open_string shut_string)
set_option linter.unusedVariables false
theorem own : ownKnob Tryd.prog.godebug = none := by kernel_rfl
theorem laidOut : laidOutB Tryd.prog = true := by kernel_rfl
set_option maxRecDepth 100000 in
theorem lifted (os : Os) (started : os.Started) (H : Type) (enc : TypeId × Value → H) :
    ReturnsInHanded {} Tryd.checked os 6 .any (fun w args => (Rows.fnGroupsCutSpec.pre enc Tryd.prog Tryd.f6 Rows.fnGroupsCutRow.domain false w args ∧ laidMetH Tryd.prog Rows.fnGroupsCutRow.laid w) ∧ sizedMet enc Tryd.prog Tryd.f6 (OpenSpec.ofChange Rows.fnGroupsCutSpec) false w args) (Rows.fnGroupsCutSpec.post enc Tryd.prog Tryd.f6 false true false false) := by
  refine Pur.handed_shaped_and (C := Tryd.checked) (X := fun w _ => laidMetH Tryd.prog Rows.fnGroupsCutRow.laid w) (fun _ _ _ hh h => h.of_heap hh) own started (by kernel_rfl) Tryd.func6
    (ChangeSpec.witness_shaped (enc := enc) (C := Tryd.checked) (os := os) (X := fun w _ => laidMetH Tryd.prog Rows.fnGroupsCutRow.laid w) false (World.laidAll Tryd.prog os Rows.fnGroupsCutRow.laid) #[.slice none 0 0] 8 (World.laidAll_os _ _ _) (World.shaped_of_ZipB (by kernel_rfl) (by kernel_rfl)) (by kernel_rfl) (by kernel_rfl) (by kernel_rfl) (by rw [MakeChecks.laidMetH_plain _ _ _ (by kernel_rfl)]; exact laidMet_laidAll _ (by kernel_rfl) (by kernel_rfl))) ?_
  intro W base args ds gs before hval0 hW hcnd hsz0 hL hSh _
  have hsz : (DataW.weightsEach Tryd.prog (Tryd.f6.params.toList ++ Rows.fnGroupsCutSpec.plain.varTypes Tryd.prog) (ds ++ gs)).all (· ≤ reachBytes) = true := hsz0
  have hval : ∀ (j : Nat) t v, Tryd.f6.params[j]? = some t → args[j]? = some v → Value.okWide Tryd.prog W .any base t v := hval0
  have hW' := hW
  obtain ⟨p, q, hA0, hV, rfl, hfz, hnd⟩ := hW
  have hA : DataW.TrodAll enc Tryd.prog W 0 (fun _ => true) true Tryd.f6.params.toList args.toList ds p := hA0
  rw [Tryd.params6] at hA hval hsz
  obtain ⟨v0, vs0, d0, ds0, p0, q0, hargs, rfl, rfl, h0, r0⟩ := trodAll_cons hA
  obtain ⟨rfl, rfl, rfl⟩ := trodAll_nil r0
  obtain rfl : args = #[v0] := by cases args; simp_all
  obtain ⟨g0, gs0, vq0, rfl, hV0⟩ := Pur.vars_cons hV
  obtain rfl := Pur.vars_nil hV0
  have k0 := h0
  have lt0 : ∀ x ∈ p0, x.block < W.heap.size := by obtain ⟨m, hm⟩ := k0; exact DataW.trod_lt m _ _ _ hm
  obtain ⟨a0, len0, cap0, rfl⟩ := okWide_slice Tryd.underlying36 (hval 0 36 v0 rfl rfl)
  obtain ⟨fuel0, hf0⟩ := h0
  obtain ⟨A0, c0, l0, hcs0, hle0, hm0, hC0, hx0⟩ := Pur.open_intsR Tryd.underlying36 Tryd.underlying5 (by kernel_rfl) hf0
  simp [Value.cells] at hcs0
  obtain ⟨rfl, rfl, rfl⟩ := hcs0
  clear hA0 hval0 hsz0 hsz
  obtain ⟨k, hk⟩ := Pur.law_gcut l0 hm0 hx0
  refine (E.laws_FnGroupsCut.calls k _ _ l0 true W hC0 hle0 (Pur.gok_rows hL (by kernel_rfl) (by first | exact .head _ | exact .tail _ (.head _) | exact .tail _ (.tail _ (.head _)) | exact .tail _ (.tail _ (.tail _ (.head _))) | exact .tail _ (.tail _ (.tail _ (.tail _ (.head _)))) | exact .tail _ (.tail _ (.tail _ (.tail _ (.tail _ (.head _))))))) hk).mono fun e W' ⟨he, bel⟩ => ?_
  subst he
  exact ⟨_, rfl, _, _, _, [], _, _, hW', trodAll_mk1 (shut_bool Tryd.underlying4 _), (trodAll_cons_mk (Below.trod laidOut (by kernel_rfl) (of_decide_eq_true (by kernel_rfl)) k0 bel lt0) trodAll_mk0), (Below.trodVars laidOut bel (by kernel_rfl) hV), bel.frame _, fun h => by cases h⟩
set_option maxRecDepth 100000 in
theorem closed : joinedFacts Tryd.prog 6 Tryd.f6 Rows.fnGroupsCutSpec Rows.fnGroupsCutRow = true := by
  have hf : (Rows.fnGroupsCutRow.lifted == Tryd.prog.liftsFinal) = true := by rw [Head.finE]; kernel_rfl
  have hm : (Tryd.prog.make == some Rows.fnGroupsCutRow.make) = true := by rw [Head.makeE]; kernel_rfl
  unfold joinedFacts
  repeat' (with_reducible refine Head.and_t ?_ ?_)
  all_goals first | with_reducible exact Head.mayE | with_reducible exact hf | with_reducible exact hm | (as_aux_lemma => kernel_rfl)
theorem over : Rows.fnGroupsCutRow.holds Tryd.pinned (OpenSpec.ofChange Rows.fnGroupsCutSpec) :=
  OpenClaim.holds_of_wide 6 Tryd.f6 rfl rfl rfl rfl rfl rfl rfl ⟨rfl, rfl, rfl, rfl, rfl⟩ rfl rfl rfl rfl rfl (by kernel_rfl) Tryd.func6 closed
    (of_decide_eq_true (by kernel_rfl)) (by unfold Func.isWrapper; first | (rw [if_pos (by decide +kernel)]; kernel_rfl) | (rw [if_neg (by decide +kernel)]; exact ⟨rfl, rfl⟩))
    (fun os started H enc _ => lifted os started H enc)
theorem card_ : Rows.FnGroupsCutCardSaid :=
  Claim7.holds_tied_plain_at .later [] [.data, .data, .pinned, .pinned] true (true, "9c2ca3b281ff8b19e89753c35a89049fb06d3d2b12adf947c3dc278620679448") false
    over (fun _ h => by cases h) (by as_aux_lemma => kernel_rfl) (fun _ h => by cases h) fnGroupsCut_row_tie rfl ⟨rfl, rfl⟩ (Head.mainE.trans (by as_aux_lemma => kernel_rfl)) rfl
    (fun f fn hf hfn => by
      obtain rfl : f = 6 := Option.some.inj ((show Tryd.prog.funcNamed "loop.example/neumes/laws.FnGroupsCut" = some 6 by kernel_rfl).symm.trans hf) |>.symm
      obtain rfl : fn = Tryd.f6 := (Option.some.inj (Tryd.func6.symm.trans hfn)).symm
      exact ⟨by kernel_rfl, fun j t ht => by
        rw [Tryd.params6] at ht
        have hm : t ∈ [36] := by simpa using Array.mem_of_getElem? ht
        have hall : ([36].all fun u => !Tryd.prog.wantsStandIn u) = true := by kernel_rfl
        exact (show Tryd.prog.wantsStandIn t = false by simpa using List.all_eq_true.1 hall t hm)⟩)
    (by kernel_rfl)
theorem proved : Rows.FnGroupsCutCardSaid := card_
#print axioms proved
end Go.Proofs.YtldepdaglapdeaaDoor.fnGroupsCut
namespace Go.Proofs.YtldepdaglapdeaaDoor
theorem fnGroupsCut_holds : Rows.FnGroupsCutCardSaid := fnGroupsCut.proved
end Go.Proofs.YtldepdaglapdeaaDoor
end
